/-
  Layer 29: two lists of bytes held against each other; what a vault has.
-/
import Derived.Test.YtkkncijbedfdfaaLaw29
namespace Go.Proofs.Ytkkncijbedfdfaa
open Go.RowKit
set_option linter.unusedVariables false

/-- A slice that came in, or was made: records, and each one's bytes. -/
structure LsAt (W : World) (A : Option Addr) (rs : List Rec) : Prop where
  sl : SliceOf 1 recK W A rs
  bys : ∀ r ∈ rs, Bys W r.a r.bs
  len : ∀ r ∈ rs, r.bs.length ≤ 9223372036854775807
theorem LsAt.stay {W W' : World} {A : Option Addr} {rs : List Rec} (h : LsAt W A rs) (hb : Below W.heap.size W W') : LsAt W' A rs := ⟨h.sl.below hb (Nat.le_refl _), fun r hr => (h.bys r hr).stay hb, h.len⟩
theorem RecsIn.ls {W : World} {B n c : Nat} {A : Option Addr} {rs : List Rec} (h : RecsIn W B (.slice A n c) rs) (hl : ∀ r ∈ rs, r.bs.length ≤ 9223372036854775807) : LsAt W A rs := by
  obtain ⟨A', c', e, hs, _⟩ := h.own.form recK_size
  rw [Value.slice.injEq] at e
  exact ⟨by rw [e.1]; exact hs, h.bys, hl⟩
theorem LsAt.at_ {W : World} {A : Option Addr} {rs : List Rec} {j : Nat} {r : Rec} (h : LsAt W A rs) (hj : rs[j]? = some r) : ∃ b off, A = some ⟨b, off, none⟩ ∧ W.cell? ⟨b, off + j, none⟩ = some (.slice r.a r.bs.length r.c) := by
  obtain ⟨b, off, e, _, hx⟩ := h.sl (by have := (List.getElem?_eq_some_iff.1 hj).1; omega)
  have := hx j r hj 0 (.slice r.a r.bs.length r.c) rfl
  rw [Nat.mul_one, Nat.add_zero] at this
  exact ⟨b, off, e, this⟩
set_option maxHeartbeats 4000000 in
set_option maxRecDepth 100000 in
theorem lists_any (A B : Option Addr) (xs ys : List Rec) (n c m d : Nat) (hn : xs.length = n) (hm : ys.length = m) (h1 : n ≤ 9223372036854775807) (h2 : m ≤ 9223372036854775807) (w : World) (hx : LsAt w A xs) (hy : LsAt w B ys) :
    Calls Try.prog 34 #[.slice A n c, .slice B m d] w fun e w' => e = .returned (.bool (decide (xs.map (·.bs) = ys.map (·.bs)))) ∧ Below w.heap.size w w' := by
  by_cases hnm : n = m
  rotate_left
  · have HF : Hid (decide (xs.map (·.bs) = ys.map (·.bs)) = false) := Lib.hid (decide_eq_false fun e => hnm (by have := congrArg List.length e; simpa [hn, hm] using this))
    have e1 : ((n : Int) == (m : Int)) = false := beq_eq_false_iff_ne.2 (by omega)
    have e2 : ((n : Int) != (m : Int)) = true := bne_iff_ne.2 (by omega)
    clear hn hm hx hy
    go_enter Try.func34, Try.ntmps34
    go_wp2_with fail
    go_ret
    exact ⟨by rw [HF.out]; rfl, Below.refl _ _⟩
  · subst hnm
    have HX := Lib.hid hx
    have HY := Lib.hid hy
    have HN := Lib.hid (And.intro hn hm)
    clear hn hm hx hy
    go_enter Try.func34, Try.ntmps34
    go_wp2_with fail
    go_loopw [14] (fun i wr => ∃ j : Nat, i = .int .i64 j ∧ j ≤ n ∧ Hid ((xs.map (·.bs)).take j = (ys.map (·.bs)).take j ∧ Below w.heap.size w wr)) (fun i _ => n - (intOf i).toNat)
    case atStart => exact ⟨0, rfl, by omega, Lib.hid ⟨rfl, Below.refl _ _⟩⟩
    case round =>
      obtain ⟨j, rfl, hj, hH⟩ := hrel
      by_cases hlt : j < n
      · obtain ⟨x, hxj⟩ : ∃ x, xs[j]? = some x := ⟨_, List.getElem?_eq_getElem (by rw [HN.out.1]; exact hlt)⟩
        obtain ⟨y, hyj⟩ : ∃ y, ys[j]? = some y := ⟨_, List.getElem?_eq_getElem (by rw [HN.out.2]; exact hlt)⟩
        have hX := HX.out.stay hH.out.2
        have hY := HY.out.stay hH.out.2
        obtain ⟨b1, o1, hA, k1⟩ := hX.at_ hxj
        obtain ⟨b2, o2, hB, k2⟩ := hY.at_ hyj
        have hmx := List.mem_of_getElem? hxj
        have hmy := List.mem_of_getElem? hyj
        have HSm := Lib.hid (same5_any x.a y.a x.bs y.bs x.bs.length x.c y.bs.length y.c rfl rfl (hX.len x hmx) (hY.len y hmy) wr (hX.bys x hmx) (hY.bys y hmy))
        have hx2 : (xs.map (·.bs))[j]? = some x.bs := by rw [List.getElem?_map, hxj]; rfl
        have hy2 : (ys.map (·.bs))[j]? = some y.bs := by rw [List.getElem?_map, hyj]; rfl
        have HT : Hid ((xs.map (·.bs)).take (j + 1) = (xs.map (·.bs)).take j ++ [x.bs] ∧ (ys.map (·.bs)).take (j + 1) = (ys.map (·.bs)).take j ++ [y.bs] ∧ (x.bs ≠ y.bs → ¬ xs.map (·.bs) = ys.map (·.bs))) := Lib.hid ⟨by
          obtain ⟨hi, e⟩ := List.getElem?_eq_some_iff.1 hx2
          rw [List.take_succ_eq_append_getElem hi, e], by
          obtain ⟨hi, e⟩ := List.getElem?_eq_some_iff.1 hy2
          rw [List.take_succ_eq_append_getElem hi, e], fun hne e => hne (by rw [e, hy2] at hx2; exact (Option.some.inj hx2).symm)⟩
        rw [hA, hB]
        generalize x.bs.length = nx at *
        generalize y.bs.length = ny at *
        have z1 : (0 : Int) ≤ (j : Int) := by omega
        have z2 : (j : Int) < (n : Int) := by omega
        clear hxj hyj hX hY hmx hmy hx2 hy2
        by_cases hs : x.bs = y.bs
        · have hst : sameL x.bs y.bs = true := decide_eq_true hs
          rw [hst] at HSm
          have HE : Hid (x.bs = y.bs) := Lib.hid hs
          clear hs hst
          go_wp2_with fail
          refine (HSm.out).mono ?_
          rintro e w2 ⟨rfl, hb⟩
          have HB := Lib.hid (Below.then hH.out.2 hb)
          clear hb HSm k1 k2
          go_wp2_with fail
          exact ⟨⟨j + 1, by go_num, by omega, Lib.hid ⟨by rw [HT.out.1, HT.out.2.1, hH.out.1, HE.out], HB.out⟩⟩, by simp [intOf]; omega⟩
        · have hst : sameL x.bs y.bs = false := decide_eq_false hs
          rw [hst] at HSm
          have HF : Hid (decide (xs.map (·.bs) = ys.map (·.bs)) = false) := Lib.hid (decide_eq_false (HT.out.2.2 hs))
          clear hs hst
          go_wp2_with fail
          refine (HSm.out).mono ?_
          rintro e w2 ⟨rfl, hb⟩
          have HB := Lib.hid (Below.then hH.out.2 hb)
          clear hb HSm k1 k2
          go_wp2_with fail
          go_ret
          exact ⟨by rw [HF.out]; rfl, HB.out⟩
      · obtain rfl : j = n := by omega
        have HF : Hid (decide (xs.map (·.bs) = ys.map (·.bs)) = true) := Lib.hid (decide_eq_true (by
          have := hH.out.1
          rwa [List.take_of_length_le (by rw [List.length_map, HN.out.1]; exact Nat.le_refl _), List.take_of_length_le (by rw [List.length_map, HN.out.2]; exact Nat.le_refl _)] at this))
        go_wp2_with fail
        go_ret
        exact ⟨by rw [HF.out]; rfl, hH.out.2⟩
/-- What a vault is to have. -/
structure Hv where
  a7 : Option Addr
  c7 : Nat
  snap : List Nat
  a9 : Option Addr
  c9 : Nat
  rs : List Rec
def Hv.cells (u : Hv) : Array Value := #[.slice u.a7 u.snap.length u.c7, .slice u.a9 u.rs.length u.c9]
def Hv.recs (u : Hv) : List (List Nat) := u.rs.map (·.bs)
structure HvAt (W : World) (u : Hv) : Prop where
  snap : Bys W u.a7 u.snap
  ls : LsAt W u.a9 u.rs
theorem HvAt.stay {W W' : World} {u : Hv} (h : HvAt W u) (hb : Below W.heap.size W W') : HvAt W' u := ⟨h.snap.stay hb, h.ls.stay hb⟩
def hasB (v : Vt) (u : Hv) : Bool := decide (v.snap = u.snap ∧ v.recs = u.recs)
set_option maxHeartbeats 4000000 in
set_option maxRecDepth 100000 in
theorem has_any (gv g room : Nat) (br : Bool) (v : Vt) (x : VtA) (u : Hv) (hv1 : v.snap.length ≤ 10000000) (hv2 : v.recs.length < 100000) (hv3 : ∀ r ∈ v.recs, r.length ≤ 10000000) (hu1 : u.snap.length ≤ 10000000) (hu2 : u.rs.length ≤ 10000000) (w : World) (hv : VtAt w gv g room br v x) (hu : HvAt w u) :
    Calls Try.prog 19 #[.agg u.cells, .pointer (some ⟨gv, 0, none⟩)] w fun e w' => e = .returned (.bool (hasB v u)) ∧ Below w.heap.size w w' := by
  have r0 : row (w.alloc (.cells u.cells 58)) w.heap.size = some u.cells := row_at _ _ _ _ rfl
  have hb0 : Below w.heap.size w (w.alloc (.cells u.cells 58)) := (by (repeat (first | exact Below.refl _ _ | assumption | (refine Below.allocT ?_ _) | refine Below.drew ?_ | refine below_drewN ?_ _ | (refine Below.then ?_ (by assumption)) | (refine Below.setRow ?_ ?_ _; rotate_left; (focus (first | exact Nat.lt_succ_self _ | ((repeat rw [World.size_alloc]); omega) | (simp; done) | (simp; omega) | omega))) | (refine Below.setCell ?_ ?_ _; rotate_left; (focus (first | exact Nat.lt_succ_self _ | ((repeat rw [World.size_alloc]); omega) | (simp; done) | (simp; omega) | omega))) | (refine Below.then' ?_ (by assumption) ?_; rotate_left; (focus (first | exact Nat.lt_succ_self _ | ((repeat rw [World.size_alloc]); omega) | (simp; done) | (simp; omega) | omega))) | fail)); (first | done | fail))
  generalize hw0 : w.alloc (.cells u.cells 58) = w0 at *
  have HSn := Lib.hid (fun W (hb : Below w0.heap.size w0 W) => snapshot_any gv g room br v x hv1 W ((hv.stay hb0).stay hb))
  have HRc := Lib.hid (fun W (hb : Below w0.heap.size w0 W) => records_any gv g room br v x hv2 hv3 W ((hv.stay hb0).stay hb))
  have HU := Lib.hid (hu.stay hb0)
  have HLn : Hid (v.snap.length ≤ 9223372036854775807 ∧ u.snap.length ≤ 9223372036854775807 ∧ v.recs.length ≤ 9223372036854775807 ∧ u.rs.length ≤ 9223372036854775807) := Lib.hid ⟨by omega, by omega, by omega, by omega⟩
  have HM : Hid (∀ W, Below w0.heap.size w0 W → W.cell? ⟨w.heap.size, 0, none⟩ = some (.slice u.a7 u.snap.length u.c7) ∧ W.cell? ⟨w.heap.size, 1, none⟩ = some (.slice u.a9 u.rs.length u.c9)) := Lib.hid fun W hb => by
    have hr := (row_below hb (row_lt r0)).trans r0
    exact ⟨row_cell hr 0, row_cell hr 1⟩
  have HB0 := Lib.hid hb0
  have HV3 := Lib.hid hv3
  clear r0 hb0 hv hu hv3
  by_cases hs : v.snap = u.snap
  · have HE : Hid (hasB v u = decide (v.recs = u.recs)) := Lib.hid (by unfold hasB; simp [hs])
    have HS : Hid (sameL v.snap u.snap = true) := Lib.hid (decide_eq_true hs)
    clear hs
    go_enter Try.func19, Try.ntmps19
    go_upto_region 1 with fail
    go_region_held3 (fun W => W.cell? ⟨w.heap.size, 0, none⟩ = some (.slice u.a7 u.snap.length u.c7) ∧ W.cell? ⟨w.heap.size, 1, none⟩ = some (.slice u.a9 u.rs.length u.c9)) (exact HM.out _ (by (repeat (first | exact Below.refl _ _ | assumption | (refine Below.allocT ?_ _) | refine Below.drew ?_ | refine below_drewN ?_ _ | (refine Below.then ?_ (by assumption)) | (refine Below.setRow ?_ ?_ _; rotate_left; (focus (first | exact Nat.lt_succ_self _ | ((repeat rw [World.size_alloc]); omega) | (simp; done) | (simp; omega) | omega))) | (refine Below.setCell ?_ ?_ _; rotate_left; (focus (first | exact Nat.lt_succ_self _ | ((repeat rw [World.size_alloc]); omega) | (simp; done) | (simp; omega) | omega))) | (refine Below.then' ?_ (by assumption) ?_; rotate_left; (focus (first | exact Nat.lt_succ_self _ | ((repeat rw [World.size_alloc]); omega) | (simp; done) | (simp; omega) | omega))) | fail)); (first | done | fail))) (first
      | (go_at_call 12; refine (HSn.out _ (by (repeat (first | exact Below.refl _ _ | assumption | (refine Below.allocT ?_ _) | refine Below.drew ?_ | refine below_drewN ?_ _ | (refine Below.then ?_ (by assumption)) | (refine Below.setRow ?_ ?_ _; rotate_left; (focus (first | exact Nat.lt_succ_self _ | ((repeat rw [World.size_alloc]); omega) | (simp; done) | (simp; omega) | omega))) | (refine Below.setCell ?_ ?_ _; rotate_left; (focus (first | exact Nat.lt_succ_self _ | ((repeat rw [World.size_alloc]); omega) | (simp; done) | (simp; omega) | omega))) | (refine Below.then' ?_ (by assumption) ?_; rotate_left; (focus (first | exact Nat.lt_succ_self _ | ((repeat rw [World.size_alloc]); omega) | (simp; done) | (simp; omega) | omega))) | fail)); (first | done | fail))).mono ?_; rintro e w3 ⟨A3, c3, rfl, hy3, hn3, hb3⟩; replace hb3 : Below w0.heap.size w0 w3 := (by (repeat (first | exact Below.refl _ _ | assumption | (refine Below.allocT ?_ _) | refine Below.drew ?_ | refine below_drewN ?_ _ | (refine Below.then ?_ (by assumption)) | (refine Below.setRow ?_ ?_ _; rotate_left; (focus (first | exact Nat.lt_succ_self _ | ((repeat rw [World.size_alloc]); omega) | (simp; done) | (simp; omega) | omega))) | (refine Below.setCell ?_ ?_ _; rotate_left; (focus (first | exact Nat.lt_succ_self _ | ((repeat rw [World.size_alloc]); omega) | (simp; done) | (simp; omega) | omega))) | (refine Below.then' ?_ (by assumption) ?_; rotate_left; (focus (first | exact Nat.lt_succ_self _ | ((repeat rw [World.size_alloc]); omega) | (simp; done) | (simp; omega) | omega))) | fail)); (first | done | fail)))
      | (go_at_call 33; refine (same5_any A3 u.a7 v.snap u.snap v.snap.length c3 u.snap.length u.c7 rfl rfl HLn.out.1 HLn.out.2.1 _ (hy3.stay (by (repeat (first | exact Below.refl _ _ | assumption | (refine Below.allocT ?_ _) | refine Below.drew ?_ | refine below_drewN ?_ _ | (refine Below.then ?_ (by assumption)) | (refine Below.setRow ?_ ?_ _; rotate_left; (focus (first | exact Nat.lt_succ_self _ | ((repeat rw [World.size_alloc]); omega) | (simp; done) | (simp; omega) | omega))) | (refine Below.setCell ?_ ?_ _; rotate_left; (focus (first | exact Nat.lt_succ_self _ | ((repeat rw [World.size_alloc]); omega) | (simp; done) | (simp; omega) | omega))) | (refine Below.then' ?_ (by assumption) ?_; rotate_left; (focus (first | exact Nat.lt_succ_self _ | ((repeat rw [World.size_alloc]); omega) | (simp; done) | (simp; omega) | omega))) | fail)); (first | done | fail))) (HU.out.snap.stay (by (repeat (first | exact Below.refl _ _ | assumption | (refine Below.allocT ?_ _) | refine Below.drew ?_ | refine below_drewN ?_ _ | (refine Below.then ?_ (by assumption)) | (refine Below.setRow ?_ ?_ _; rotate_left; (focus (first | exact Nat.lt_succ_self _ | ((repeat rw [World.size_alloc]); omega) | (simp; done) | (simp; omega) | omega))) | (refine Below.setCell ?_ ?_ _; rotate_left; (focus (first | exact Nat.lt_succ_self _ | ((repeat rw [World.size_alloc]); omega) | (simp; done) | (simp; omega) | omega))) | (refine Below.then' ?_ (by assumption) ?_; rotate_left; (focus (first | exact Nat.lt_succ_self _ | ((repeat rw [World.size_alloc]); omega) | (simp; done) | (simp; omega) | omega))) | fail)); (first | done | fail)))).mono ?_; rintro e w4 ⟨rfl, hb4⟩; replace hb4 : Below w0.heap.size w0 w4 := (by (repeat (first | exact Below.refl _ _ | assumption | (refine Below.allocT ?_ _) | refine Below.drew ?_ | refine below_drewN ?_ _ | (refine Below.then ?_ (by assumption)) | (refine Below.setRow ?_ ?_ _; rotate_left; (focus (first | exact Nat.lt_succ_self _ | ((repeat rw [World.size_alloc]); omega) | (simp; done) | (simp; omega) | omega))) | (refine Below.setCell ?_ ?_ _; rotate_left; (focus (first | exact Nat.lt_succ_self _ | ((repeat rw [World.size_alloc]); omega) | (simp; done) | (simp; omega) | omega))) | (refine Below.then' ?_ (by assumption) ?_; rotate_left; (focus (first | exact Nat.lt_succ_self _ | ((repeat rw [World.size_alloc]); omega) | (simp; done) | (simp; omega) | omega))) | fail)); (first | done | fail)); rw [HS.out])
      | (go_at_call 13; refine (HRc.out _ (by (repeat (first | exact Below.refl _ _ | assumption | (refine Below.allocT ?_ _) | refine Below.drew ?_ | refine below_drewN ?_ _ | (refine Below.then ?_ (by assumption)) | (refine Below.setRow ?_ ?_ _; rotate_left; (focus (first | exact Nat.lt_succ_self _ | ((repeat rw [World.size_alloc]); omega) | (simp; done) | (simp; omega) | omega))) | (refine Below.setCell ?_ ?_ _; rotate_left; (focus (first | exact Nat.lt_succ_self _ | ((repeat rw [World.size_alloc]); omega) | (simp; done) | (simp; omega) | omega))) | (refine Below.then' ?_ (by assumption) ?_; rotate_left; (focus (first | exact Nat.lt_succ_self _ | ((repeat rw [World.size_alloc]); omega) | (simp; done) | (simp; omega) | omega))) | fail)); (first | done | fail))).mono ?_; rintro e w5 ⟨A5, c5, rs5, rfl, hR5, hm5, hb5⟩; replace hb5 : Below w0.heap.size w0 w5 := (by (repeat (first | exact Below.refl _ _ | assumption | (refine Below.allocT ?_ _) | refine Below.drew ?_ | refine below_drewN ?_ _ | (refine Below.then ?_ (by assumption)) | (refine Below.setRow ?_ ?_ _; rotate_left; (focus (first | exact Nat.lt_succ_self _ | ((repeat rw [World.size_alloc]); omega) | (simp; done) | (simp; omega) | omega))) | (refine Below.setCell ?_ ?_ _; rotate_left; (focus (first | exact Nat.lt_succ_self _ | ((repeat rw [World.size_alloc]); omega) | (simp; done) | (simp; omega) | omega))) | (refine Below.then' ?_ (by assumption) ?_; rotate_left; (focus (first | exact Nat.lt_succ_self _ | ((repeat rw [World.size_alloc]); omega) | (simp; done) | (simp; omega) | omega))) | fail)); (first | done | fail)))
      | (go_at_call 34; refine (lists_any A5 u.a9 rs5 u.rs v.recs.length c5 u.rs.length u.c9 (by rw [← hm5, List.length_map]) rfl HLn.out.2.2.1 HLn.out.2.2.2 _ ((hR5.ls (fun r hr => by have h1 := HV3.out r.bs (by rw [← hm5]; exact List.mem_map.2 ⟨r, hr, rfl⟩); omega)).stay (by (repeat (first | exact Below.refl _ _ | assumption | (refine Below.allocT ?_ _) | refine Below.drew ?_ | refine below_drewN ?_ _ | (refine Below.then ?_ (by assumption)) | (refine Below.setRow ?_ ?_ _; rotate_left; (focus (first | exact Nat.lt_succ_self _ | ((repeat rw [World.size_alloc]); omega) | (simp; done) | (simp; omega) | omega))) | (refine Below.setCell ?_ ?_ _; rotate_left; (focus (first | exact Nat.lt_succ_self _ | ((repeat rw [World.size_alloc]); omega) | (simp; done) | (simp; omega) | omega))) | (refine Below.then' ?_ (by assumption) ?_; rotate_left; (focus (first | exact Nat.lt_succ_self _ | ((repeat rw [World.size_alloc]); omega) | (simp; done) | (simp; omega) | omega))) | fail)); (first | done | fail))) (HU.out.ls.stay (by (repeat (first | exact Below.refl _ _ | assumption | (refine Below.allocT ?_ _) | refine Below.drew ?_ | refine below_drewN ?_ _ | (refine Below.then ?_ (by assumption)) | (refine Below.setRow ?_ ?_ _; rotate_left; (focus (first | exact Nat.lt_succ_self _ | ((repeat rw [World.size_alloc]); omega) | (simp; done) | (simp; omega) | omega))) | (refine Below.setCell ?_ ?_ _; rotate_left; (focus (first | exact Nat.lt_succ_self _ | ((repeat rw [World.size_alloc]); omega) | (simp; done) | (simp; omega) | omega))) | (refine Below.then' ?_ (by assumption) ?_; rotate_left; (focus (first | exact Nat.lt_succ_self _ | ((repeat rw [World.size_alloc]); omega) | (simp; done) | (simp; omega) | omega))) | fail)); (first | done | fail)))).mono ?_; rintro e w6 ⟨rfl, hb6⟩; replace hb6 : Below w0.heap.size w0 w6 := (by (repeat (first | exact Below.refl _ _ | assumption | (refine Below.allocT ?_ _) | refine Below.drew ?_ | refine below_drewN ?_ _ | (refine Below.then ?_ (by assumption)) | (refine Below.setRow ?_ ?_ _; rotate_left; (focus (first | exact Nat.lt_succ_self _ | ((repeat rw [World.size_alloc]); omega) | (simp; done) | (simp; omega) | omega))) | (refine Below.setCell ?_ ?_ _; rotate_left; (focus (first | exact Nat.lt_succ_self _ | ((repeat rw [World.size_alloc]); omega) | (simp; done) | (simp; omega) | omega))) | (refine Below.then' ?_ (by assumption) ?_; rotate_left; (focus (first | exact Nat.lt_succ_self _ | ((repeat rw [World.size_alloc]); omega) | (simp; done) | (simp; omega) | omega))) | fail)); (first | done | fail))))
    have HB6 := Lib.hid (Below.then HB0.out hb6)
    clear hb3 hb4 hb5 hb6 hR5 hm5 hy3 hn3
    go_wp2_with fail
    go_ret
    exact ⟨by rw [HE.out]; rfl, HB6.out⟩
  · have HE : Hid (hasB v u = false) := Lib.hid (decide_eq_false fun h => hs h.1)
    have HS : Hid (sameL v.snap u.snap = false) := Lib.hid (decide_eq_false hs)
    clear hs
    go_enter Try.func19, Try.ntmps19
    go_upto_region 1 with fail
    refine wp_region_held_drew (S := (fun W => W.cell? ⟨w.heap.size, 0, none⟩ = some (.slice u.a7 u.snap.length u.c7) ∧ W.cell? ⟨w.heap.size, 1, none⟩ = some (.slice u.a9 u.rs.length u.c9))) (by kernel_rfl) ?_ (fun hHeld => ?_)
    focus ((try dsimp only); exact HM.out _ (by (repeat (first | exact Below.refl _ _ | assumption | (refine Below.allocT ?_ _) | refine Below.drew ?_ | refine below_drewN ?_ _ | (refine Below.then ?_ (by assumption)) | (refine Below.setRow ?_ ?_ _; rotate_left; (focus (first | exact Nat.lt_succ_self _ | ((repeat rw [World.size_alloc]); omega) | (simp; done) | (simp; omega) | omega))) | (refine Below.setCell ?_ ?_ _; rotate_left; (focus (first | exact Nat.lt_succ_self _ | ((repeat rw [World.size_alloc]); omega) | (simp; done) | (simp; omega) | omega))) | (refine Below.then' ?_ (by assumption) ?_; rotate_left; (focus (first | exact Nat.lt_succ_self _ | ((repeat rw [World.size_alloc]); omega) | (simp; done) | (simp; omega) | omega))) | fail)); (first | done | fail)))
    refine wpAnyH_take (i := 0) (oi := _) (v := ?_) rfl (by kernel_rfl) (by kernel_rfl) (by kernel_rfl) (fun _ _ _ h => h) (Or.inl ⟨by rfl, ?_⟩) (by assumption) ?_
    rotate_left
    focus (intro w hSw; (try dsimp only at hSw); go_simp; first | done | with_reducible rfl)
    try simp only [List.getElem_toArray, List.getElem_cons_zero, Act.put, List.setIfInBounds_toArray, List.set_cons_zero, List.set_cons_succ]
    refine wpAnyH_take (i := 2) (oi := _) (v := ?_) rfl (by kernel_rfl) (by kernel_rfl) (by kernel_rfl) (fun _ _ _ h => h) (Or.inl ⟨by rfl, ?_⟩) (by assumption) ?_
    rotate_left
    focus (intro w hSw; (try dsimp only at hSw); go_simp; first | done | with_reducible rfl)
    try simp only [List.getElem_toArray, List.getElem_cons_zero, List.getElem_cons_succ, Act.put, List.setIfInBounds_toArray, List.set_cons_zero, List.set_cons_succ]
    refine wpAnyH_take (i := 3) (oi := _) (v := ?_) rfl (by kernel_rfl) (by kernel_rfl) (by kernel_rfl) (fun _ _ _ h => h) (Or.inl ⟨by rfl, ?_⟩) (by assumption) ?_
    rotate_left
    focus (intro w hSw; (try dsimp only at hSw); go_simp; first | done | with_reducible rfl)
    try simp only [List.getElem_toArray, List.getElem_cons_zero, List.getElem_cons_succ, Act.put, List.setIfInBounds_toArray, List.set_cons_zero, List.set_cons_succ]
    refine wpAnyH_ready (rs := [1]) (by kernel_rfl) (by simp) ?_
    refine AllReadyH.cons (o := _) rfl (fun K hK => ?_) AllReadyH.nil
    go_simp
    go_at_call 12; refine (HSn.out _ (by (repeat (first | exact Below.refl _ _ | assumption | (refine Below.allocT ?_ _) | refine Below.drew ?_ | refine below_drewN ?_ _ | (refine Below.then ?_ (by assumption)) | (refine Below.setRow ?_ ?_ _; rotate_left; (focus (first | exact Nat.lt_succ_self _ | ((repeat rw [World.size_alloc]); omega) | (simp; done) | (simp; omega) | omega))) | (refine Below.setCell ?_ ?_ _; rotate_left; (focus (first | exact Nat.lt_succ_self _ | ((repeat rw [World.size_alloc]); omega) | (simp; done) | (simp; omega) | omega))) | (refine Below.then' ?_ (by assumption) ?_; rotate_left; (focus (first | exact Nat.lt_succ_self _ | ((repeat rw [World.size_alloc]); omega) | (simp; done) | (simp; omega) | omega))) | fail)); (first | done | fail))).mono ?_; rintro e w3 ⟨A3, c3, rfl, hy3, hn3, hb3⟩; replace hb3 : Below w0.heap.size w0 w3 := (by (repeat (first | exact Below.refl _ _ | assumption | (refine Below.allocT ?_ _) | refine Below.drew ?_ | refine below_drewN ?_ _ | (refine Below.then ?_ (by assumption)) | (refine Below.setRow ?_ ?_ _; rotate_left; (focus (first | exact Nat.lt_succ_self _ | ((repeat rw [World.size_alloc]); omega) | (simp; done) | (simp; omega) | omega))) | (refine Below.setCell ?_ ?_ _; rotate_left; (focus (first | exact Nat.lt_succ_self _ | ((repeat rw [World.size_alloc]); omega) | (simp; done) | (simp; omega) | omega))) | (refine Below.then' ?_ (by assumption) ?_; rotate_left; (focus (first | exact Nat.lt_succ_self _ | ((repeat rw [World.size_alloc]); omega) | (simp; done) | (simp; omega) | omega))) | fail)); (first | done | fail))
    refine hK.out _ _ ?_ (fun hHeld => ?_)
    focus ((try dsimp only); exact HM.out _ (by (repeat (first | exact Below.refl _ _ | assumption | (refine Below.allocT ?_ _) | refine Below.drew ?_ | refine below_drewN ?_ _ | (refine Below.then ?_ (by assumption)) | (refine Below.setRow ?_ ?_ _; rotate_left; (focus (first | exact Nat.lt_succ_self _ | ((repeat rw [World.size_alloc]); omega) | (simp; done) | (simp; omega) | omega))) | (refine Below.setCell ?_ ?_ _; rotate_left; (focus (first | exact Nat.lt_succ_self _ | ((repeat rw [World.size_alloc]); omega) | (simp; done) | (simp; omega) | omega))) | (refine Below.then' ?_ (by assumption) ?_; rotate_left; (focus (first | exact Nat.lt_succ_self _ | ((repeat rw [World.size_alloc]); omega) | (simp; done) | (simp; omega) | omega))) | fail)); (first | done | fail)))
    clear hK K
    try simp only [List.getElem_toArray, List.getElem_cons_zero, List.getElem_cons_succ, Act.put, List.setIfInBounds_toArray, List.set_cons_zero, List.set_cons_succ]
    refine wpAnyH_ready (rs := [4]) (by kernel_rfl) (by simp) ?_
    refine AllReadyH.cons (o := _) rfl (fun K hK => ?_) AllReadyH.nil
    go_simp
    go_at_call 33; refine (same5_any A3 u.a7 v.snap u.snap v.snap.length c3 u.snap.length u.c7 rfl rfl HLn.out.1 HLn.out.2.1 _ (hy3.stay (by (repeat (first | exact Below.refl _ _ | assumption | (refine Below.allocT ?_ _) | refine Below.drew ?_ | refine below_drewN ?_ _ | (refine Below.then ?_ (by assumption)) | (refine Below.setRow ?_ ?_ _; rotate_left; (focus (first | exact Nat.lt_succ_self _ | ((repeat rw [World.size_alloc]); omega) | (simp; done) | (simp; omega) | omega))) | (refine Below.setCell ?_ ?_ _; rotate_left; (focus (first | exact Nat.lt_succ_self _ | ((repeat rw [World.size_alloc]); omega) | (simp; done) | (simp; omega) | omega))) | (refine Below.then' ?_ (by assumption) ?_; rotate_left; (focus (first | exact Nat.lt_succ_self _ | ((repeat rw [World.size_alloc]); omega) | (simp; done) | (simp; omega) | omega))) | fail)); (first | done | fail))) (HU.out.snap.stay (by (repeat (first | exact Below.refl _ _ | assumption | (refine Below.allocT ?_ _) | refine Below.drew ?_ | refine below_drewN ?_ _ | (refine Below.then ?_ (by assumption)) | (refine Below.setRow ?_ ?_ _; rotate_left; (focus (first | exact Nat.lt_succ_self _ | ((repeat rw [World.size_alloc]); omega) | (simp; done) | (simp; omega) | omega))) | (refine Below.setCell ?_ ?_ _; rotate_left; (focus (first | exact Nat.lt_succ_self _ | ((repeat rw [World.size_alloc]); omega) | (simp; done) | (simp; omega) | omega))) | (refine Below.then' ?_ (by assumption) ?_; rotate_left; (focus (first | exact Nat.lt_succ_self _ | ((repeat rw [World.size_alloc]); omega) | (simp; done) | (simp; omega) | omega))) | fail)); (first | done | fail)))).mono ?_; rintro e w4 ⟨rfl, hb4⟩; replace hb4 : Below w0.heap.size w0 w4 := (by (repeat (first | exact Below.refl _ _ | assumption | (refine Below.allocT ?_ _) | refine Below.drew ?_ | refine below_drewN ?_ _ | (refine Below.then ?_ (by assumption)) | (refine Below.setRow ?_ ?_ _; rotate_left; (focus (first | exact Nat.lt_succ_self _ | ((repeat rw [World.size_alloc]); omega) | (simp; done) | (simp; omega) | omega))) | (refine Below.setCell ?_ ?_ _; rotate_left; (focus (first | exact Nat.lt_succ_self _ | ((repeat rw [World.size_alloc]); omega) | (simp; done) | (simp; omega) | omega))) | (refine Below.then' ?_ (by assumption) ?_; rotate_left; (focus (first | exact Nat.lt_succ_self _ | ((repeat rw [World.size_alloc]); omega) | (simp; done) | (simp; omega) | omega))) | fail)); (first | done | fail)); rw [HS.out]
    refine hK.out _ _ ?_ (fun hHeld => ?_)
    focus ((try dsimp only); exact HM.out _ (by (repeat (first | exact Below.refl _ _ | assumption | (refine Below.allocT ?_ _) | refine Below.drew ?_ | refine below_drewN ?_ _ | (refine Below.then ?_ (by assumption)) | (refine Below.setRow ?_ ?_ _; rotate_left; (focus (first | exact Nat.lt_succ_self _ | ((repeat rw [World.size_alloc]); omega) | (simp; done) | (simp; omega) | omega))) | (refine Below.setCell ?_ ?_ _; rotate_left; (focus (first | exact Nat.lt_succ_self _ | ((repeat rw [World.size_alloc]); omega) | (simp; done) | (simp; omega) | omega))) | (refine Below.then' ?_ (by assumption) ?_; rotate_left; (focus (first | exact Nat.lt_succ_self _ | ((repeat rw [World.size_alloc]); omega) | (simp; done) | (simp; omega) | omega))) | fail)); (first | done | fail)))
    clear hK K
    try simp only [List.getElem_toArray, List.getElem_cons_zero, List.getElem_cons_succ, Act.put, List.setIfInBounds_toArray, List.set_cons_zero, List.set_cons_succ]
    refine wpAnyH_take (i := 5) (oi := _) (v := ?_) rfl (by kernel_rfl) (by kernel_rfl) (by kernel_rfl) (fun _ _ _ h => h) (Or.inl ⟨by rfl, ?_⟩) (by assumption) ?_
    rotate_left
    focus (intro w hSw; (try dsimp only at hSw); go_simp; first | done | with_reducible rfl)
    try simp only [List.getElem_toArray, List.getElem_cons_zero, List.getElem_cons_succ, Act.put, List.setIfInBounds_toArray, List.set_cons_zero, List.set_cons_succ]
    refine wpAnyH_take (i := 6) (oi := _) (v := undef) rfl (by kernel_rfl) (by kernel_rfl) (by kernel_rfl) (fun _ _ _ h => h) (Or.inr ⟨by rfl, rfl⟩) (by assumption) ?_
    try simp only [List.getElem_toArray, List.getElem_cons_zero, List.getElem_cons_succ, Act.put, List.setIfInBounds_toArray, List.set_cons_zero, List.set_cons_succ]
    refine wpAnyH_take (i := 7) (oi := _) (v := undef) rfl (by kernel_rfl) (by kernel_rfl) (by kernel_rfl) (fun _ _ _ h => h) (Or.inr ⟨by rfl, rfl⟩) (by assumption) ?_
    try simp only [List.getElem_toArray, List.getElem_cons_zero, List.getElem_cons_succ, Act.put, List.setIfInBounds_toArray, List.set_cons_zero, List.set_cons_succ]
    refine wpAnyH_take (i := 8) (oi := _) (v := undef) rfl (by kernel_rfl) (by kernel_rfl) (by kernel_rfl) (fun _ _ _ h => h) (Or.inr ⟨by rfl, rfl⟩) (by assumption) ?_
    try simp only [List.getElem_toArray, List.getElem_cons_zero, List.getElem_cons_succ, Act.put, List.setIfInBounds_toArray, List.set_cons_zero, List.set_cons_succ]
    refine wpAnyH_take (i := 9) (oi := _) (v := undef) rfl (by kernel_rfl) (by kernel_rfl) (by kernel_rfl) (fun _ _ _ h => h) (Or.inr ⟨by rfl, rfl⟩) (by assumption) ?_
    try simp only [List.getElem_toArray, List.getElem_cons_zero, List.getElem_cons_succ, Act.put, List.setIfInBounds_toArray, List.set_cons_zero, List.set_cons_succ]
    refine wpAnyH_take (i := 10) (oi := _) (v := undef) rfl (by kernel_rfl) (by kernel_rfl) (by kernel_rfl) (fun _ _ _ h => h) (Or.inr ⟨by rfl, rfl⟩) (by assumption) ?_
    try simp only [List.getElem_toArray, List.getElem_cons_zero, List.getElem_cons_succ, Act.put, List.setIfInBounds_toArray, List.set_cons_zero, List.set_cons_succ]
    refine wpAnyH_take (i := 11) (oi := _) (v := ?_) rfl (by kernel_rfl) (by kernel_rfl) (by kernel_rfl) (fun _ _ _ h => h) (Or.inl ⟨by rfl, ?_⟩) (by assumption) ?_
    rotate_left
    focus (intro w hSw; (try dsimp only at hSw); go_simp; first | done | with_reducible rfl)
    try simp only [List.getElem_toArray, List.getElem_cons_zero, List.getElem_cons_succ, Act.put, List.setIfInBounds_toArray, List.set_cons_zero, List.set_cons_succ]
    refine wpAnyH_take (i := 12) (oi := _) (v := ?_) rfl (by kernel_rfl) (by kernel_rfl) (by kernel_rfl) (fun _ _ _ h => h) (Or.inl ⟨by rfl, ?_⟩) (by assumption) ?_
    rotate_left
    focus (intro w hSw; (try dsimp only at hSw); go_simp; first | done | with_reducible rfl)
    try simp only [List.getElem_toArray, List.getElem_cons_zero, List.getElem_cons_succ, Act.put, List.setIfInBounds_toArray, List.set_cons_zero, List.set_cons_succ]
    refine wpAnyH_done (by kernel_rfl) ?_ _
    have HB6 := Lib.hid (Below.then HB0.out hb4)
    clear hb3 hb4 hy3 hn3
    go_wp2_with fail
    go_ret
    exact ⟨by rw [HE.out]; rfl, HB6.out⟩
end Go.Proofs.Ytkkncijbedfdfaa

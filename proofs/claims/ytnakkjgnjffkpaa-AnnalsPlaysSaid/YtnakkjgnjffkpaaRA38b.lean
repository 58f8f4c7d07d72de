/-
  The reference's annals: Add.
-/
import Derived.Test.YtnakkjgnjffkpaaRA38
import Derived.Deep.RegionLaw
namespace Go.Proofs.Ytnakkjgnjffkpaa
open Go.RowKit
set_option linter.unusedVariables false
set_option linter.unusedSimpArgs false

theorem RfA.chg {S : Nat → Prop} {W W' : World} {gw most : Nat} {A : Option Addr} {c : Nat} {xs : List (Rep × RepA)} (h : RfA W gw most A c xs) (hc : Chg S W W') (hg : ¬ S gw) (hA : xs ≠ [] → ∀ x, A = some x → ¬ S x.block) (hR : ∀ x ∈ xs, ∀ k, RepB x k → ¬ S k) : RfA W' gw most A c xs :=
  ⟨(hc.row (row_lt h.row) hg).trans h.row, h.list.chg' hc hA, h.ok, h.right, fun x hx => (h.reps x hx).chg hc (hR x hx), h.len, h.cap, h.ap, h.al, h.top⟩
section
variable {α : Type} {P : Program} {T t : TypeId} {C : Nat} {f : α → Array Value} {z : Value} {bytes : Nat}
theorem step_append_a (hu : P.underlying t = some (.slice T)) (hinfo : (P.info? T).map (fun i => (i.zero, i.size, i.bytes)) = some (some z, C, bytes)) (hz : z.cells.size = C) (h0 : 0 < C) (hbb : bytes ≤ 1000) (hC : ∀ x, (f x).size = C) (hone : ∀ x, allOne (f x) = true)
    {W : World} {ops : Array Oper} {o : Oper} {a : Act} {K : Act → World → Prop} {Q : Exit → Act → World → Prop} {E : Prop} (hgd : o.guard = none) (s x : Operand)
    (ho : o.op = .call { callee := .builtin .append, args := #[s, x], argTypes := #[t, t] })
    (B : Nat) (v : Value) (l m : List α) (A : Option Addr) (n c : Nat) (h : OwnC T C f W B v l) (hm : SliceOf C f W A m) (hs : a.eval s = v) (hx : a.eval x = .slice A n c) (hn : m.length = n) (hlen : l.length + m.length ≤ 1000000) (hB : B ≤ W.heap.size)
    (hk : ∀ v' W', AppC T C f W B v l m v' W' → K (a.put o.dst v') W') : if Region.wanted o (yielded ops a.tmps) = true then Oper.wp P o a W K Q else E := by
  have hw : Region.wanted o (yielded ops a.tmps) = true := by simp [Region.wanted, hgd]
  rw [if_pos hw]
  exact wp_append_a hu hinfo hz h0 hbb hC hone s x ho B v l m A n c h hm hs hx hn hlen hB hk
end
theorem rreps_under : Try.prog.underlying 30 = some (.slice 40) := by kernel_rfl
theorem rrep_info' : (Try.prog.info? 40).map (fun i => (i.zero, i.size, i.bytes)) = some (some repZ, 14, 176) := by kernel_rfl
theorem rreps_slice1 {dst : Option Tmp} {x : Operand} {ty : TypeId} {pos : String} {after : Array Edge} {gd : Option (Nat × Bool)} {a : Act} {w : World} {K : Act → World → Prop} {Q : Exit → Act → World → Prop} (h1 : a.eval x = .agg (aggOf (a.eval x))) (h2 : (aggOf (a.eval x)).size = 14) :
    Oper.wp Try.prog ⟨dst, .buildSlice 30 1 #[(0, x)], ty, pos, after, gd⟩ a w K Q = K (a.put dst (.slice (some ⟨w.heap.size, 0, none⟩) 1 1)) (w.alloc (.cells (aggOf (a.eval x)) 40)) := wp_slice1_eq rreps_under rrep_info' (by omega) (by omega) h1 h2
attribute [go_sem ↓] rreps_slice1
theorem rx_of {w3 w4 : World} {cs : Array Value} {T : TypeId} (h : ((w3.alloc (.cells cs T)).drew).grownBy w4 none) : row w4 w3.heap.size = some cs :=
  (row_grown' h (by show w3.heap.size < (w3.alloc _).heap.size; rw [World.size_alloc]; exact Nat.lt_succ_self _) (fun e => by cases e)).trans (row_at _ _ _ _ rfl)
def raddE (L : List Rep) (r : Rep) : Int := if rightA r = true then (if seqB L r = true then togE ((L ++ [r]).map smOf) else 200) else 2
def RAddPost (w : World) (gw most : Nat) (A : Option Addr) (c : Nat) (xs : List (Rep × RepA)) (r : Rep) (a : RepA) (e : Ending) (w' : World) : Prop :=
  e = .returned (.int .i64 (raddE (xs.map (·.1)) r)) ∧ Chg (fun k => k = gw) w w' ∧ ((raddE (xs.map (·.1)) r ≠ 0 ∧ RfA w' gw most A c xs) ∨ (raddE (xs.map (·.1)) r = 0 ∧ ∃ A' c', RfA w' gw most A' c' (xs ++ [(r, a)]) ∧ ∀ x, A' = some x → w.heap.size ≤ x.block))
theorem right_epoch {r : Rep} (h : rightA r = true) : 0 ≤ r.epoch ∧ r.epoch ≤ 1073741824 := by
  unfold rightA at h
  simp only [Bool.and_eq_true] at h
  exact of_decide_eq_true h.2.1
set_option maxRecDepth 100000 in
set_option maxHeartbeats 8000000 in
theorem radd_any (gw most : Nat) (A : Option Addr) (c : Nat) (xs : List (Rep × RepA)) (r : Rep) (a : RepA) (w : World) (h : RfA w gw most A c xs) (hr : r.Ok) (hR : RepAt w (r, a)) (hap : ∀ k, RepB (r, a) k → k ≠ gw) (hlen : xs.length < 300) :
    Calls Try.prog 16 #[.pointer (some ⟨gw, 0, none⟩), .agg (repC (r, a))] w (RAddPost w gw most A c xs r a) := by
  have r0 : row (w.alloc (.cells (repC (r, a)) 40)) w.heap.size = some (repC (r, a)) := row_at _ _ _ _ rfl
  have hB0 : Below w.heap.size w (w.alloc (.cells (repC (r, a)) 40)) := (by (repeat (first | exact Below.refl _ _ | assumption | (refine Below.allocT ?_ _) | refine Below.drew ?_ | refine below_drewN ?_ _ | (refine Below.then ?_ (by assumption)) | (refine Below.setRow ?_ ?_ _; rotate_left; (focus (first | exact Nat.lt_succ_self _ | ((repeat rw [World.size_alloc]); omega) | (simp; done) | (simp; omega) | omega))) | (refine Below.setCell ?_ ?_ _; rotate_left; (focus (first | exact Nat.lt_succ_self _ | ((repeat rw [World.size_alloc]); omega) | (simp; done) | (simp; omega) | omega))) | (refine Below.then' ?_ (by assumption) ?_; rotate_left; (focus (first | exact Nat.lt_succ_self _ | ((repeat rw [World.size_alloc]); omega) | (simp; done) | (simp; omega) | omega))) | fail)); (first | done | fail))
  have HRt := Lib.hid (rright38_any r a hr (w.alloc (.cells (repC (r, a)) 40)) (hR.stay hB0))
  have H := Lib.hid h
  have HOk := Lib.hid hr
  have HR := Lib.hid hR
  have HAp := Lib.hid hap
  have HP : Hid (∀ e w', RAddPost w gw most A c xs r a e w' ↔ (e = .returned (.int .i64 (raddE (xs.map (·.1)) r)) ∧ Chg (fun k => k = gw) w w' ∧ ((raddE (xs.map (·.1)) r ≠ 0 ∧ RfA w' gw most A c xs) ∨ (raddE (xs.map (·.1)) r = 0 ∧ ∃ A' c', RfA w' gw most A' c' (xs ++ [(r, a)]) ∧ ∀ x, A' = some x → w.heap.size ≤ x.block)))) := Lib.hid fun e w' => Iff.rfl
  have HNo : Hid (∀ z w', raddE (xs.map (·.1)) r = z → z ≠ 0 → Below w.heap.size w w' → RAddPost w gw most A c xs r a (.returned (.int .i64 z)) w') := Lib.hid fun z w' hz hz0 hb => ⟨by rw [hz], Chg.of_below hb (Nat.le_refl _), .inl ⟨by rw [hz]; exact hz0, H.out.stay hb⟩⟩
  clear h hr hR hap
  generalize hpp : RAddPost w gw most A c xs r a = PP at *
  clear hpp
  cases hrt : rightA r with
  | false =>
    have he : raddE (xs.map (·.1)) r = 2 := by unfold raddE; rw [hrt]; rfl
    rw [hrt] at HRt
    clear hrt HP
    go_enter Try.func16, Try.ntmps16
    go_upto_region 1 with fail
    change Code.wp _ _ _ _ (w.alloc (.cells (repC (r, a)) 40))
    generalize w.alloc (.cells (repC (r, a)) 40) = w0 at *
    have hz6 := repC_one (r, a)
    go_wp2_with fail
    refine HRt.out.mono ?_
    rintro e w2 ⟨rfl, hb2⟩
    go_wp2_with fail
    exact HNo.out _ _ he (by decide) (Below.then hB0 hb2)
  | true =>
    rw [hrt] at HRt
    have hre := right_epoch hrt
    have HRr := Lib.hid hrt
    clear hrt
    go_enter Try.func16, Try.ntmps16
    go_upto_region 1 with fail
    change Code.wp _ _ _ _ (w.alloc (.cells (repC (r, a)) 40))
    generalize w.alloc (.cells (repC (r, a)) 40) = w0 at *
    have hz6 := repC_one (r, a)
    go_wp2_with fail
    refine HRt.out.mono ?_
    rintro e w2 ⟨rfl, hb2⟩
    have r2 := below_row hb2 r0 (row_lt r0)
    have hB2 := Below.then hB0 hb2
    have H2 := Lib.hid (H.out.stay hB2)
    have k1 : w2.cell? ⟨gw, 1, none⟩ = some (.slice A xs.length c) := row_cell H2.out.row 1
    have hl := H2.out.len
    clear hB0 hb2 r0 HRt
    go_upto_region 4 with fail
    go_cut [33] (fun s33 wx => s33 = .bool (!(seqB (xs.map (·.1)) r)) ∧ ∃ n, wx = w2.drewN n)
    case first =>
      have k0 : w2.cell? ⟨w.heap.size, 0, none⟩ = some (.int .i64 r.epoch) := row_cell r2 0
      by_cases h0 : xs.length = 0
      · have HV : Hid (seqB (xs.map (·.1)) r = true) := Lib.hid (by rw [List.eq_nil_of_length_eq_zero h0]; rfl)
        rw [h0] at k1
        clear r2 hB2
        go_quiet (fail)
        go_wp2_with fail
        go_meet
        exact ⟨by rw [HV.out]; rfl, _, rfl⟩
      · obtain ⟨y, hy⟩ : ∃ y, xs[xs.length - 1]? = some y := ⟨_, List.getElem?_eq_getElem (by omega)⟩
        have hlast : (xs.map (·.1)).getLast? = some y.1 := by rw [List.getLast?_eq_getElem?, List.length_map, List.getElem?_map, hy]; rfl
        obtain ⟨b, off, rfl, hbb, hcell⟩ := H2.out.list (by omega)
        have cy : w2.cell? ⟨b, off + (xs.length - 1) * 14, none⟩ = some (.int .i64 y.1.epoch) := by have := hcell _ y hy 0 _ rfl; simpa using this
        have hye := right_epoch (H2.out.right y (List.mem_of_getElem? hy))
        have wz : IntKind.i64.wrap (y.1.epoch + 1) = y.1.epoch + 1 := by rw [IntKind.wrap_i64]; omega
        have z0 : IntKind.i64.wrap ((xs.length : Int) - 1) = ((xs.length - 1 : Nat) : Int) := by rw [IntKind.wrap_i64]; omega
        have z2 : (0 : Int) < (xs.length : Int) := by omega
        have z4 : ((xs.length - 1 : Nat) : Int) < (xs.length : Int) := by omega
        have z5 : (0 : Int) ≤ ((xs.length - 1 : Nat) : Int) := by omega
        have z6 : ¬ xs = [] := fun e => h0 (by rw [e]; rfl)
        have z7 : 0 < xs.length := by omega
        by_cases hyr : y.1.epoch = r.epoch - 1
        · have HV : Hid (seqB (xs.map (·.1)) r = true) := Lib.hid (by unfold seqB; rw [hlast]; exact decide_eq_true hyr)
          have e5 : y.1.epoch + 1 = r.epoch := by omega
          have e6 : (y.1.epoch + 1 != r.epoch) = false := by rw [e5]; simp
          have e7 : (y.1.epoch + 1 == r.epoch) = true := by rw [e5]; simp
          generalize hm : xs.length - 1 = m at *
          generalize xs.length = n at *
          clear r2 hB2 hy hlast hcell hm hyr e5
          go_quiet (fail)
          go_wp2_with fail
          go_meet
          exact ⟨by rw [HV.out]; rfl, _, rfl⟩
        · have HV : Hid (seqB (xs.map (·.1)) r = false) := Lib.hid (by unfold seqB; rw [hlast]; exact decide_eq_false hyr)
          have e5 : (y.1.epoch + 1 == r.epoch) = false := beq_eq_false_iff_ne.2 (by omega)
          have e6 : (y.1.epoch + 1 != r.epoch) = true := bne_iff_ne.2 (by omega)
          generalize hm : xs.length - 1 = m at *
          generalize xs.length = n at *
          clear r2 hB2 hy hlast hcell hm
          go_quiet (fail)
          go_wp2_with fail
          go_meet
          exact ⟨by rw [HV.out]; rfl, _, rfl⟩
    case rest =>
      obtain ⟨rfl, n0, rfl⟩ := hcut
      have HW := Lib.hid (And.intro r2 (And.intro hB2 (H2.out.stay (show Below w2.heap.size w2 (w2.drewN n0) from below_drewN (Below.refl _ _) _))))
      clear r2 hB2 k1 H2
      cases hsq : seqB (xs.map (·.1)) r with
      | false =>
        have he : raddE (xs.map (·.1)) r = 200 := by unfold raddE; rw [HRr.out, hsq]; rfl
        clear hsq
        go_wp2_with fail
        exact HNo.out _ _ he (by decide) (below_drewN HW.out.2.1 _)
      | true =>
        have he : raddE (xs.map (·.1)) r = togE ((xs.map (·.1) ++ [r]).map smOf) := by unfold raddE; rw [HRr.out, hsq]; rfl
        clear hsq
        go_upto_region 7 with fail
        refine of_world (fun W => row W w.heap.size = some (repC (r, a)) ∧ Below w.heap.size w W ∧ RfA W gw most A c xs) ⟨(row_drewN _ _ _).trans HW.out.1, below_drewN HW.out.2.1 _, HW.out.2.2⟩ ?_
        rintro w3 ⟨r3, hB3, h3⟩
        have H3 := Lib.hid h3
        have HB3 := Lib.hid hB3
        have k1 : w3.cell? ⟨gw, 1, none⟩ = some (.slice A xs.length c) := row_cell h3.row 1
        have lg := row_lt h3.row
        have lr := row_lt r3
        have HList : Hid (∀ W, Below w3.heap.size w3 W → SliceOf 14 repC W A xs) := Lib.hid fun W hW => h3.list.below hW (Nat.le_refl _)
        clear HW h3 hB3
        go_cut [6] (fun s6 wx => ∃ (U : World) (A' : Option Addr) (c' : Nat), U = wx ∧ s6 = .slice A' (xs.length + 1) c' ∧ OwnC 40 14 repC U w3.heap.size (.slice A' (xs.length + 1) c') (xs ++ [(r, a)]) ∧ Below w3.heap.size w3 U)
        case first =>
          have hlen' := hlen
          have z1 := repC_size (r, a)
          have HLen := Lib.hid hlen
          go_region_law (first | (refine step_append_a rreps_under rrep_info' rfl (by omega) (by omega) repC_size repC_one rfl (.tmp 34) (.tmp 38) (by rfl) w3.heap.size (.slice none 0 0) [] xs A xs.length c (OwnC.nil _ _) (HList.out _ (by (repeat (first | exact Below.refl _ _ | assumption | (refine Below.allocT ?_ _) | refine Below.drew ?_ | refine below_drewN ?_ _ | (refine Below.then ?_ (by assumption)) | (refine Below.setRow ?_ ?_ _; rotate_left; (focus (first | exact Nat.lt_succ_self _ | ((repeat rw [World.size_alloc]); omega) | (simp; done) | (simp; omega) | omega))) | (refine Below.setCell ?_ ?_ _; rotate_left; (focus (first | exact Nat.lt_succ_self _ | ((repeat rw [World.size_alloc]); omega) | (simp; done) | (simp; omega) | omega))) | (refine Below.then' ?_ (by assumption) ?_; rotate_left; (focus (first | exact Nat.lt_succ_self _ | ((repeat rw [World.size_alloc]); omega) | (simp; done) | (simp; omega) | omega))) | fail)); (first | done | fail))) (by rfl) (by rfl) rfl (by have := HLen.out; simp; omega) (by first | exact Nat.le_refl _ | (show w3.heap.size ≤ (w3.alloc _).heap.size; rw [World.size_alloc]; exact Nat.le_succ _)) ?_; intro v4 w4 hAp4; have O4 : OwnC 40 14 repC w4 w3.heap.size v4 xs := (by have := hAp4.1; rwa [List.nil_append] at this); have bw4 : Below w3.heap.size w3 w4 := below_grown_c (v := .slice none 0 0) (l := ([] : List (Rep × RepA))) (f := repC) (T := 40) (C := 14) (by (repeat (first | exact Below.refl _ _ | assumption | (refine Below.allocT ?_ _) | refine Below.drew ?_ | refine below_drewN ?_ _ | (refine Below.then ?_ (by assumption)) | (refine Below.setRow ?_ ?_ _; rotate_left; (focus (first | exact Nat.lt_succ_self _ | ((repeat rw [World.size_alloc]); omega) | (simp; done) | (simp; omega) | omega))) | (refine Below.setCell ?_ ?_ _; rotate_left; (focus (first | exact Nat.lt_succ_self _ | ((repeat rw [World.size_alloc]); omega) | (simp; done) | (simp; omega) | omega))) | (refine Below.then' ?_ (by assumption) ?_; rotate_left; (focus (first | exact Nat.lt_succ_self _ | ((repeat rw [World.size_alloc]); omega) | (simp; done) | (simp; omega) | omega))) | fail)); (first | done | fail)) (Nat.le_refl _) (OwnC.nil _ _) hAp4.2.1; have r4 : row w4 w.heap.size = some (repC (r, a)) := below_row bw4 r3 lr; (try have rx : row w4 w3.heap.size = some (repC (r, a)) := rx_of (cs := repC (r, a)) (T := 40) hAp4.2.1); have lr4 := row_lt r4; clear hAp4) | (refine step_append_d rreps_under rrep_info' rfl (by omega) (by omega) repC_size repC_one rfl (.tmp 39) (.tmp 41) (by rfl) w3.heap.size v4 xs (by rfl) (by first | exact O4 | exact O4.stay ((Below.refl _ _).alloc (Nat.le_refl _) _)) _ _ (r, a) (by rfl) (by first | exact rx | exact row_at _ _ _ _ rfl) xs.length rfl (by have := HLen.out; omega) (by first | exact bw4.size | (have := bw4.size; rw [World.size_alloc]; omega)) ?_; intro A' cap w6 hO6 hg6 hor6; have B6 := Lib.hid (below_grown_c (show Below w3.heap.size w3 _ from (by (repeat (first | exact Below.refl _ _ | assumption | (refine Below.allocT ?_ _) | refine Below.drew ?_ | refine below_drewN ?_ _ | (refine Below.then ?_ (by assumption)) | (refine Below.setRow ?_ ?_ _; rotate_left; (focus (first | exact Nat.lt_succ_self _ | ((repeat rw [World.size_alloc]); omega) | (simp; done) | (simp; omega) | omega))) | (refine Below.setCell ?_ ?_ _; rotate_left; (focus (first | exact Nat.lt_succ_self _ | ((repeat rw [World.size_alloc]); omega) | (simp; done) | (simp; omega) | omega))) | (refine Below.then' ?_ (by assumption) ?_; rotate_left; (focus (first | exact Nat.lt_succ_self _ | ((repeat rw [World.size_alloc]); omega) | (simp; done) | (simp; omega) | omega))) | fail)); (first | done | fail))) (Nat.le_refl _) (show OwnC 40 14 repC _ w3.heap.size v4 xs by first | exact O4 | exact O4.stay ((Below.refl _ _).alloc (Nat.le_refl _) _)) hg6); have O6 := Lib.hid hO6; clear hO6 hg6 hor6))
          all_goals
            go_wp2_with fail
            go_meet
            exact ⟨_, A', cap, rfl, rfl, O6.out, B6.out⟩
        case rest =>
          obtain ⟨U, A', c', rfl, rfl, hO, hBU⟩ := hcut
          have hl3 := hlen
          have HSum : Hid (Calls Try.prog 59 #[.slice A' (xs.length + 1) c'] U fun e w' => e = .returned (.tuple #[.agg (smC (togV (sumX (xs ++ [(r, a)])))), .int .i64 (togE ((xs.map (·.1) ++ [r]).map smOf))]) ∧ Below U.heap.size U w') := Lib.hid (by
            have hsx : sumX (xs ++ [(r, a)]) = (xs.map (·.1) ++ [r]).map smOf := by unfold sumX; rw [List.map_append, List.map_append, List.map_map]; rfl
            rw [← hsx]
            exact rsum38_any A' (xs.length + 1) c' (xs ++ [(r, a)]) (by rw [List.length_append]; rfl) (by omega) U (hO.at_ repC_size) (fun x hx => by
              rcases List.mem_append.1 hx with hx | hx
              · exact H3.out.ok x hx
              · rw [List.mem_singleton] at hx; subst hx; exact HOk.out) (fun x hx => by
              rcases List.mem_append.1 hx with hx | hx
              · exact H3.out.right x hx
              · rw [List.mem_singleton] at hx; subst hx; exact HRr.out))
          have HO := Lib.hid hO
          have HBU := Lib.hid hBU
          have HTe : Hid (togE ((xs.map (·.1) ++ [r]).map smOf) = 0 ∨ togE ((xs.map (·.1) ++ [r]).map smOf) = 10) := Lib.hid (by unfold togE; split; exact .inl rfl; exact .inr rfl)
          generalize togE ((xs.map (·.1) ++ [r]).map smOf) = te at *
          generalize togV (sumX (xs ++ [(r, a)])) = tv at *
          clear hO hBU k1 r3 HList
          have hz9 := smC_one tv
          go_wp2_with fail
          refine HSum.out.mono ?_
          rintro e w5 ⟨rfl, hb5⟩
          have HB5 := Lib.hid (Below.then HBU.out hb5)
          have HO5 := Lib.hid (HO.out.stay hb5)
          clear hb5 HO
          go_upto_region 9 with fail
          refine of_world (fun W => Below w5.heap.size w5 W) (by (repeat (first | exact Below.refl _ _ | assumption | (refine Below.allocT ?_ _) | refine Below.drew ?_ | refine below_drewN ?_ _ | (refine Below.then ?_ (by assumption)) | (refine Below.setRow ?_ ?_ _; rotate_left; (focus (first | exact Nat.lt_succ_self _ | ((repeat rw [World.size_alloc]); omega) | (simp; done) | (simp; omega) | omega))) | (refine Below.setCell ?_ ?_ _; rotate_left; (focus (first | exact Nat.lt_succ_self _ | ((repeat rw [World.size_alloc]); omega) | (simp; done) | (simp; omega) | omega))) | (refine Below.then' ?_ (by assumption) ?_; rotate_left; (focus (first | exact Nat.lt_succ_self _ | ((repeat rw [World.size_alloc]); omega) | (simp; done) | (simp; omega) | omega))) | fail)); (first | done | fail)) ?_
          intro w6 hb6
          have HB6 := Lib.hid (Below.then HB5.out hb6)
          have HO6 := Lib.hid (HO5.out.stay hb6)
          clear hb6 HO5 HB5
          rcases HTe.out with rfl | rfl
          · have H6 := Lib.hid (H3.out.stay HB6.out)
            have k6 : w6.cell? ⟨gw, 1, none⟩ = some (.slice A xs.length c) := row_cell H6.out.row 1
            have f6 := row_frozen H6.out.row 1
            have hw6 : Below w.heap.size w w6 := Below.then HB3.out HB6.out
            have hc : Chg (fun k => k = gw) w6 (w6.setCell ⟨gw, 1, none⟩ (.slice A' (xs.length + 1) c')) := (Chg.refl (fun k => k = gw) w6).setCell (p := ⟨gw, 1, none⟩) (.inl rfl) _
            have hAb : ∀ x, A' = some x → w3.heap.size ≤ x.block := fun x hx => by subst hx; exact (HO6.out.lt _ rfl).1
            have hsz3 : w.heap.size ≤ w3.heap.size := HB3.out.size
            have HFin : Hid (PP (.returned (.int .i64 0)) (w6.setCell ⟨gw, 1, none⟩ (.slice A' (xs.length + 1) c'))) := Lib.hid ((HP.out _ _).2 ⟨by rw [he], (Chg.of_below hw6 (Nat.le_refl _)).andThen hc (fun k hk => .inl hk), .inr ⟨he, A', c', ⟨by rw [row_set H6.out.row 1, List.length_append]; rfl, (HO6.out.at_ repC_size).chg hc (fun x hx e => by have := hAb x hx; omega), fun x hx => ?_, fun x hx => ?_, fun x hx => ?_, by rw [List.length_append]; exact hl3, by have := HO6.out.len_le; exact this, fun x hx => ?_, fun _ x hx => by have := hAb x hx; omega, H6.out.top⟩, fun x hx => Nat.le_trans hsz3 (hAb x hx)⟩⟩)
            · clear hc hAb hw6
              go_wp2_with fail
              exact HFin.out
            · rcases List.mem_append.1 hx with hx | hx
              · exact H6.out.ok x hx
              · rw [List.mem_singleton] at hx; subst hx; exact HOk.out
            · rcases List.mem_append.1 hx with hx | hx
              · exact H6.out.right x hx
              · rw [List.mem_singleton] at hx; subst hx; exact HRr.out
            · rcases List.mem_append.1 hx with hx | hx
              · exact (H6.out.reps x hx).chg hc (H6.out.ap x hx)
              · rw [List.mem_singleton] at hx; subst hx; exact (HR.out.stay hw6).chg hc HAp.out
            · rcases List.mem_append.1 hx with hx | hx
              · exact H6.out.ap x hx
              · rw [List.mem_singleton] at hx; subst hx; exact HAp.out
          · go_wp2_with fail
            exact HNo.out _ _ he (by decide) (Below.then HB3.out HB6.out)
end Go.Proofs.Ytnakkjgnjffkpaa

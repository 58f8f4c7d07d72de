/-
  Reports written: annals.Encode.
-/
import Derived.Test.YtnakkjgnjffkpaaRepP
import Derived.Test.YtnakkjgnjffkpaaRep2
import Derived.Test.YtnakkjgnjffkpaaAnn
import Derived.Test.YtnakkjgnjffkpaaCoder2
import Derived.IntWalk
namespace Go.Proofs.Ytnakkjgnjffkpaa
open Go.RowKit
set_option linter.unusedVariables false

/-! ### A writer through many calls: what it holds now, and what has turned since a world -/
def WtGo (w0 : World) (g : Nat) (o : Option Nat) (s : Wt) (W : World) : Prop := ∃ o', WtAt W g o' s ∧ (o' = o ∨ ∃ k, o' = some k ∧ w0.heap.size ≤ k) ∧ Chg (WS g o) w0 W
section
variable {w0 W w' : World} {g : Nat} {o : Option Nat} {s s' : Wt}
theorem WtGo.start (h : WtAt W g o s) : WtGo W g o s W := ⟨o, h, .inl rfl, Chg.refl _ _⟩
theorem WtGo.trans {o1 : Option Nat} {W1 : World} (h1 : WtAt W1 g o1 s) (h2 : o1 = o ∨ ∃ k, o1 = some k ∧ w0.heap.size ≤ k) (h3 : Chg (WS g o) w0 W1) (h : WtGo W1 g o1 s' W) : WtGo w0 g o s' W := by
  obtain ⟨o', a, b, c⟩ := h
  refine ⟨o', a, ?_, h3.andThen c ?_⟩
  · rcases b with rfl | ⟨k, rfl, hk⟩
    · exact h2
    · exact .inr ⟨k, rfl, Nat.le_trans h3.size hk⟩
  · intro k hk
    rcases hk with rfl | hk
    · exact .inl (.inl rfl)
    · rcases h2 with rfl | ⟨j, rfl, hj⟩
      · exact .inl (.inr hk)
      · cases hk; exact .inr hj
theorem WtGo.call {P : Program} {f : FuncId} {args : Array Value} (h : WtGo w0 g o s W) (hc : ∀ o', WtAt W g o' s → Calls P f args W (WtPost W g o' s')) : Calls P f args W fun e w' => e = .returned (.tuple #[]) ∧ WtGo w0 g o s' w' := by
  obtain ⟨o1, h1, h2, h3⟩ := h
  exact (hc o1 h1).mono fun e w' hp => ⟨hp.1, WtGo.trans h1 h2 h3 hp.2⟩
theorem WtGo.row (h : WtGo w0 g o s W) {k : Nat} (hk : k < w0.heap.size) (hn : ¬ WS g o k) : row W k = row w0 k := by
  obtain ⟨o1, h1, h2, h3⟩ := h
  exact h3.row hk hn
theorem WtGo.size (h : WtGo w0 g o s W) : w0.heap.size ≤ W.heap.size := by
  obtain ⟨o1, h1, h2, h3⟩ := h
  exact h3.size
theorem WtGo.below {W' : World} (h : WtGo w0 g o s W) (hb : Below W.heap.size W W') : WtGo w0 g o s W' := by
  obtain ⟨o1, h1, h2, h3⟩ := h
  exact ⟨o1, h1.stay hb, h2, h3.below_then hb (Nat.le_refl _)⟩
theorem WtGo.toBelow {B : Nat} (h : WtGo w0 g none s W) (hg : B ≤ g) (hB : B ≤ w0.heap.size) : Below B w0 W := by
  obtain ⟨o1, h1, h2, h3⟩ := h
  exact h3.toBelow (fun k hk => by
    rcases hk with rfl | hk
    · exact hg
    · cases hk) hB
theorem WS_not {k : Nat} {W : World} (h : WtAt W g o s) (hk : W.heap.size ≤ k) : ¬ WS g o k := fun hs => by
  rcases hs with rfl | hs
  · exact absurd h.lt.1 (by omega)
  · exact absurd (h.lt.2 k hs) (by omega)
theorem WS_under {k : Nat} (hv : o = none ∨ ∃ j, o = some j ∧ w0.heap.size ≤ j) (hg : k < g) (hk : k < w0.heap.size) : ¬ WS g o k := fun hs => by
  rcases hs with rfl | hs
  · omega
  · rcases hv with rfl | ⟨j, rfl, hj⟩
    · cases hs
    · cases hs; omega
end
/-! ### The numbers of a report, and where they stand -/
def encS (r : Rep) : Wt := if rightA r then ⟨formR r, 0⟩ else ⟨[], 2⟩
def wtN (r : Rep) (k : Nat) : Wt := wtL Wt.none ((numsR r).take k)
theorem wtN_ok (r : Rep) (k : Nat) : (wtN r k).Ok := wtL_ok _ _ Wt.none_ok
theorem wtN_succ {r : Rep} {k n : Nat} (h : (numsR r)[k]? = some n) : wtN r (k + 1) = (wtN r k).num n := by
  obtain ⟨hi, rfl⟩ := List.getElem?_eq_some_iff.1 h
  unfold wtN
  rw [List.take_succ_eq_append_getElem hi, wtL_append]; rfl
theorem wtN_int {r : Rep} {k : Nat} {z : Int} (hz : 0 ≤ z) (h : (numsR r)[k]? = some z.toNat) : wtN r (k + 1) = (wtN r k).int z := by
  rw [wtN_succ h, int_num hz]
def lstR (r : Rep) : Nat → List Int
  | 0 => r.out
  | 1 => r.left
  | 2 => r.started
  | _ => r.done
def posR (r : Rep) : Nat → Nat
  | 0 => 10
  | i + 1 => posR r i + (1 + (lstR r i).length)
theorem drop_row {L : List Nat} {p : Nat} {l : List Int} {rest : List Nat} (h : L.drop p = rowN l ++ rest) : L.drop (p + (1 + l.length)) = rest := by
  rw [← List.drop_drop, h, show 1 + l.length = (rowN l).length by rw [rowN_len]; omega, List.drop_left]
theorem pos_drop (r : Rep) : ∀ i, i < 4 → ∃ rest, (numsR r).drop (posR r i) = rowN (lstR r i) ++ rest
  | 0, _ => ⟨_, rfl⟩
  | 1, _ => ⟨_, drop_row (l := r.out) (rest := rowN r.left ++ (rowN r.started ++ rowN r.done)) rfl⟩
  | 2, _ => ⟨_, drop_row (l := r.left) (rest := rowN r.started ++ rowN r.done) (drop_row (l := r.out) rfl)⟩
  | 3, _ => ⟨[], by rw [List.append_nil]; exact drop_row (l := r.started) (rest := rowN r.done) (drop_row (l := r.left) (drop_row (l := r.out) rfl))⟩
  | i + 4, h => by omega
theorem pos_end (r : Rep) : wtN r (posR r 4) = wtL Wt.none (numsR r) := by
  have h : (numsR r).drop (posR r 3 + (1 + r.done.length)) = [] := drop_row (l := r.done) (by rw [List.append_nil]; exact drop_row (l := r.started) (rest := rowN r.done) (drop_row (l := r.left) (drop_row (l := r.out) rfl)))
  have h2 := congrArg List.length h
  rw [List.length_drop, List.length_nil] at h2
  unfold wtN
  rw [List.take_of_length_le]
  show _ ≤ posR r 3 + (1 + r.done.length)
  omega
theorem row_len {L : List Nat} {p : Nat} {l : List Int} {rest : List Nat} (h : L.drop p = rowN l ++ rest) : L[p]? = some l.length := by
  have : (L.drop p)[0]? = some l.length := by rw [h]; rfl
  rwa [List.getElem?_drop, Nat.add_zero] at this
theorem row_int {L : List Nat} {p : Nat} {l : List Int} {rest : List Nat} (h : L.drop p = rowN l ++ rest) {j : Nat} {z : Int} (hz : l[j]? = some z) : L[p + (1 + j)]? = some z.toNat := by
  have hj : j < l.length := (List.getElem?_eq_some_iff.1 hz).1
  have : (L.drop p)[1 + j]? = some z.toNat := by
    rw [h, List.getElem?_append_left (by rw [rowN_len]; omega), Nat.add_comm 1 j]
    show (l.map Int.toNat)[j]? = _
    rw [List.getElem?_map, hz]; rfl
  rwa [List.getElem?_drop] at this
theorem wide_num (r : Rep) {j n : Nat} (h : (money7 r)[j]? = some n) : (numsR r)[3 + j]? = some n := by
  have hj : j < 7 := (List.getElem?_eq_some_iff.1 h).1
  have e : (numsR r).drop 3 = money7 r ++ (rowN r.out ++ (rowN r.left ++ (rowN r.started ++ rowN r.done))) := rfl
  have : ((numsR r).drop 3)[j]? = some n := by rw [e, List.getElem?_append_left (by show j < 7; exact hj)]; exact h
  rwa [List.getElem?_drop] at this
def adrR (a : RepA) : Nat → Option Addr
  | 0 => a.a1
  | 1 => a.a2
  | 2 => a.a3
  | _ => a.a4
def capR (a : RepA) : Nat → Nat
  | 0 => a.c1
  | 1 => a.c2
  | 2 => a.c3
  | _ => a.c4
def s4A (r : Rep) (a : RepA) : Array Value := #[.slice a.a1 r.out.length a.c1, .slice a.a2 r.left.length a.c2, .slice a.a3 r.started.length a.c3, .slice a.a4 r.done.length a.c4]
theorem s4A_at (r : Rep) (a : RepA) : ∀ i, i < 4 → (s4A r a)[i]? = some (.slice (adrR a i) (lstR r i).length (capR a i))
  | 0, _ => rfl
  | 1, _ => rfl
  | 2, _ => rfl
  | 3, _ => rfl
  | i + 4, h => by omega
theorem RepAt.lst {W : World} {r : Rep} {a : RepA} (h : RepAt W (r, a)) : ∀ i, SliceOf 1 intK W (adrR a i) (lstR r i)
  | 0 => h.out
  | 1 => h.left
  | 2 => h.started
  | _ + 3 => h.done
theorem Rep.Small.lst {r : Rep} (h : r.Small) : ∀ i, (∀ z ∈ lstR r i, 0 ≤ z ∧ z ≤ 2147483647) ∧ (lstR r i).length ≤ 256
  | 0 => h.out
  | 1 => h.left
  | 2 => h.started
  | _ + 3 => h.done
set_option maxRecDepth 100000 in
set_option maxHeartbeats 8000000 in
theorem encode38_any (r : Rep) (a : RepA) (hr : r.Ok) (w : World) (hA : RepAt w (r, a)) : Calls Try.prog 25 #[.agg (repC (r, a))] w (OutPost w (encS r)) := by
  have r0 : row (w.alloc (.cells (repC (r, a)) 36)) w.heap.size = some (repC (r, a)) := row_at _ _ _ _ rfl
  have hB0 : Below w.heap.size w (w.alloc (.cells (repC (r, a)) 36)) := (by (repeat (first | exact Below.refl _ _ | assumption | (refine Below.allocT ?_ _) | refine Below.drew ?_ | refine below_drewN ?_ _ | (refine Below.then ?_ (by assumption)) | (refine Below.setRow ?_ ?_ _; rotate_left; (focus (first | exact Nat.lt_succ_self _ | ((repeat rw [World.size_alloc]); omega) | (simp; done) | (simp; omega) | omega))) | (refine Below.setCell ?_ ?_ _; rotate_left; (focus (first | exact Nat.lt_succ_self _ | ((repeat rw [World.size_alloc]); omega) | (simp; done) | (simp; omega) | omega))) | (refine Below.then' ?_ (by assumption) ?_; rotate_left; (focus (first | exact Nat.lt_succ_self _ | ((repeat rw [World.size_alloc]); omega) | (simp; done) | (simp; omega) | omega))) | fail)); (first | done | fail))
  have HA0 := Lib.hid (hA.stay hB0)
  have HA := Lib.hid hA
  have HRt := Lib.hid (fun W (h : RepAt W (r, a)) => right38_any r a hr W h)
  have hz := repC_one (r, a)
  cases hrt : rightA r
  · have HV : Hid (encS r = ⟨[], 2⟩) := Lib.hid (by simp [encS, hrt])
    rw [hrt] at HRt
    clear hr hrt hA
    go_enter Try.func25, Try.ntmps25
    go_upto_region 1 with fail
    generalize w.alloc (.cells (repC (r, a)) 36) = w0 at *
    go_wp2_with fail
    refine (HRt.out _ HA0.out).mono ?_
    rintro e w1 ⟨rfl, hb1⟩
    have B1 := Lib.hid (Below.then hB0 hb1)
    clear r0 hB0 hb1
    go_wp2_with fail
    go_ret2
    exact ⟨none, 0, by rw [HV.out]; rfl, by rw [HV.out]; exact OwnB.nil _, (fun a h => by cases h), B1.out⟩
  · have hsm := right_small7 hrt
    have HSm := Lib.hid hsm
    have HV : Hid (encS r = wtN r (posR r 4) ∧ (wtN r (posR r 4)).e = 0) := Lib.hid (by
      rw [pos_end, wtR_form hsm]
      exact ⟨by simp [encS, hrt], rfl⟩)
    rw [hrt] at HRt
    have HOk := Lib.hid (wtN_ok r)
    have he1 := hsm.ep
    have he2 := hsm.mo
    have HS0 : Hid (wtN r 1 = (wtN r 0).int r.epoch) := Lib.hid (wtN_int he1.1 rfl)
    have HS1 : Hid (wtN r 2 = (wtN r 1).int r.mode) := Lib.hid (wtN_int he2.1 rfl)
    have HS2 : Hid (wtN r 3 = (wtN r 2).num (flagN r.quorum)) := Lib.hid (wtN_succ rfl)
    have HI1 : Hid (i64ok r.epoch ∧ i64ok r.mode) := Lib.hid ⟨hr.epoch, hr.mode⟩
    have hw0 : wtN r 0 = Wt.none := rfl
    have HW0 := Lib.hid hw0
    clear hr hrt hA hsm he1 he2 hw0
    go_enter Try.func25, Try.ntmps25
    go_upto_region 1 with fail
    generalize w.alloc (.cells (repC (r, a)) 36) = w0 at *
    go_wp2_with fail
    refine (HRt.out _ HA0.out).mono ?_
    rintro e w1 ⟨rfl, hb1⟩
    have r1 := (row_below hb1 (row_lt r0)).trans r0
    have B1 := Below.then hB0 hb1
    have A1 := HA0.out.stay hb1
    clear r0 hB0 hb1 HA0 HRt
    have A2 := Lib.hid (A1.stay ((Below.refl _ w1).alloc (Nat.le_refl _) (.cells #[.slice none 0 0, .int .i64 0] 138)))
    have B2 := Lib.hid (Below.allocT B1 (.cells #[.slice none 0 0, .int .i64 0] 138))
    have r2 := (row_past _ (.cells #[.slice none 0 0, .int .i64 0] 138) _ (row_lt r1)).trans r1
    have hW2 := WtAt.fresh w1 138
    rw [← HW0.out] at hW2
    have G2 : Hid (w.heap.size < w1.heap.size) := Lib.hid (row_lt r1)
    have LG : Hid (w1.heap.size < (w1.alloc (.cells #[.slice none 0 0, .int .i64 0] 138)).heap.size) := Lib.hid (by rw [World.size_alloc]; omega)
    have L2 : Hid (w.heap.size < (w1.alloc (.cells #[.slice none 0 0, .int .i64 0] 138)).heap.size) := Lib.hid (row_lt r2)
    have k0 : (w1.alloc (.cells #[.slice none 0 0, .int .i64 0] 138)).cell? ⟨w.heap.size, 0, none⟩ = some (.int .i64 r.epoch) := row_cell r2 0
    clear A1 B1 r1 hz
    go_wp2_with (refine wpList_build_to #[.slice none 0 0, .int .i64 0] rfl 138 _ rfl (by kernel_rfl) ?_)
    generalize w1.alloc (.cells #[.slice none 0 0, .int .i64 0] 138) = w2 at *
    generalize w1.heap.size = g at *
    have N2 : Hid (¬ WS g none w.heap.size) := Lib.hid fun hk => by
      have := G2.out
      rcases hk with hk | hk
      · omega
      · cases hk
    have Go2 := Lib.hid (WtGo.start hW2)
    have X2 := Lib.hid (Go2.out.call (s' := wtN r 1) (fun o' ho => (wint_any g o' (wtN r 0) (HOk.out 0) r.epoch HI1.out.1 w2 ho).mono fun e w' hp => hp.cast HS0.out.symm))
    clear hW2 Go2
    refine (X2.out).mono ?_
    rintro e w3 ⟨rfl, hG3⟩
    have r3 := (hG3.row L2.out N2.out).trans r2
    have X3 := Lib.hid (hG3.call (s' := wtN r 2) (fun o' ho => (wint_any g o' (wtN r 1) (HOk.out 1) r.mode HI1.out.2 w3 ho).mono fun e w' hp => hp.cast HS1.out.symm))
    have k1 : w3.cell? ⟨w.heap.size, 1, none⟩ = some (.int .i64 r.mode) := row_cell r3 1
    clear k0 hG3 X2
    go_wp2_with fail
    refine (X3.out).mono ?_
    rintro e w4 ⟨rfl, hG4⟩
    have r4 := (hG4.row L2.out N2.out).trans r2
    have X4 := Lib.hid (hG4.call (s' := wtN r 3) (fun o' ho => (wflag_any g o' (wtN r 2) (HOk.out 2) r.quorum w4 ho).mono fun e w' hp => hp.cast HS2.out.symm))
    have k2 : w4.cell? ⟨w.heap.size, 2, none⟩ = some (.bool r.quorum) := row_cell r4 2
    clear k1 hG4 X3 r3
    go_wp2_with fail
    refine (X4.out).mono ?_
    rintro e w5 ⟨rfl, hG5⟩
    have r5 := (hG5.row L2.out N2.out).trans r2
    obtain ⟨o5, a5, v5, c5⟩ := hG5
    have hb6 : Below w5.heap.size w5 (w5.alloc (.cells (m7A r) 33)) := (by (repeat (first | exact Below.refl _ _ | assumption | (refine Below.allocT ?_ _) | refine Below.drew ?_ | refine below_drewN ?_ _ | (refine Below.then ?_ (by assumption)) | (refine Below.setRow ?_ ?_ _; rotate_left; (focus (first | exact Nat.lt_succ_self _ | ((repeat rw [World.size_alloc]); omega) | (simp; done) | (simp; omega) | omega))) | (refine Below.setCell ?_ ?_ _; rotate_left; (focus (first | exact Nat.lt_succ_self _ | ((repeat rw [World.size_alloc]); omega) | (simp; done) | (simp; omega) | omega))) | (refine Below.then' ?_ (by assumption) ?_; rotate_left; (focus (first | exact Nat.lt_succ_self _ | ((repeat rw [World.size_alloc]); omega) | (simp; done) | (simp; omega) | omega))) | fail)); (first | done | fail))
    have A6 := Lib.hid (a5.stay hb6)
    have V5 := Lib.hid v5
    have C6 := Lib.hid (c5.below_then hb6 (Nat.le_refl _))
    have N6 : Hid (¬ WS g o5 w.heap.size) := Lib.hid (WS_under v5 G2.out L2.out)
    have M6 : Hid (¬ WS g o5 w5.heap.size) := Lib.hid (WS_not a5 (Nat.le_refl _))
    have Q6 : Hid (row (w5.alloc (.cells (m7A r) 33)) w5.heap.size = some (m7A r)) := Lib.hid (row_at _ _ _ _ rfl)
    have R6 := Lib.hid ((row_past w5 (.cells (m7A r) 33) _ (row_lt r5)).trans r5)
    have cp : w5.cell? ⟨w.heap.size, 3, none⟩ = some (.int .u64 r.present) := row_cell r5 3
    have ca : w5.cell? ⟨w.heap.size, 4, none⟩ = some (.int .u64 r.active) := row_cell r5 4
    have cm : w5.cell? ⟨w.heap.size, 5, none⟩ = some (.int .u64 r.minted) := row_cell r5 5
    have cd : w5.cell? ⟨w.heap.size, 6, none⟩ = some (.int .u64 r.paid) := row_cell r5 6
    have ck : w5.cell? ⟨w.heap.size, 7, none⟩ = some (.int .u64 r.kept) := row_cell r5 7
    have cb : w5.cell? ⟨w.heap.size, 8, none⟩ = some (.int .u64 r.burned) := row_cell r5 8
    have cf : w5.cell? ⟨w.heap.size, 9, none⟩ = some (.int .u64 r.fees) := row_cell r5 9
    clear a5 v5 c5 hb6 r5 r4 r2 k2 X4
    go_upto_region 8 with fail
    change Code.wp _ _ _ _ (w5.alloc (.cells (m7A r) 33))
    clear cp ca cm cd ck cb cf
    generalize w5.alloc (.cells (m7A r) 33) = w6 at *
    generalize w5.heap.size = g7 at *
    have HM7 : Hid (∀ j, j < 7 → ∃ n, (money7 r)[j]? = some n ∧ n < 18446744073709551616) := Lib.hid fun j hj => by
      have hl : j < (money7 r).length := hj
      exact ⟨_, List.getElem?_eq_getElem hl, HSm.out.wide _ (List.getElem_mem hl)⟩
    go_wp2_with fail
    go_loopw [44] (fun i wr => ∃ j : Nat, i = .int .i64 j ∧ j ≤ 7 ∧ Hid (WtGo w6 g o5 (wtN r (3 + j)) wr)) (fun i _ => 7 - (intOf i).toNat)
    case atStart => exact ⟨0, rfl, by omega, Lib.hid (WtGo.start A6.out)⟩
    case round =>
      obtain ⟨j, rfl, hj, hG⟩ := hrel
      by_cases hlt : j < 7
      · obtain ⟨n, hn1, hn2⟩ := HM7.out j hlt
        have qr := (hG.out.row (row_lt Q6.out) M6.out).trans Q6.out
        have kn := (row_cell qr j).trans (m7A_at hn1)
        have HX := Lib.hid (hG.out.call (s' := wtN r (3 + (j + 1))) (fun o' ho => (wnum_any g o' (wtN r (3 + j)) (HOk.out _) n hn2 wr ho).mono fun e w' hp => hp.cast (wtN_succ (wide_num r hn1)).symm))
        have z1 : (0 : Int) ≤ (j : Int) := by omega
        have z2 : (j : Int) < 7 := by omega
        clear hn1 hn2 qr hG
        go_wp2_with fail
        refine (HX.out).mono ?_
        rintro e w7 ⟨rfl, hG7⟩
        have HG7 := Lib.hid hG7
        clear hG7
        go_wp2_with fail
        exact ⟨⟨j + 1, by go_num, by omega, HG7⟩, by simp [intOf]; omega⟩
      · obtain rfl : j = 7 := by omega
        have rr := (hG.out.row (row_lt R6.out) N6.out).trans R6.out
        obtain ⟨o7, a7, v7, c7⟩ := WtGo.trans A6.out V5.out C6.out hG.out
        have hb8 : Below wr.heap.size wr (wr.alloc (.cells (s4A r a) 34)) := (by (repeat (first | exact Below.refl _ _ | assumption | (refine Below.allocT ?_ _) | refine Below.drew ?_ | refine below_drewN ?_ _ | (refine Below.then ?_ (by assumption)) | (refine Below.setRow ?_ ?_ _; rotate_left; (focus (first | exact Nat.lt_succ_self _ | ((repeat rw [World.size_alloc]); omega) | (simp; done) | (simp; omega) | omega))) | (refine Below.setCell ?_ ?_ _; rotate_left; (focus (first | exact Nat.lt_succ_self _ | ((repeat rw [World.size_alloc]); omega) | (simp; done) | (simp; omega) | omega))) | (refine Below.then' ?_ (by assumption) ?_; rotate_left; (focus (first | exact Nat.lt_succ_self _ | ((repeat rw [World.size_alloc]); omega) | (simp; done) | (simp; omega) | omega))) | fail)); (first | done | fail))
        have A8 := Lib.hid (a7.stay hb8)
        have V7 := Lib.hid v7
        have C8 := Lib.hid (c7.below_then hb8 (Nat.le_refl _))
        have M8 : Hid (¬ WS g o7 wr.heap.size) := Lib.hid (WS_not a7 (Nat.le_refl _))
        have Q8 : Hid (row (wr.alloc (.cells (s4A r a) 34)) wr.heap.size = some (s4A r a)) := Lib.hid (row_at _ _ _ _ rfl)
        have ka : wr.cell? ⟨w.heap.size, 10, none⟩ = some (.slice a.a1 r.out.length a.c1) := row_cell rr 10
        have kb : wr.cell? ⟨w.heap.size, 11, none⟩ = some (.slice a.a2 r.left.length a.c2) := row_cell rr 11
        have kc : wr.cell? ⟨w.heap.size, 12, none⟩ = some (.slice a.a3 r.started.length a.c3) := row_cell rr 12
        have kd : wr.cell? ⟨w.heap.size, 13, none⟩ = some (.slice a.a4 r.done.length a.c4) := row_cell rr 13
        have HAll : Hid (∀ i, i < 4 → ∃ rest, (numsR r).drop (posR r i) = rowN (lstR r i) ++ rest) := Lib.hid (pos_drop r)
        have HGB : Hid (w.heap.size ≤ g ∧ w.heap.size ≤ w2.heap.size) := Lib.hid ⟨Nat.le_of_lt G2.out, Nat.le_of_lt L2.out⟩
        clear a7 v7 c7 hb8 rr hG HM7 Q6 R6 N6 M6 A6 V5 C6
        go_upto_region 13 with fail
        change Code.wp _ _ _ _ (wr.alloc (.cells (s4A r a) 34))
        clear ka kb kc kd
        generalize wr.alloc (.cells (s4A r a) 34) = w8 at *
        generalize wr.heap.size = g8 at *
        go_wp2_with fail
        go_loopw [62] (fun i wr => ∃ j : Nat, i = .int .i64 j ∧ j ≤ 4 ∧ Hid (WtGo w8 g o7 (wtN r (posR r j)) wr)) (fun i _ => 4 - (intOf i).toNat)
        case atStart => exact ⟨0, rfl, by omega, Lib.hid (WtGo.start A8.out)⟩
        case round =>
          obtain ⟨j, rfl, hj, hG⟩ := hrel
          by_cases hlt : j < 4
          · have qr := (hG.out.row (row_lt Q8.out) M8.out).trans Q8.out
            have kn := (row_cell qr j).trans (s4A_at r a j hlt)
            obtain ⟨rest, hd⟩ := HAll.out j hlt
            have HD := Lib.hid hd
            have hsl := HSm.out.lst j
            have HSl := Lib.hid hsl
            have hll := hsl.2
            have HX := Lib.hid (hG.out.call (s' := wtN r (posR r j + (1 + 0))) (fun o' ho => (wint_any g o' (wtN r (posR r j)) (HOk.out _) ((lstR r j).length : Int) (by unfold i64ok; omega) wr ho).mono fun e w' hp => hp.cast (wtN_int (by omega) (by rw [Int.toNat_natCast]; exact row_len hd)).symm))
            have HU : Hid (∀ s W, WtGo w8 g o7 s W → SliceOf 1 intK W (adrR a j) (lstR r j)) := Lib.hid fun s W hW => (HA.out.lst j).below (B2.out.trans ((WtGo.trans A8.out V7.out C8.out hW).toBelow (B := w.heap.size) HGB.out.1 HGB.out.2)) (Nat.le_refl _)
            have HP : Hid (posR r (j + 1) = posR r j + (1 + (lstR r j).length)) := Lib.hid rfl
            have z1 : (0 : Int) ≤ (j : Int) := by omega
            have z2 : (j : Int) < 4 := by omega
            clear hd hsl qr hG
            generalize adrR a j = A at *
            generalize capR a j = c at *
            generalize lstR r j = l at *
            obtain ⟨n, hn⟩ : ∃ n, n = l.length := ⟨_, rfl⟩
            rw [← hn] at HX HP kn hll
            have HN : Hid (l.length = n) := Lib.hid hn.symm
            clear hn
            go_wp2_with fail
            refine (HX.out).mono ?_
            rintro e w9 ⟨rfl, hG9⟩
            have G9 := Lib.hid hG9
            clear hG9 HX kn
            obtain ⟨wo, hwo⟩ : ∃ x, x = wr := ⟨_, rfl⟩
            go_wp2_with fail
            go_loopw [72] (fun i wr => ∃ q : Nat, i = .int .i64 q ∧ q ≤ n ∧ Hid (WtGo w8 g o7 (wtN r (posR r j + (1 + q))) wr)) (fun i _ => n - (intOf i).toNat)
            case atStart => exact ⟨0, rfl, by omega, G9⟩
            case round =>
              obtain ⟨q, rfl, hq, hI⟩ := hrel
              by_cases hlq : q < n
              · obtain ⟨z, hz⟩ : ∃ z, l[q]? = some z := ⟨_, List.getElem?_eq_getElem (by rw [HN.out]; exact hlq)⟩
                obtain ⟨b, off, rfl, _, kz⟩ := int_at (HU.out _ _ hI.out) hz
                have hzz := HSl.out.1 z (List.mem_of_getElem? hz)
                have HX2 := Lib.hid (hI.out.call (s' := wtN r (posR r j + (1 + (q + 1)))) (fun o' ho => (wint_any g o' (wtN r (posR r j + (1 + q))) (HOk.out _) z (by unfold i64ok; omega) _ ho).mono fun e w' hp => hp.cast (wtN_int hzz.1 (row_int HD.out hz)).symm))
                have y1 : (0 : Int) ≤ (q : Int) := by omega
                have y2 : (q : Int) < (n : Int) := by omega
                clear hz hzz hI
                go_wp2_with fail
                refine (HX2.out).mono ?_
                rintro e w10 ⟨rfl, hG10⟩
                have G10 := Lib.hid hG10
                clear hG10
                go_wp2_with fail
                exact ⟨⟨q + 1, by go_num, by omega, G10⟩, by simp [intOf]; omega⟩
              · obtain rfl : q = n := by omega
                have HNx := Lib.hid hI.out
                rw [← HP.out] at HNx
                clear hI
                go_wp2_with fail
                refine ⟨?_, by simp [intOf]; omega⟩
                repeat apply Exists.intro
                refine ⟨?_, rfl⟩
                exact ⟨j + 1, by go_num, by omega, HNx⟩
          · obtain rfl : j = 4 := by omega
            obtain ⟨o9, a9, v9, c9⟩ := WtGo.trans A8.out V7.out C8.out hG.out
            have HO := Lib.hid (wout_any g o9 (wtN r (posR r 4)) (HOk.out _) _ a9)
            have B9 := Lib.hid (B2.out.trans (c9.toBelow (B := w.heap.size) (fun k hk => by
              rcases hk with rfl | hk
              · exact HGB.out.1
              · cases hk) HGB.out.2))
            clear a9 v9 c9 hG
            go_wp2_with fail
            refine (HO.out).mono ?_
            rintro e w10 ⟨A10, c10, rfl, hO10, hA10, hb10⟩
            have HEnd : Hid (OutPost w (encS r) (.returned (.tuple #[.slice A10 (outL (wtN r (posR r 4))).length c10, .int .i64 (wtN r (posR r 4)).e])) w10) := Lib.hid (by
              rw [HV.out.1]
              exact ⟨A10, c10, rfl, hO10, fun a ha => Nat.le_trans B9.out.size (hA10 a ha), Below.then B9.out hb10⟩)
            clear hO10 hA10 hb10
            go_wp2_with fail
            go_ret2
            exact HEnd.out
end Go.Proofs.Ytnakkjgnjffkpaa

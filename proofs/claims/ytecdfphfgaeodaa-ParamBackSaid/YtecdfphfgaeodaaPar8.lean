/-
  What bullionref07 answers of parameters' bytes: Form.
  What bullionref07 reads: Read and Decode.
  What bullionref07's Decode answers.
  The plain law of parameters that are written and read: what is written is read as it was; what is read has just the bytes that are written for it.
  Two parameters held against each other with '=='.
-/
import Derived.Test.YtecdfphfgaeodaaPar7
import Derived.Test.YtecdfphfgaeodaaRef05
import Derived.Test.YtecdfphfgaeodaaCoder5
import Derived.Test.YtecdfphfgaeodaaBits
import Derived.Deep.Cut
import Derived.Test.YtecdfphfgaeodaaRef05c
import Derived.Test.YtecdfphfgaeodaaLaw07a
import Derived.Test.YtecdfphfgaeodaaBackP
import Derived.Test.YtecdfphfgaeodaaOpenB
import Derived.Test.YtecdfphfgaeodaaTicks
import Derived.Laws.StructEq
namespace Go.Proofs.Ytecdfphfgaeodaa
open Go.RowKit
set_option linter.unusedVariables false

def wArr (P : Par) : Array Value := ((wideL P).map fun n : Nat => Value.int .u64 ((n : Nat) : Int)).toArray
def nArr (P : Par) : Array Value := ((narrL P).map fun n : Int => Value.int .i64 n).toArray
def wFlat (P : Par) (i : Nat) : List Nat := ((wideL P).take i).flatMap formN
def nFlat (P : Par) (i : Nat) : List Nat := wFlat P 14 ++ ((narrL P).take i).flatMap fun n => formN n.toNat
theorem wFlat_succ {P : Par} {i n : Nat} (h : (wideL P)[i]? = some n) : wFlat P (i + 1) = wFlat P i ++ formN n := by
  obtain ⟨hi, rfl⟩ := List.getElem?_eq_some_iff.1 h
  unfold wFlat
  rw [List.take_succ_eq_append_getElem hi, List.flatMap_append, List.flatMap_cons, List.flatMap_nil, List.append_nil]
theorem nFlat_succ {P : Par} {i : Nat} {n : Int} (h : (narrL P)[i]? = some n) : nFlat P (i + 1) = nFlat P i ++ formN n.toNat := by
  obtain ⟨hi, rfl⟩ := List.getElem?_eq_some_iff.1 h
  unfold nFlat
  rw [List.take_succ_eq_append_getElem hi, List.flatMap_append, List.flatMap_cons, List.flatMap_nil, List.append_nil, List.append_assoc]
theorem nFlat_all (P : Par) : nFlat P 10 = formP P := by
  unfold nFlat wFlat formP
  rw [List.take_of_length_le (Nat.le_of_eq (wideL_len P)), List.take_of_length_le (Nat.le_of_eq (narrL_len P))]
theorem flat_small {α : Type} (f : α → List Nat) (l : List α) (i : Nat) (h : ∀ x ∈ l, (f x).length ≤ 10) (hi : i ≤ 14) : ((l.take i).flatMap f).length ≤ 140 := by
  have h1 := flat_le f (l.take i) (fun x hx => h x (List.mem_of_mem_take hx))
  have h2 := List.length_take_le i l
  omega
theorem wFlat_len {P : Par} (h : Fits7 P) (i : Nat) (hi : i ≤ 14) : (wFlat P i).length ≤ 140 := flat_small _ _ _ (fun x hx => formN_len10 (h.wide x hx)) hi
theorem nFlat_len {P : Par} (h : Fits7 P) (i : Nat) (hi : i ≤ 10) : (nFlat P i).length ≤ 280 := by
  have h1 := wFlat_len h 14 (Nat.le_refl _)
  have h2 := flat_small (fun n : Int => formN n.toNat) (narrL P) i (fun x hx => formN_len10 (by have := h.narr x hx; omega)) (by omega)
  unfold nFlat
  rw [List.length_append]; omega
theorem wArr_at {P : Par} {i n : Nat} (h : (wideL P)[i]? = some n) : (wArr P)[i]? = some (.int .u64 ((n : Nat) : Int)) := by
  unfold wArr; rw [List.getElem?_toArray, List.getElem?_map, h]; rfl
theorem nArr_at {P : Par} {i : Nat} {n : Int} (h : (narrL P)[i]? = some n) : (nArr P)[i]? = some (.int .i64 n) := by
  unfold nArr; rw [List.getElem?_toArray, List.getElem?_map, h]; rfl
theorem OwnB.bysA {W : World} {A : Option Addr} {n c : Nat} {l : List Nat} (h : OwnB W (.slice A n c) l) : Bys W A l := by
  obtain ⟨A', c', e, hb, _⟩ := h.form
  cases e
  exact hb
/-- A list of bytes of the call's own that grows. -/
def Grow (w0 : World) (A : Option Addr) (c : Nat) (l : List Nat) (W : World) : Prop := OwnB W (.slice A l.length c) l ∧ (∀ a, A = some a → w0.heap.size ≤ a.block) ∧ Below w0.heap.size w0 W
theorem Grow.nil {w0 W : World} (h : Below w0.heap.size w0 W) : Grow w0 none 0 [] W := ⟨OwnB.nil _, (fun a e => by cases e), h⟩
theorem Grow.append {w0 W W2 W' : World} {A A' : Option Addr} {c c' : Nat} {l m : List Nat} (h : Grow w0 A c l W) (hb : Below W.heap.size W W2) (ha : Appended W2 (.slice A l.length c) l m (.slice A' (l.length + m.length) c') W') : Grow w0 A' c' (l ++ m) W' := by
  have ho1 : ∀ k, (Value.slice A l.length c).ownBlock = some k → w0.heap.size ≤ k := fun k hk => by
    cases A with
    | none => cases hk
    | some a => cases hk; exact h.2.1 a rfl
  have hb2 := Below.then h.2.2 hb
  refine ⟨by rw [List.length_append]; exact ha.1, fun a e => ?_, hb2.grown ha.2.1 hb2.size ho1⟩
  subst e
  have e2 : (Value.slice (some a) (l.length + m.length) c').ownBlock = some a.block := rfl
  rcases ha.2.2 with h2 | h2
  · exact ho1 _ (h2.symm.trans e2)
  · have h3 := e2.symm.trans h2
    rw [Option.some.injEq] at h3
    rw [h3]; exact hb2.size
theorem Grow.of_app {w0 W W' : World} {a : Addr} {n c : Nat} {l m : List Nat} {A' : Option Addr} {k c' : Nat} (hb : Below w0.heap.size w0 W) (ha0 : w0.heap.size ≤ a.block) (ha : Appended W (.slice (some a) n c) l m (.slice A' k c') W') : OwnB W' (.slice A' k c') (l ++ m) ∧ (∀ a, A' = some a → w0.heap.size ≤ a.block) ∧ Below w0.heap.size w0 W' := by
  have ho1 : ∀ k, (Value.slice (some a) n c).ownBlock = some k → w0.heap.size ≤ k := fun k hk => by
    have h1 : some a.block = some k := hk
    rw [Option.some.injEq] at h1; rw [← h1]; exact ha0
  refine ⟨ha.1, fun x e => ?_, hb.grown ha.2.1 hb.size ho1⟩
  subst e
  have e2 : (Value.slice (some x) k c').ownBlock = some x.block := rfl
  rcases ha.2.2 with h2 | h2
  · exact ho1 _ (h2.symm.trans e2)
  · have h3 := e2.symm.trans h2
    rw [Option.some.injEq] at h3
    rw [h3]; exact hb.size
theorem Grow.widen {w w0 W : World} {A : Option Addr} {c : Nat} {l : List Nat} (h : Grow w0 A c l W) (hb : Below w.heap.size w w0) : Grow w A c l W := ⟨h.1, fun a e => Nat.le_trans hb.size (h.2.1 a e), Below.then hb h.2.2⟩
theorem Grow.ret {w W : World} {A : Option Addr} {c : Nat} {l : List Nat} (h : Grow w A c l W) : RetB w l (.returned (.slice A l.length c)) W := ⟨A, c, rfl, h.1, h.2.1, h.2.2⟩
set_option maxRecDepth 100000 in
set_option maxHeartbeats 8000000 in
theorem rform7_any (P : Par) (hf : Fits7 P) (w : World) : Calls Try.prog 26 #[.agg P.cells] w (RetB w (formP P)) := by
  have r0 : row (w.alloc (.cells P.cells 30)) w.heap.size = some P.cells := row_at _ _ _ _ rfl
  have hB0 : Below w.heap.size w (w.alloc (.cells P.cells 30)) := (by (repeat (first | exact Below.refl _ _ | assumption | (refine Below.allocT ?_ _) | refine Below.drew ?_ | refine below_drewN ?_ _ | (refine Below.then ?_ (by assumption)) | (refine Below.setRow ?_ ?_ _; rotate_left; (focus (first | exact Nat.lt_succ_self _ | ((repeat rw [World.size_alloc]); omega) | (simp; done) | (simp; omega) | omega))) | (refine Below.setCell ?_ ?_ _; rotate_left; (focus (first | exact Nat.lt_succ_self _ | ((repeat rw [World.size_alloc]); omega) | (simp; done) | (simp; omega) | omega))) | (refine Below.then' ?_ (by assumption) ?_; rotate_left; (focus (first | exact Nat.lt_succ_self _ | ((repeat rw [World.size_alloc]); omega) | (simp; done) | (simp; omega) | omega))) | fail)); (first | done | fail))
  have HF := Lib.hid hf
  have hcell : ∀ i, (w.alloc (.cells P.cells 30)).cell? ⟨w.heap.size, i, none⟩ = P.cells[i]? := fun i => row_cell r0 i
  have HV : Hid (RetB w (nFlat P 10) = RetB w (formP P)) := Lib.hid (by rw [nFlat_all])
  rw [← HV.out]
  clear hf HV
  go_enter Try.func26, Try.ntmps26
  go_upto_region 1 with fail
  generalize w.alloc (.cells P.cells 30) = w0 at *
  have r1 : row (w0.alloc (.cells (wArr P) 22)) w0.heap.size = some (wArr P) := row_at _ _ _ _ rfl
  have p1 : row (w0.alloc (.cells (wArr P) 22)) w.heap.size = some P.cells := (row_past _ _ _ (row_lt r0)).trans r0
  have hB1 : Below w.heap.size w (w0.alloc (.cells (wArr P) 22)) := Below.allocT hB0 _
  go_upto_region 2 with fail
  change Code.wp _ _ _ _ (w0.alloc (.cells (wArr P) 22))
  have hg1 : Hid (w.heap.size < w0.heap.size) := Lib.hid (row_lt r0)
  generalize w0.alloc (.cells (wArr P) 22) = w1 at *
  generalize w0.heap.size = g1 at *
  clear hcell r0 hB0
  have hcell : ∀ i, w1.cell? ⟨w.heap.size, i, none⟩ = P.cells[i]? := fun i => row_cell p1 i
  have r2 : row (w1.alloc (.cells (nArr P) 3)) w1.heap.size = some (nArr P) := row_at _ _ _ _ rfl
  have q2 : row (w1.alloc (.cells (nArr P) 3)) g1 = some (wArr P) := (row_past _ _ _ (row_lt r1)).trans r1
  have hB2 : Below w.heap.size w (w1.alloc (.cells (nArr P) 3)) := Below.allocT hB1 _
  go_upto_region 3 with fail
  change Code.wp _ _ _ _ (w1.alloc (.cells (nArr P) 3))
  generalize w1.alloc (.cells (nArr P) 3) = w2 at *
  generalize w1.heap.size = g2 at *
  clear hcell r1 p1 hB1
  have HZ : Hid (Below w.heap.size w w2) := Lib.hid hB2
  have Q2 := Lib.hid (And.intro q2 r2)
  clear hB2 q2 r2
  go_wp2_with fail
  go_loopw [5, 6] (fun o i wr => ∃ (j : Nat) (A : Option Addr) (c : Nat), i = .int .i64 j ∧ j ≤ 14 ∧ o = .slice A (wFlat P j).length c ∧ Hid (Grow w2 A c (wFlat P j) wr)) (fun _ i _ => 14 - (intOf i).toNat)
  case atStart => exact ⟨0, none, 0, rfl, by omega, rfl, Lib.hid (Grow.nil (Below.refl _ _))⟩
  case round =>
    obtain ⟨j, A, c, rfl, hj, rfl, hG⟩ := hrel
    by_cases hlt : j < 14
    · obtain ⟨n, hn⟩ : ∃ n, (wideL P)[j]? = some n := ⟨_, List.getElem?_eq_getElem (by rw [wideL_len]; omega)⟩
      have k1 : wr.cell? ⟨g1, j, none⟩ = some (.int .u64 (n : Int)) := (row_cell ((row_below hG.out.2.2 (row_lt Q2.out.1)).trans Q2.out.1) j).trans (wArr_at hn)
      have HFm := Lib.hid (rform_any n (HF.out.wide n (List.mem_of_getElem? hn)))
      have HS := Lib.hid (wFlat_succ hn)
      have HL1 := Lib.hid (wFlat_len HF.out j (by omega))
      have HL2 := Lib.hid (formN_len10 (HF.out.wide n (List.mem_of_getElem? hn)))
      have z1 : (0 : Int) ≤ (j : Int) := by omega
      have z2 : (j : Int) < 14 := by omega
      clear hn
      generalize wFlat P j = l at *
      go_wp2_with fail
      refine (HFm.out _).mono ?_
      intro e w3 hR
      obtain ⟨A2, c2, rfl, hB, hO, hA, hb⟩ := hR.bys
      have O1 := Lib.hid (hG.out.1.stay hb)
      have HB2 := Lib.hid hB
      have HBb := Lib.hid hb
      clear hR hB hO hA hb k1
      go_wp2_with (at_builtin; refine wpList_appb rfl _ _ rfl _ l (formN n) A2 _ c2 O1.out HB2.out rfl rfl rfl (by have := HL1.out; have := HL2.out; omega) ?_; intro v' w4 hAp; obtain ⟨A3, c3, rfl⟩ := hAp.form; have HAp := Lib.hid hAp; clear hAp)
      have HG3 := Lib.hid (hG.out.append HBb.out HAp.out)
      exact ⟨⟨j + 1, A3, c3, by go_num, by omega, by rw [HS.out, List.length_append], by rw [HS.out]; exact HG3⟩, by simp [intOf]; omega⟩
    · obtain rfl : j = 14 := by omega
      rw [show (((14 : Nat)) : Int) = 14 from rfl]
      have HN0 : Hid (wFlat P 14 = nFlat P 0) := Lib.hid (by unfold nFlat; simp)
      go_wp2_with fail
      go_loopw [5, 7] (fun o i wr => ∃ (j : Nat) (A : Option Addr) (c : Nat), i = .int .i64 j ∧ j ≤ 10 ∧ o = .slice A (nFlat P j).length c ∧ Hid (Grow w2 A c (nFlat P j) wr)) (fun _ i _ => 10 - (intOf i).toNat)
      case atStart => exact ⟨0, A, c, rfl, by omega, by rw [← HN0.out], by rw [← HN0.out]; exact hG⟩
      case round =>
        clear hG
        obtain ⟨j, A, c, rfl, hj, rfl, hG⟩ := hrel
        by_cases hlt : j < 10
        · obtain ⟨n, hn⟩ : ∃ n, (narrL P)[j]? = some n := ⟨_, List.getElem?_eq_getElem (by rw [narrL_len]; omega)⟩
          have hnn := HF.out.narr n (List.mem_of_getElem? hn)
          obtain ⟨m, rfl⟩ := Int.eq_ofNat_of_zero_le hnn.1
          have hm : m < 18446744073709551616 := by omega
          have k1 : wr.cell? ⟨g2, j, none⟩ = some (.int .i64 (m : Int)) := (row_cell ((row_below hG.out.2.2 (row_lt Q2.out.2)).trans Q2.out.2) j).trans (nArr_at hn)
          have HFm := Lib.hid (rform_any m hm)
          have HS : Hid (nFlat P (j + 1) = nFlat P j ++ formN m) := Lib.hid (nFlat_succ hn)
          have HL1 := Lib.hid (nFlat_len HF.out j (by omega))
          have HL2 := Lib.hid (formN_len10 hm)
          have E1 : IntKind.u64.wrap (m : Int) = (m : Int) := Bits.wrapN _ hm
          have z1 : (0 : Int) ≤ (j : Int) := by omega
          have z2 : (j : Int) < 10 := by omega
          clear hn hnn
          generalize nFlat P j = l at *
          go_wp2_with fail
          refine (HFm.out _).mono ?_
          intro e w3 hR
          obtain ⟨A2, c2, rfl, hB, hO, hA, hb⟩ := hR.bys
          have O1 := Lib.hid (hG.out.1.stay hb)
          have HB2 := Lib.hid hB
          have HBb := Lib.hid hb
          clear hR hB hO hA hb k1
          go_wp2_with (at_builtin; refine wpList_appb rfl _ _ rfl _ l (formN m) A2 _ c2 O1.out HB2.out rfl rfl rfl (by have := HL1.out; have := HL2.out; omega) ?_; intro v' w4 hAp; obtain ⟨A3, c3, rfl⟩ := hAp.form; have HAp := Lib.hid hAp; clear hAp)
          have HG3 := Lib.hid (hG.out.append HBb.out HAp.out)
          exact ⟨⟨j + 1, A3, c3, by go_num, by omega, by rw [HS.out, List.length_append], by rw [HS.out]; exact HG3⟩, by simp [intOf]; omega⟩
        · obtain rfl : j = 10 := by omega
          have HG3 := Lib.hid (hG.out.widen HZ.out)
          go_wp2_with fail
          go_ret
          exact HG3.out.ret
end Go.Proofs.Ytecdfphfgaeodaa

namespace Go.Proofs.Ytecdfphfgaeodaa
open Go.RowKit
set_option linter.unusedVariables false

def arrU (l : List Nat) : Array Value := #[.int .u64 ((l.getD 0 0 : Nat) : Int), .int .u64 ((l.getD 1 0 : Nat) : Int), .int .u64 ((l.getD 2 0 : Nat) : Int), .int .u64 ((l.getD 3 0 : Nat) : Int), .int .u64 ((l.getD 4 0 : Nat) : Int), .int .u64 ((l.getD 5 0 : Nat) : Int), .int .u64 ((l.getD 6 0 : Nat) : Int), .int .u64 ((l.getD 7 0 : Nat) : Int), .int .u64 ((l.getD 8 0 : Nat) : Int), .int .u64 ((l.getD 9 0 : Nat) : Int), .int .u64 ((l.getD 10 0 : Nat) : Int), .int .u64 ((l.getD 11 0 : Nat) : Int), .int .u64 ((l.getD 12 0 : Nat) : Int), .int .u64 ((l.getD 13 0 : Nat) : Int)]
def arrI (l : List Nat) : Array Value := #[.int .i64 ((l.getD 0 0 : Nat) : Int), .int .i64 ((l.getD 1 0 : Nat) : Int), .int .i64 ((l.getD 2 0 : Nat) : Int), .int .i64 ((l.getD 3 0 : Nat) : Int), .int .i64 ((l.getD 4 0 : Nat) : Int), .int .i64 ((l.getD 5 0 : Nat) : Int), .int .i64 ((l.getD 6 0 : Nat) : Int), .int .i64 ((l.getD 7 0 : Nat) : Int), .int .i64 ((l.getD 8 0 : Nat) : Int), .int .i64 ((l.getD 9 0 : Nat) : Int)]
theorem set_arrU (n : Nat) : ∀ (l : List Nat), l.length < 14 → (arrU l).setIfInBounds l.length (.int .u64 (n : Int)) = arrU (l ++ [n])
  | [], _ => rfl
  | [x0], _ => rfl
  | [x0, x1], _ => rfl
  | [x0, x1, x2], _ => rfl
  | [x0, x1, x2, x3], _ => rfl
  | [x0, x1, x2, x3, x4], _ => rfl
  | [x0, x1, x2, x3, x4, x5], _ => rfl
  | [x0, x1, x2, x3, x4, x5, x6], _ => rfl
  | [x0, x1, x2, x3, x4, x5, x6, x7], _ => rfl
  | [x0, x1, x2, x3, x4, x5, x6, x7, x8], _ => rfl
  | [x0, x1, x2, x3, x4, x5, x6, x7, x8, x9], _ => rfl
  | [x0, x1, x2, x3, x4, x5, x6, x7, x8, x9, x10], _ => rfl
  | [x0, x1, x2, x3, x4, x5, x6, x7, x8, x9, x10, x11], _ => rfl
  | [x0, x1, x2, x3, x4, x5, x6, x7, x8, x9, x10, x11, x12], _ => rfl
  | x0 :: x1 :: x2 :: x3 :: x4 :: x5 :: x6 :: x7 :: x8 :: x9 :: x10 :: x11 :: x12 :: x13 :: r, h => by simp only [List.length_cons] at h; omega
theorem set_arrI (n : Nat) : ∀ (l : List Nat), l.length < 10 → (arrI l).setIfInBounds l.length (.int .i64 (n : Int)) = arrI (l ++ [n])
  | [], _ => rfl
  | [x0], _ => rfl
  | [x0, x1], _ => rfl
  | [x0, x1, x2], _ => rfl
  | [x0, x1, x2, x3], _ => rfl
  | [x0, x1, x2, x3, x4], _ => rfl
  | [x0, x1, x2, x3, x4, x5], _ => rfl
  | [x0, x1, x2, x3, x4, x5, x6], _ => rfl
  | [x0, x1, x2, x3, x4, x5, x6, x7], _ => rfl
  | [x0, x1, x2, x3, x4, x5, x6, x7, x8], _ => rfl
  | x0 :: x1 :: x2 :: x3 :: x4 :: x5 :: x6 :: x7 :: x8 :: x9 :: r, h => by simp only [List.length_cons] at h; omega
theorem parOf_cells (a b : List Nat) : ∃ u0 u1 u2 u3 u4 u5 u6 u7 u8 u9 u10 u11 u12 u13 n0 n1 n2 n3 n4 n5 n6 n7 n8 n9 : Nat, arrU a = #[.int .u64 ((u0 : Nat) : Int), .int .u64 ((u1 : Nat) : Int), .int .u64 ((u2 : Nat) : Int), .int .u64 ((u3 : Nat) : Int), .int .u64 ((u4 : Nat) : Int), .int .u64 ((u5 : Nat) : Int), .int .u64 ((u6 : Nat) : Int), .int .u64 ((u7 : Nat) : Int), .int .u64 ((u8 : Nat) : Int), .int .u64 ((u9 : Nat) : Int), .int .u64 ((u10 : Nat) : Int), .int .u64 ((u11 : Nat) : Int), .int .u64 ((u12 : Nat) : Int), .int .u64 ((u13 : Nat) : Int)] ∧ arrI b = #[.int .i64 ((n0 : Nat) : Int), .int .i64 ((n1 : Nat) : Int), .int .i64 ((n2 : Nat) : Int), .int .i64 ((n3 : Nat) : Int), .int .i64 ((n4 : Nat) : Int), .int .i64 ((n5 : Nat) : Int), .int .i64 ((n6 : Nat) : Int), .int .i64 ((n7 : Nat) : Int), .int .i64 ((n8 : Nat) : Int), .int .i64 ((n9 : Nat) : Int)] ∧ (parOf a b).cells = #[.int .u64 ((u0 : Nat) : Int), .int .u64 ((u1 : Nat) : Int), .int .u64 ((u2 : Nat) : Int), .int .u64 ((u3 : Nat) : Int), .int .u64 ((u4 : Nat) : Int), .int .u64 ((u5 : Nat) : Int), .int .u64 ((u6 : Nat) : Int), .int .u64 ((u7 : Nat) : Int), .int .u64 ((u8 : Nat) : Int), .int .u64 ((u9 : Nat) : Int), .int .u64 ((u10 : Nat) : Int), .int .u64 ((u11 : Nat) : Int), .int .u64 ((u12 : Nat) : Int), .int .u64 ((u13 : Nat) : Int), .int .i64 ((n0 : Nat) : Int), .int .i64 ((n1 : Nat) : Int), .int .i64 ((n2 : Nat) : Int), .int .i64 ((n3 : Nat) : Int), .int .i64 ((n4 : Nat) : Int), .int .i64 ((n5 : Nat) : Int), .int .i64 ((n6 : Nat) : Int), .int .i64 ((n7 : Nat) : Int), .int .i64 ((n8 : Nat) : Int), .int .i64 ((n9 : Nat) : Int)] := ⟨_, _, _, _, _, _, _, _, _, _, _, _, _, _, _, _, _, _, _, _, _, _, _, _, rfl, rfl, rfl⟩
theorem arrU_some (l : List Nat) {j : Nat} (h : j < 14) : ∃ v, (arrU l)[j]? = some v := ⟨(arrU l)[j]'h, Array.getElem?_eq_getElem _⟩
theorem arrI_some (l : List Nat) {j : Nat} (h : j < 10) : ∃ v, (arrI l)[j]? = some v := ⟨(arrI l)[j]'h, Array.getElem?_eq_getElem _⟩
theorem results_cell_one {P : Program} {fn : Func} {p : Tmp} {ty : TypeId} (h : fn.results = #[.cell p ty]) (tmps : Array Value) (w : World) (g : Nat) (t : TypeId) (cs : Array Value) (fr : Nat × Nat) (d : TypeDesc)
    (hp : tmps.getD p undef = .pointer (some ⟨g, 0, none⟩)) (hg : w.heap[g]? = some (.cells cs t fr))
    (hu : P.underlying ty = some d) (hd : (match d with | .struct _ | .array _ _ => true | _ => false) = true) (hi : (P.info? ty).map (·.size) = some cs.size) :
    (results fn tmps).run P w = .ok (.agg cs) w := by
  have hp' : tmps[p]?.getD undef = .pointer (some ⟨g, 0, none⟩) := by simpa using hp
  simp [results, h, hp', asAddr, run_loadVar_row w g t ty cs fr d hg hu hd hi]
theorem only_row' {w : World} (g : Nat) (cs : Array Value) : Chg (only g) w (w.setRow g cs) := (Chg.refl (only g) w).setRow (.inl rfl) cs
/-- What Read leaves: the numbers, and the reader behind them. -/
def RfReadPost (w : World) (g : Nat) (A : Option Addr) (c : Nat) (t : Rd) (e : Ending) (w' : World) : Prop := e = .returned (.agg (readP t).cells) ∧ RfAt w' g A c (readT t) ∧ Chg (only g) w w'
set_option maxRecDepth 100000 in
set_option maxHeartbeats 8000000 in
theorem fread_any (g : Nat) (A : Option Addr) (c : Nat) (t : Rd) (ht : t.Ok) (w : World) (hR : RfAt w g A c t) : Calls Try.prog 57 #[.pointer (some ⟨g, 0, none⟩)] w (RfReadPost w g A c t) := by
  have r0 : row ((w.alloc (.cells #[.int .u64 0, .int .u64 0, .int .u64 0, .int .u64 0, .int .u64 0, .int .u64 0, .int .u64 0, .int .u64 0, .int .u64 0, .int .u64 0, .int .u64 0, .int .u64 0, .int .u64 0, .int .u64 0, .int .i64 0, .int .i64 0, .int .i64 0, .int .i64 0, .int .i64 0, .int .i64 0, .int .i64 0, .int .i64 0, .int .i64 0, .int .i64 0] 30)).alloc (.cells #[.int .u64 0, .int .u64 0, .int .u64 0, .int .u64 0, .int .u64 0, .int .u64 0, .int .u64 0, .int .u64 0, .int .u64 0, .int .u64 0, .int .u64 0, .int .u64 0, .int .u64 0, .int .u64 0] 133)) w.heap.size = some Par.zero.cells := (by (repeat (first | assumption | (refine row_at _ _ _ _ ?_; first | rfl | (simp only [World.size_alloc]; done) | (simp only [World.size_alloc]; omega)) | (refine (row_past _ _ _ ?_).trans ?_; (focus (first | exact Nat.lt_succ_self _ | ((repeat rw [World.size_alloc]); omega) | (simp; done) | (simp; omega) | omega))) | rw [row_drewN] | rw [row_drew])); (first | done | fail))
  have q0 : row ((w.alloc (.cells #[.int .u64 0, .int .u64 0, .int .u64 0, .int .u64 0, .int .u64 0, .int .u64 0, .int .u64 0, .int .u64 0, .int .u64 0, .int .u64 0, .int .u64 0, .int .u64 0, .int .u64 0, .int .u64 0, .int .i64 0, .int .i64 0, .int .i64 0, .int .i64 0, .int .i64 0, .int .i64 0, .int .i64 0, .int .i64 0, .int .i64 0, .int .i64 0] 30)).alloc (.cells #[.int .u64 0, .int .u64 0, .int .u64 0, .int .u64 0, .int .u64 0, .int .u64 0, .int .u64 0, .int .u64 0, .int .u64 0, .int .u64 0, .int .u64 0, .int .u64 0, .int .u64 0, .int .u64 0] 133)) (w.heap.size + 1) = some (arrU []) := (by (repeat (first | assumption | (refine row_at _ _ _ _ ?_; first | rfl | (simp only [World.size_alloc]; done) | (simp only [World.size_alloc]; omega)) | (refine (row_past _ _ _ ?_).trans ?_; (focus (first | exact Nat.lt_succ_self _ | ((repeat rw [World.size_alloc]); omega) | (simp; done) | (simp; omega) | omega))) | rw [row_drewN] | rw [row_drew])); (first | done | fail))
  have hB0 : Below w.heap.size w ((w.alloc (.cells #[.int .u64 0, .int .u64 0, .int .u64 0, .int .u64 0, .int .u64 0, .int .u64 0, .int .u64 0, .int .u64 0, .int .u64 0, .int .u64 0, .int .u64 0, .int .u64 0, .int .u64 0, .int .u64 0, .int .i64 0, .int .i64 0, .int .i64 0, .int .i64 0, .int .i64 0, .int .i64 0, .int .i64 0, .int .i64 0, .int .i64 0, .int .i64 0] 30)).alloc (.cells #[.int .u64 0, .int .u64 0, .int .u64 0, .int .u64 0, .int .u64 0, .int .u64 0, .int .u64 0, .int .u64 0, .int .u64 0, .int .u64 0, .int .u64 0, .int .u64 0, .int .u64 0, .int .u64 0] 133)) := (by (repeat (first | exact Below.refl _ _ | assumption | (refine Below.allocT ?_ _) | refine Below.drew ?_ | refine below_drewN ?_ _ | (refine Below.then ?_ (by assumption)) | (refine Below.setRow ?_ ?_ _; rotate_left; (focus (first | exact Nat.lt_succ_self _ | ((repeat rw [World.size_alloc]); omega) | (simp; done) | (simp; omega) | omega))) | (refine Below.setCell ?_ ?_ _; rotate_left; (focus (first | exact Nat.lt_succ_self _ | ((repeat rw [World.size_alloc]); omega) | (simp; done) | (simp; omega) | omega))) | (refine Below.then' ?_ (by assumption) ?_; rotate_left; (focus (first | exact Nat.lt_succ_self _ | ((repeat rw [World.size_alloc]); omega) | (simp; done) | (simp; omega) | omega))) | fail)); (first | done | fail))
  have HA : Hid (0 < t.xs.length → ∀ a, A = some a → a.block < w.heap.size) := Lib.hid (fun h => hR.bys.lt h)
  have HG := Lib.hid hR.lt
  have HR := Lib.hid hR
  have HW := Lib.hid (fun i => rdW_ok ht i)
  have HI := Lib.hid (fun i => rdI_ok (rdW_ok ht 14).1 i)
  have hT : Hid (readT t = (rdI (rdW t 14).2 10).2 ∧ readP t = parOf (rdW t 14).1 (rdI (rdW t 14).2 10).1) := Lib.hid ⟨rfl, rfl⟩
  clear hR ht
  go_enter Try.func57, Try.ntmps57
  go_upto_region 2 with fail
  first | rw [World.size_alloc] | skip
  generalize (w.alloc (.cells #[.int .u64 0, .int .u64 0, .int .u64 0, .int .u64 0, .int .u64 0, .int .u64 0, .int .u64 0, .int .u64 0, .int .u64 0, .int .u64 0, .int .u64 0, .int .u64 0, .int .u64 0, .int .u64 0, .int .i64 0, .int .i64 0, .int .i64 0, .int .i64 0, .int .i64 0, .int .i64 0, .int .i64 0, .int .i64 0, .int .i64 0, .int .i64 0] 30)).alloc (.cells #[.int .u64 0, .int .u64 0, .int .u64 0, .int .u64 0, .int .u64 0, .int .u64 0, .int .u64 0, .int .u64 0, .int .u64 0, .int .u64 0, .int .u64 0, .int .u64 0, .int .u64 0, .int .u64 0] 133) = w2 at *
  obtain ⟨h, hh⟩ : ∃ h, h = w.heap.size + 1 := ⟨_, rfl⟩
  rw [← hh] at q0 ⊢
  have NE : Hid (h ≠ w.heap.size ∧ w.heap.size ≤ h ∧ w.heap.size ≠ g ∧ h ≠ g) := Lib.hid ⟨by omega, by omega, by have := HG.out; omega, by have := HG.out; omega⟩
  have R2 := Lib.hid (HR.out.stay hB0)
  have C2 : Hid (Chg (only g) w w2) := Lib.hid (Chg.of_below hB0 (Nat.le_refl _))
  clear hB0 HR hh
  go_wp2_with fail
  go_loopw [4] (fun i wr => ∃ j : Nat, i = .int .i64 j ∧ j ≤ 14 ∧ Hid (RfAt wr g A c (rdW t j).2 ∧ Chg (only g) w wr ∧ row wr w.heap.size = some Par.zero.cells ∧ row wr h = some (arrU (rdW t j).1))) (fun i _ => 14 - (intOf i).toNat)
  case atStart => exact ⟨0, rfl, by omega, Lib.hid ⟨R2.out, C2.out, r0, q0⟩⟩
  case round =>
    obtain ⟨j, rfl, hj, hH⟩ := hrel
    clear r0 q0
    by_cases hlt : j < 14
    · obtain ⟨v, hv⟩ := arrU_some (rdW t j).1 hlt
      have HV := Lib.hid hv
      have HX := Lib.hid (fnum_any g A c (rdW t j).2 (HW.out j).1 18446744073709551615 (by omega) wr hH.out.1)
      have S1 : Hid (rdW t (j + 1) = ((rdW t j).1 ++ [((rdW t j).2.num 18446744073709551615).1], ((rdW t j).2.num 18446744073709551615).2)) := Lib.hid rfl
      have SW : Hid (∀ n : Nat, (arrU (rdW t j).1).setIfInBounds j (.int .u64 (n : Int)) = arrU ((rdW t j).1 ++ [n])) := Lib.hid fun n => by
        have := set_arrU n (rdW t j).1 (by rw [rdW_len]; exact hlt)
        rwa [rdW_len] at this
      have z1 : (0 : Int) ≤ (j : Int) := by omega
      have z2 : (j : Int) < 14 := by omega
      clear hv
      go_wp2_with fail
      refine (HX.out).mono ?_
      rintro e w3 ⟨rfl, hR3, hC3⟩
      have g3 := (hC3.row (row_lt hH.out.2.2.2) NE.out.2.2.2).trans hH.out.2.2.2
      have p3 := Lib.hid ((hC3.row (row_lt hH.out.2.2.1) NE.out.2.2.1).trans hH.out.2.2.1)
      have C3 := Lib.hid (hH.out.2.1.andThen hC3 (fun k hk => .inl hk))
      have R3 := Lib.hid hR3
      have cv := (row_cell g3 j).trans HV.out
      have fv := row_frozen g3 j
      have G3 := Lib.hid g3
      clear g3 hR3 hC3
      go_wp2_with fail
      refine ⟨⟨j + 1, by go_num, by omega, Lib.hid ⟨?_, ?_, ?_, ?_⟩⟩, by simp [intOf]; omega⟩
      · rw [S1.out]
        exact R3.out.chg' (only_set h j _) (fun he => NE.out.2.2.2 he.symm) (fun h0 a ha he => by
          have hx := (HW.out (j + 1)).2
          rw [S1.out] at hx
          rw [hx] at h0
          have := HA.out h0 a ha
          have he' : a.block = h := he
          have := NE.out.2.1
          omega)
      · exact C3.out.setCell (p := ⟨h, j, none⟩) (.inr NE.out.2.1) _
      · exact (row_far w3 ⟨h, j, none⟩ _ _ NE.out.1.symm).trans p3.out
      · rw [row_set G3.out, S1.out, SW.out]
    · obtain rfl : j = 14 := by omega
      rw [show (((14 : Nat)) : Int) = 14 from rfl]
      have r4 : row (wr.alloc (.cells #[.int .i64 0, .int .i64 0, .int .i64 0, .int .i64 0, .int .i64 0, .int .i64 0, .int .i64 0, .int .i64 0, .int .i64 0, .int .i64 0] 134)) w.heap.size = some Par.zero.cells := (row_past _ _ _ (row_lt hH.out.2.2.1)).trans hH.out.2.2.1
      have q4 : row (wr.alloc (.cells #[.int .i64 0, .int .i64 0, .int .i64 0, .int .i64 0, .int .i64 0, .int .i64 0, .int .i64 0, .int .i64 0, .int .i64 0, .int .i64 0] 134)) h = some (arrU (rdW t 14).1) := (row_past _ _ _ (row_lt hH.out.2.2.2)).trans hH.out.2.2.2
      have m4 : row (wr.alloc (.cells #[.int .i64 0, .int .i64 0, .int .i64 0, .int .i64 0, .int .i64 0, .int .i64 0, .int .i64 0, .int .i64 0, .int .i64 0, .int .i64 0] 134)) wr.heap.size = some (arrI []) := row_at _ _ _ _ rfl
      have R4 := Lib.hid (hH.out.1.stay ((Below.refl _ wr).alloc (Nat.le_refl _) (.cells #[.int .i64 0, .int .i64 0, .int .i64 0, .int .i64 0, .int .i64 0, .int .i64 0, .int .i64 0, .int .i64 0, .int .i64 0, .int .i64 0] 134)))
      have C4 := Lib.hid (hH.out.2.1.alloc (.cells #[.int .i64 0, .int .i64 0, .int .i64 0, .int .i64 0, .int .i64 0, .int .i64 0, .int .i64 0, .int .i64 0, .int .i64 0, .int .i64 0] 134))
      have NE4 : Hid (wr.heap.size ≠ w.heap.size ∧ w.heap.size ≤ wr.heap.size ∧ wr.heap.size ≠ g ∧ wr.heap.size ≠ h) := Lib.hid (by
        have h1 := row_lt hH.out.2.2.1
        have h2 := row_lt hH.out.2.2.2
        have h3 := hH.out.1.lt
        exact ⟨by omega, by omega, by omega, by omega⟩)
      clear hH
      go_wp2_with fail
      generalize wr.alloc (.cells #[.int .i64 0, .int .i64 0, .int .i64 0, .int .i64 0, .int .i64 0, .int .i64 0, .int .i64 0, .int .i64 0, .int .i64 0, .int .i64 0] 134) = w5 at *
      generalize wr.heap.size = h4 at *
      go_loopw [6] (fun i wr => ∃ j : Nat, i = .int .i64 j ∧ j ≤ 10 ∧ Hid (RfAt wr g A c (rdI (rdW t 14).2 j).2 ∧ Chg (only g) w wr ∧ row wr w.heap.size = some Par.zero.cells ∧ row wr h = some (arrU (rdW t 14).1) ∧ row wr h4 = some (arrI (rdI (rdW t 14).2 j).1))) (fun i _ => 10 - (intOf i).toNat)
      case atStart => exact ⟨0, rfl, by omega, Lib.hid ⟨R4.out, C4.out, r4, q4, m4⟩⟩
      case round =>
        obtain ⟨j, rfl, hj, hH⟩ := hrel
        clear r4 q4 m4
        by_cases hlt : j < 10
        · obtain ⟨v, hv⟩ := arrI_some (rdI (rdW t 14).2 j).1 hlt
          have HV := Lib.hid hv
          have HX := Lib.hid (fint_any g A c (rdI (rdW t 14).2 j).2 (HI.out j).1 2147483647 (by unfold i64ok; omega) wr hH.out.1)
          rw [show (2147483647 : Int) = ((2147483647 : Nat) : Int) by omega, int_nat] at HX
          have S1 : Hid (rdI (rdW t 14).2 (j + 1) = ((rdI (rdW t 14).2 j).1 ++ [((rdI (rdW t 14).2 j).2.num 2147483647).1], ((rdI (rdW t 14).2 j).2.num 2147483647).2)) := Lib.hid rfl
          have SW : Hid (∀ n : Nat, (arrI (rdI (rdW t 14).2 j).1).setIfInBounds j (.int .i64 (n : Int)) = arrI ((rdI (rdW t 14).2 j).1 ++ [n])) := Lib.hid fun n => by
            have := set_arrI n (rdI (rdW t 14).2 j).1 (by rw [rdI_len]; exact hlt)
            rwa [rdI_len] at this
          have z1 : (0 : Int) ≤ (j : Int) := by omega
          have z2 : (j : Int) < 10 := by omega
          clear hv
          go_wp2_with fail
          refine (HX.out).mono ?_
          rintro e w3 ⟨rfl, hR3, hC3⟩
          have g3 := (hC3.row (row_lt hH.out.2.2.2.2) NE4.out.2.2.1).trans hH.out.2.2.2.2
          have p3 := Lib.hid ((hC3.row (row_lt hH.out.2.2.1) NE.out.2.2.1).trans hH.out.2.2.1)
          have p4 := Lib.hid ((hC3.row (row_lt hH.out.2.2.2.1) NE.out.2.2.2).trans hH.out.2.2.2.1)
          have C3 := Lib.hid (hH.out.2.1.andThen hC3 (fun k hk => .inl hk))
          have R3 := Lib.hid hR3
          have cv := (row_cell g3 j).trans HV.out
          have fv := row_frozen g3 j
          have G3 := Lib.hid g3
          clear g3 hR3 hC3
          go_wp2_with fail
          refine ⟨⟨j + 1, by go_num, by omega, Lib.hid ⟨?_, ?_, ?_, ?_, ?_⟩⟩, by simp [intOf]; omega⟩
          · rw [S1.out]
            exact R3.out.chg' (only_set h4 j _) (fun he => NE4.out.2.2.1 he.symm) (fun h0 a ha he => by
              have hx := (HI.out (j + 1)).2
              rw [S1.out] at hx
              rw [hx, (HW.out 14).2] at h0
              have := HA.out h0 a ha
              have he' : a.block = h4 := he
              have := NE4.out.2.1
              omega)
          · exact C3.out.setCell (p := ⟨h4, j, none⟩) (.inr NE4.out.2.1) _
          · exact (row_far w3 ⟨h4, j, none⟩ _ _ NE4.out.1.symm).trans p3.out
          · exact (row_far w3 ⟨h4, j, none⟩ _ _ NE4.out.2.2.2.symm).trans p4.out
          · rw [row_set G3.out, S1.out, SW.out]
        · obtain rfl : j = 10 := by omega
          have hR5 := hH.out.1
          have r5 := hH.out.2.2.1
          have q5 := hH.out.2.2.2.1
          have m5 := hH.out.2.2.2.2
          obtain ⟨u0, u1, u2, u3, u4, u5, u6, u7, u8, u9, u10, u11, u12, u13, n0, n1, n2, n3, n4, n5, n6, n7, n8, n9, e1, e2, e3⟩ := parOf_cells (rdW t 14).1 (rdI (rdW t 14).2 10).1
          rw [← hT.out.2] at e3
          rw [e1] at q5
          rw [e2] at m5
          rw [← hT.out.1] at hR5
          have cu0 : wr.cell? ⟨h, 0, none⟩ = some (.int .u64 ((u0 : Nat) : Int)) := row_cell q5 0
          have cu1 : wr.cell? ⟨h, 1, none⟩ = some (.int .u64 ((u1 : Nat) : Int)) := row_cell q5 1
          have cu2 : wr.cell? ⟨h, 2, none⟩ = some (.int .u64 ((u2 : Nat) : Int)) := row_cell q5 2
          have cu3 : wr.cell? ⟨h, 3, none⟩ = some (.int .u64 ((u3 : Nat) : Int)) := row_cell q5 3
          have cu4 : wr.cell? ⟨h, 4, none⟩ = some (.int .u64 ((u4 : Nat) : Int)) := row_cell q5 4
          have cu5 : wr.cell? ⟨h, 5, none⟩ = some (.int .u64 ((u5 : Nat) : Int)) := row_cell q5 5
          have cu6 : wr.cell? ⟨h, 6, none⟩ = some (.int .u64 ((u6 : Nat) : Int)) := row_cell q5 6
          have cu7 : wr.cell? ⟨h, 7, none⟩ = some (.int .u64 ((u7 : Nat) : Int)) := row_cell q5 7
          have cu8 : wr.cell? ⟨h, 8, none⟩ = some (.int .u64 ((u8 : Nat) : Int)) := row_cell q5 8
          have cu9 : wr.cell? ⟨h, 9, none⟩ = some (.int .u64 ((u9 : Nat) : Int)) := row_cell q5 9
          have cu10 : wr.cell? ⟨h, 10, none⟩ = some (.int .u64 ((u10 : Nat) : Int)) := row_cell q5 10
          have cu11 : wr.cell? ⟨h, 11, none⟩ = some (.int .u64 ((u11 : Nat) : Int)) := row_cell q5 11
          have cu12 : wr.cell? ⟨h, 12, none⟩ = some (.int .u64 ((u12 : Nat) : Int)) := row_cell q5 12
          have cu13 : wr.cell? ⟨h, 13, none⟩ = some (.int .u64 ((u13 : Nat) : Int)) := row_cell q5 13
          have cn0 : wr.cell? ⟨h4, 0, none⟩ = some (.int .i64 ((n0 : Nat) : Int)) := row_cell m5 0
          have cn1 : wr.cell? ⟨h4, 1, none⟩ = some (.int .i64 ((n1 : Nat) : Int)) := row_cell m5 1
          have cn2 : wr.cell? ⟨h4, 2, none⟩ = some (.int .i64 ((n2 : Nat) : Int)) := row_cell m5 2
          have cn3 : wr.cell? ⟨h4, 3, none⟩ = some (.int .i64 ((n3 : Nat) : Int)) := row_cell m5 3
          have cn4 : wr.cell? ⟨h4, 4, none⟩ = some (.int .i64 ((n4 : Nat) : Int)) := row_cell m5 4
          have cn5 : wr.cell? ⟨h4, 5, none⟩ = some (.int .i64 ((n5 : Nat) : Int)) := row_cell m5 5
          have cn6 : wr.cell? ⟨h4, 6, none⟩ = some (.int .i64 ((n6 : Nat) : Int)) := row_cell m5 6
          have cn7 : wr.cell? ⟨h4, 7, none⟩ = some (.int .i64 ((n7 : Nat) : Int)) := row_cell m5 7
          have cn8 : wr.cell? ⟨h4, 8, none⟩ = some (.int .i64 ((n8 : Nat) : Int)) := row_cell m5 8
          have cn9 : wr.cell? ⟨h4, 9, none⟩ = some (.int .i64 ((n9 : Nat) : Int)) := row_cell m5 9
          have R5 := Lib.hid hR5
          have C5 := Lib.hid hH.out.2.1
          have HPost : Hid (∀ (e : Ending) (w' : World), e = .returned (.agg (readP t).cells) → RfAt w' g A c (readT t) → Chg (only g) w w' → RfReadPost w g A c t e w') := Lib.hid fun e w' h1 h2 h3 => ⟨h1, h2, h3⟩
          have HE3 := Lib.hid e3
          generalize readP t = rp at *
          have HNEs : Hid (w.heap.size ≠ g) := Lib.hid NE.out.2.2.1
          have HAx : Hid (0 < (readT t).xs.length → ∀ a, A = some a → a.block < w.heap.size) := Lib.hid (fun h0 => by
            have hx := (HI.out 10).2
            rw [← hT.out.1, (HW.out 14).2] at hx
            rw [hx] at h0
            exact HA.out h0)
          generalize readT t = rt at *
          clear q5 m5 e1 e2 e3 hH hR5 HW HI HA hT NE NE4 R4 C4 R2 C2
          obtain ⟨t9, ht9⟩ := row_heap (row_setRow (new := rp.cells) r5)
          have HT9 := Lib.hid ht9
          clear ht9
          go_wp2_with (refine wpList_build_to rp.cells rfl 30 _ rfl (by rw [HE3.out]; kernel_rfl) ?_)
          exact bodyPost_ret (v := .agg rp.cells) (results_cell_one Try.results57 _ _ w.heap.size _ rp.cells (0, 0) _ rfl HT9.out rpar_under rfl rpar_info) rfl (HPost.out _ _ rfl (R5.out.chg' (S := only w.heap.size) (only_row' _ _) (fun he => HNEs.out he.symm) (fun h0 a ha he => by have := HAx.out h0 a ha; have he' : a.block = w.heap.size := he; omega)) (C5.out.setRow (.inr (Nat.le_refl _)) _))
end Go.Proofs.Ytecdfphfgaeodaa

namespace Go.Proofs.Ytecdfphfgaeodaa
open Go.RowKit
set_option linter.unusedVariables false

theorem rpar_run_load {ρ : Operand → Value} {dst : Option Tmp} {x : Operand} {ty : TypeId} {pos : String} {after : Array Edge} {gd : Option (Nat × Bool)} {w : World}
    (h1 : ρ x = .pointer (some ⟨blk (ρ x), 0, none⟩)) (h2 : (row w (blk (ρ x))).map (·.size) = some 24) :
    (execOp ρ ⟨dst, .load 30 x, ty, pos, after, gd⟩).run Try.prog w = .ok (.value (.agg ((row w (blk (ρ x))).getD #[]))) w := run_load_agg _ 24 _ rpar_under rfl rpar_info h1 h2
theorem rpar_run_build0 {ρ : Operand → Value} {dst : Option Tmp} {ty : TypeId} {pos : String} {after : Array Edge} {gd : Option (Nat × Bool)} {w : World} :
    (execOp ρ ⟨dst, .build 30 #[], ty, pos, after, gd⟩).run Try.prog w = .ok (.value (.agg Par.zero.cells)) w := by
  have h : Try.prog.built 30 [] = some Par.zero.cells := by kernel_rfl
  unfold execOp
  simp [run_build, h]
attribute [local go_sem ↓] rpar_run_load rpar_run_build0
set_option maxRecDepth 100000 in
set_option maxHeartbeats 8000000 in
theorem rdec7_any (A : Option Addr) (n c : Nat) (xs : List Nat) (hn : xs.length = n) (hm : n ≤ 1000000) (w : World) (hU : BysIn w A c xs) : Calls Try.prog 28 #[.slice A n c] w (DecPost w ⟨xs, 0, 0⟩) := by
  have ht : Rd.Ok ⟨xs, 0, 0⟩ := ⟨hU.ok, by simp, by show xs.length ≤ _; omega, by simp, by simp⟩
  have r0 : row ((w.alloc (.cells #[.int .u64 0, .int .u64 0, .int .u64 0, .int .u64 0, .int .u64 0, .int .u64 0, .int .u64 0, .int .u64 0, .int .u64 0, .int .u64 0, .int .u64 0, .int .u64 0, .int .u64 0, .int .u64 0, .int .i64 0, .int .i64 0, .int .i64 0, .int .i64 0, .int .i64 0, .int .i64 0, .int .i64 0, .int .i64 0, .int .i64 0, .int .i64 0] 30)).alloc (.cells #[.slice A n c, .int .i64 0, .int .i64 0] 97)) w.heap.size = some Par.zero.cells := (by (repeat (first | assumption | (refine row_at _ _ _ _ ?_; first | rfl | (simp only [World.size_alloc]; done) | (simp only [World.size_alloc]; omega)) | (refine (row_past _ _ _ ?_).trans ?_; (focus (first | exact Nat.lt_succ_self _ | ((repeat rw [World.size_alloc]); omega) | (simp; done) | (simp; omega) | omega))) | rw [row_drewN] | rw [row_drew])); (first | done | fail))
  have q0 : row ((w.alloc (.cells #[.int .u64 0, .int .u64 0, .int .u64 0, .int .u64 0, .int .u64 0, .int .u64 0, .int .u64 0, .int .u64 0, .int .u64 0, .int .u64 0, .int .u64 0, .int .u64 0, .int .u64 0, .int .u64 0, .int .i64 0, .int .i64 0, .int .i64 0, .int .i64 0, .int .i64 0, .int .i64 0, .int .i64 0, .int .i64 0, .int .i64 0, .int .i64 0] 30)).alloc (.cells #[.slice A n c, .int .i64 0, .int .i64 0] 97)) (w.heap.size + 1) = some (rfC A c ⟨xs, 0, 0⟩) := (row_at _ _ _ _ (by simp)).trans (by show some #[Value.slice A n c, Value.int IntKind.i64 0, Value.int IntKind.i64 0] = some #[Value.slice A xs.length c, Value.int IntKind.i64 0, Value.int IntKind.i64 0]; rw [hn])
  have hB0 : Below w.heap.size w ((w.alloc (.cells #[.int .u64 0, .int .u64 0, .int .u64 0, .int .u64 0, .int .u64 0, .int .u64 0, .int .u64 0, .int .u64 0, .int .u64 0, .int .u64 0, .int .u64 0, .int .u64 0, .int .u64 0, .int .u64 0, .int .i64 0, .int .i64 0, .int .i64 0, .int .i64 0, .int .i64 0, .int .i64 0, .int .i64 0, .int .i64 0, .int .i64 0, .int .i64 0] 30)).alloc (.cells #[.slice A n c, .int .i64 0, .int .i64 0] 97)) := (by (repeat (first | exact Below.refl _ _ | assumption | (refine Below.allocT ?_ _) | refine Below.drew ?_ | refine below_drewN ?_ _ | (refine Below.then ?_ (by assumption)) | (refine Below.setRow ?_ ?_ _; rotate_left; (focus (first | exact Nat.lt_succ_self _ | ((repeat rw [World.size_alloc]); omega) | (simp; done) | (simp; omega) | omega))) | (refine Below.setCell ?_ ?_ _; rotate_left; (focus (first | exact Nat.lt_succ_self _ | ((repeat rw [World.size_alloc]); omega) | (simp; done) | (simp; omega) | omega))) | (refine Below.then' ?_ (by assumption) ?_; rotate_left; (focus (first | exact Nat.lt_succ_self _ | ((repeat rw [World.size_alloc]); omega) | (simp; done) | (simp; omega) | omega))) | fail)); (first | done | fail))
  have HR1 := Lib.hid (fun g A c W (h : RfAt W g A c ⟨xs, 0, 0⟩) => fread_any g A c ⟨xs, 0, 0⟩ ht W h)
  have HRg := Lib.hid (fun W => right_any (readP ⟨xs, 0, 0⟩) W)
  have HU := Lib.hid hU
  have HPost : Hid (∀ (e : Ending) (w' : World), e = .returned (.tuple #[.agg (readQ ⟨xs, 0, 0⟩).cells, .int .i64 (decN ⟨xs, 0, 0⟩ : Int), .int .i64 (readE ⟨xs, 0, 0⟩)]) → Below w.heap.size w w' → DecPost w ⟨xs, 0, 0⟩ e w') := Lib.hid fun e w' h1 h2 => ⟨h1, h2⟩
  have HD : Hid (decN ⟨xs, 0, 0⟩ = if readE ⟨xs, 0, 0⟩ = 0 then (readT ⟨xs, 0, 0⟩).at_ else 0) := Lib.hid rfl
  have HB := Lib.hid (fun h => readE_bad (t := ⟨xs, 0, 0⟩) h)
  have HNo := Lib.hid (fun h1 h2 => readE_no (t := ⟨xs, 0, 0⟩) h1 h2)
  have HYe := Lib.hid (fun h1 h2 => readE_yes (t := ⟨xs, 0, 0⟩) h1 h2)
  unfold RfReadPost at HR1
  generalize readE ⟨xs, 0, 0⟩ = re at *
  generalize readQ ⟨xs, 0, 0⟩ = rq at *
  generalize readT ⟨xs, 0, 0⟩ = rt at *
  generalize readP ⟨xs, 0, 0⟩ = rp at *
  generalize decN ⟨xs, 0, 0⟩ = dn at *
  clear hU ht
  go_enter Try.func28, Try.ntmps28
  go_upto_region 2 with fail
  first | rw [World.size_alloc] | skip
  generalize (w.alloc (.cells #[.int .u64 0, .int .u64 0, .int .u64 0, .int .u64 0, .int .u64 0, .int .u64 0, .int .u64 0, .int .u64 0, .int .u64 0, .int .u64 0, .int .u64 0, .int .u64 0, .int .u64 0, .int .u64 0, .int .i64 0, .int .i64 0, .int .i64 0, .int .i64 0, .int .i64 0, .int .i64 0, .int .i64 0, .int .i64 0, .int .i64 0, .int .i64 0] 30)).alloc (.cells #[.slice A n c, .int .i64 0, .int .i64 0] 97) = w0 at *
  obtain ⟨g1, hg1⟩ : ∃ g1, g1 = w.heap.size + 1 := ⟨_, rfl⟩
  rw [← hg1] at q0 ⊢
  have G1 : Hid (w.heap.size < g1) := Lib.hid (by omega)
  have R0 : Hid (RfAt w0 g1 A c ⟨xs, 0, 0⟩) := Lib.hid ⟨q0, HU.out.bys.below hB0 (Nat.le_refl _), HU.out.cap, HU.out.top, fun hp a ha => by have := HU.out.bys.lt hp a ha; have := G1.out; omega, HU.out.nil⟩
  clear q0 hg1 HU hn
  go_wp2_with fail
  refine (HR1.out _ _ _ _ R0.out).mono ?_
  rintro e w2 ⟨rfl, hR2, hC2⟩
  have r2 := (hC2.row (row_lt r0) (fun he => by have := G1.out; have he' : w.heap.size = g1 := he; omega)).trans r0
  have B2 := Lib.hid (hB0.trans (hC2.toBelow (B := w.heap.size) (fun k hk => by have := G1.out; have he' : k = g1 := hk; omega) hB0.size))
  have r3 : row (w2.alloc (.cells rp.cells 30)) w2.heap.size = some rp.cells := row_at _ _ _ _ rfl
  have L2 := row_lt r2
  have r4 : row (w2.alloc (.cells rp.cells 30)) w.heap.size = some Par.zero.cells := (row_past _ _ _ L2).trans r2
  have Lg := hR2.lt
  have q4 : row (w2.alloc (.cells rp.cells 30)) g1 = some (rfC A c rt) := (row_past _ _ _ Lg).trans hR2.row
  have c2 : (w2.alloc (.cells rp.cells 30)).cell? ⟨g1, 2, none⟩ = some (.int .i64 rt.e) := row_cell q4 2
  have c1 : (w2.alloc (.cells rp.cells 30)).cell? ⟨g1, 1, none⟩ = some (.int .i64 (rt.at_ : Int)) := row_cell q4 1
  have B3 := Lib.hid (Below.allocT B2.out (.cells rp.cells 30))
  have Q4 := Lib.hid q4
  have G3 : Hid (w.heap.size < w2.heap.size) := Lib.hid L2
  clear r0 hB0 hR2 hC2 q4 HR1 R0 r2 B2
  have Lw3 : g1 < (w2.alloc (.cells rp.cells 30)).heap.size := by rw [World.size_alloc]; omega
  go_upto_region 3 with fail
  generalize w2.alloc (.cells rp.cells 30) = w3 at *
  have Lg5 : Hid (g1 < w3.heap.size) := Lib.hid Lw3
  generalize w2.heap.size = g3 at *
  have f1 := row_frozen r4 0
  by_cases he0 : rt.e = 0
  · have he1 : (rt.e != 0) = false := by rw [he0]; rfl
    have he2 := Lib.hid he0
    clear he0 HB
    go_wp2_with fail
    refine (HRg.out _).mono ?_
    rintro e w5 ⟨rfl, hb5⟩
    have r5 := (row_below hb5 (row_lt r3)).trans r3
    have p5 := (row_below hb5 (row_lt r4)).trans r4
    have k1 : w5.cell? ⟨g1, 1, none⟩ = some (.int .i64 (rt.at_ : Int)) := (hb5.cell (p := ⟨g1, 1, none⟩) Lg5.out).trans c1
    have B5 := Lib.hid (Below.then B3.out hb5)
    have K5 := Lib.hid ((row_below hb5 (row_lt Q4.out)).trans Q4.out)
    clear r3 r4 c1 c2 hb5 B3
    cases hr : rightB rp
    · obtain ⟨x1, x2⟩ := HNo.out he2.out hr
      have X1 := Lib.hid x1
      have X2 := Lib.hid x2
      have D1 := HD.out
      rw [if_neg (by omega)] at D1
      have D1h := Lib.hid D1
      obtain ⟨t9, ht9⟩ := row_heap (row_setRow (new := Par.zero.cells) p5)
      have HT9 := Lib.hid ht9
      clear ht9 x1 x2 D1 hr HD
      go_wp2_with (refine wpList_build_to Par.zero.cells rfl 30 _ rfl (by kernel_rfl) ?_)
      exact bodyPost_ret (v := .tuple #[.agg Par.zero.cells, .int .i64 0, .int .i64 70]) (results_cell_two Try.results28 _ _ w.heap.size _ _ (0, 0) _ rfl HT9.out rpar_under rfl rpar_info) rfl (HPost.out _ _ (by rw [X1.out, X2.out, D1h.out]; rfl) (Below.setRow B5.out (Nat.le_refl _) _))
    · obtain ⟨x1, x2⟩ := HYe.out he2.out hr
      have X1 := Lib.hid x1
      have X2 := Lib.hid x2
      have D1 := HD.out
      rw [if_pos x1] at D1
      have D1h := Lib.hid D1
      obtain ⟨t9, ht9⟩ := row_heap (row_setRow (new := rp.cells) p5)
      have HT9 := Lib.hid ht9
      clear ht9 x1 x2 D1 hr HD
      go_wp2_with fail
      have s5 := row_setRow (new := rp.cells) p5
      have c5 : (w5.setRow w.heap.size rp.cells).cell? ⟨g1, 1, none⟩ = some (.int .i64 (rt.at_ : Int)) := row_cell ((row_setRow_far (by have := G1.out; omega)).trans K5.out) 1
      have t5 : row (w5.setRow w.heap.size rp.cells) g3 = some rp.cells := (row_setRow_far (by have := G3.out; omega)).trans r5
      have HT9' : Hid ((w5.setRow w.heap.size rp.cells).heap[w.heap.size]? = some (.cells rp.cells t9 (0, 0))) := HT9
      go_region_held3 (fun w' => (∃ cs, row w' w.heap.size = some cs ∧ cs.size = 24) ∧ w'.cell? ⟨g1, 1, none⟩ = some (.int .i64 (rt.at_ : Int)) ∧ row w' g3 = some rp.cells) (first | exact ⟨⟨_, p5, rfl⟩, k1, r5⟩ | exact ⟨⟨_, s5, rfl⟩, c5, t5⟩ | exact ⟨by rw [row_drew]; exact ⟨_, by assumption, rfl⟩, by assumption, by rw [row_drew]; assumption⟩) (fail)
      all_goals
        go_wp2_with fail
        exact bodyPost_ret (v := .tuple #[.agg rp.cells, .int .i64 (rt.at_ : Int), .int .i64 0]) (results_cell_two Try.results28 _ _ w.heap.size _ _ (0, 0) _ rfl HT9.out rpar_under rfl rpar_info) rfl (HPost.out _ _ (by rw [X1.out, X2.out, D1h.out]) (by first | exact Below.setRow B5.out (Nat.le_refl _) _ | exact (Below.setRow B5.out (Nat.le_refl _) _).drew | exact (Below.setRow B5.out.drew (Nat.le_refl _) _)))
  · have he1 : (rt.e != 0) = true := bne_iff_ne.2 he0
    obtain ⟨x1, x2⟩ := HB.out he0
    have X1 := Lib.hid x1
    have X2 := Lib.hid x2
    have D1 := HD.out
    rw [if_neg (by rw [x1]; exact he0)] at D1
    have D1h := Lib.hid D1
    clear x1 x2 D1 he0 HD
    go_wp2_with fail
    have s4 := row_setRow (new := Par.zero.cells) r4
    have c4 : (w3.setRow w.heap.size Par.zero.cells).cell? ⟨g1, 2, none⟩ = some (.int .i64 rt.e) := row_cell ((row_setRow_far (by have := G1.out; omega)).trans Q4.out) 2
    obtain ⟨t9, ht9⟩ := row_heap s4
    have HT9 : Hid ((w3.setRow w.heap.size Par.zero.cells).heap[w.heap.size]? = some (.cells Par.zero.cells t9 (0, 0))) := Lib.hid ht9
    clear ht9
    go_region_held3 (fun w' => row w' w.heap.size = some Par.zero.cells ∧ w'.cell? ⟨g1, 2, none⟩ = some (.int .i64 rt.e)) (first | exact ⟨r4, c2⟩ | exact ⟨s4, c4⟩ | exact ⟨by rw [row_drew]; assumption, by assumption⟩) (fail)
    all_goals
      go_wp2_with fail
      exact bodyPost_ret (v := .tuple #[.agg Par.zero.cells, .int .i64 0, .int .i64 rt.e]) (results_cell_two Try.results28 _ _ w.heap.size _ _ (0, 0) _ rfl HT9.out rpar_under rfl rpar_info) rfl (HPost.out _ _ (by rw [X1.out, X2.out, D1h.out]; rfl) (by first | exact Below.setRow B3.out (Nat.le_refl _) _ | exact (Below.setRow B3.out (Nat.le_refl _) _).drew | exact (Below.setRow B3.out.drew (Nat.le_refl _) _)))
end Go.Proofs.Ytecdfphfgaeodaa

namespace Go.Proofs.Ytecdfphfgaeodaa
open Go.RowKit
set_option linter.unusedVariables false

/-! ### A byte more ahead -/
def Rd.sh (a : Nat) (t : Rd) : Rd := ⟨a :: t.xs, t.at_ + 1, t.e⟩
theorem scan_sh (a : Nat) (t : Rd) : (t.sh a).scan = t.scan := by unfold Rd.scan Rd.sh; rw [List.drop_succ_cons]
theorem num_sh (a : Nat) (t : Rd) (m : Nat) : (t.sh a).num m = ((t.num m).1, (t.num m).2.sh a) := by
  unfold Rd.num
  rw [scan_sh]
  by_cases h0 : t.e = 0
  · rw [if_pos h0, if_pos (show (t.sh a).e = 0 from h0)]
    split
    · split
      · rfl
      · show (t.scan.1, (⟨a :: t.xs, t.at_ + 1 + t.scan.2.1, 0⟩ : Rd)) = (t.scan.1, ⟨a :: t.xs, t.at_ + t.scan.2.1 + 1, 0⟩)
        rw [Nat.add_right_comm]
    · rfl
  · rw [if_neg h0, if_neg (show ¬ (t.sh a).e = 0 from h0)]
theorem rdW_sh (a : Nat) (t : Rd) : ∀ i, rdW (t.sh a) i = ((rdW t i).1, (rdW t i).2.sh a)
  | 0 => rfl
  | i + 1 => by rw [rdW, rdW, rdW_sh a t i]; simp only [num_sh]
theorem rdI_sh (a : Nat) (t : Rd) : ∀ i, rdI (t.sh a) i = ((rdI t i).1, (rdI t i).2.sh a)
  | 0 => rfl
  | i + 1 => by rw [rdI, rdI, rdI_sh a t i]; simp only [num_sh]
theorem readT_sh (a : Nat) (t : Rd) : readT (t.sh a) = (readT t).sh a := by unfold readT; rw [rdW_sh]; simp only [rdI_sh]
theorem readP_sh (a : Nat) (t : Rd) : readP (t.sh a) = readP t := by unfold readP; rw [rdW_sh]; simp only [rdI_sh]
theorem readE_sh (a : Nat) (t : Rd) : readE (t.sh a) = readE t := by unfold readE; rw [readT_sh, readP_sh]; rfl
theorem readQ_sh (a : Nat) (t : Rd) : readQ (t.sh a) = readQ t := by unfold readQ; rw [readE_sh, readP_sh]
/-! ### Written, and read -/
theorem num_at {t : Rd} {m M : Nat} {r : List Nat} (he : t.e = 0) (hm : m < 18446744073709551616) (hM : m ≤ M) (hd : t.xs.drop t.at_ = formN m ++ r) : t.num M = (m, ⟨t.xs, t.at_ + (formN m).length, 0⟩) :=
  num_there (L := (formN m ++ r).length) he hm hM (by rw [hd, List.take_length]) (by rw [List.length_append]; omega)
theorem seven_num (xs : List Nat) : (⟨7 :: xs, 0, 0⟩ : Rd).num 7 = (7, Rd.sh 7 ⟨xs, 0, 0⟩) := by
  have h : formN 7 = [7] := formN_low (by omega)
  rw [num_at (m := 7) (r := xs) rfl (by omega) (Nat.le_refl _) (by rw [h]; rfl), h]; rfl
def rdK (M : Nat) (t : Rd) : Nat → List Nat × Rd
  | 0 => ([], t)
  | i + 1 => ((rdK M t i).1 ++ [((rdK M t i).2.num M).1], ((rdK M t i).2.num M).2)
theorem rdW_K (t : Rd) : ∀ i, rdW t i = rdK 18446744073709551615 t i
  | 0 => rfl
  | i + 1 => by rw [rdW, rdK, rdW_K t i]
theorem rdI_K (t : Rd) : ∀ i, rdI t i = rdK 2147483647 t i
  | 0 => rfl
  | i + 1 => by rw [rdI, rdK, rdI_K t i]
theorem rdK_there {M : Nat} {t : Rd} {l r : List Nat} (hl : ∀ n ∈ l, n < 18446744073709551616 ∧ n ≤ M) (he : t.e = 0) (hd : t.xs.drop t.at_ = l.flatMap formN ++ r) : ∀ i, i ≤ l.length → rdK M t i = (l.take i, ⟨t.xs, t.at_ + ((l.take i).flatMap formN).length, 0⟩)
  | 0, _ => by cases t; simp at he; subst he; rfl
  | i + 1, hi => by
    have hx : l.drop i = l[i]'(by omega) :: l.drop (i + 1) := List.drop_eq_getElem_cons (by omega)
    obtain ⟨h1, h2⟩ := hl (l[i]'(by omega)) (List.getElem_mem _)
    have hd2 : t.xs.drop (t.at_ + ((l.take i).flatMap formN).length) = formN (l[i]'(by omega)) ++ ((l.drop (i + 1)).flatMap formN ++ r) := by
      have h3 : l.flatMap formN = (l.take i).flatMap formN ++ (formN (l[i]'(by omega)) ++ (l.drop (i + 1)).flatMap formN) := by
        conv => lhs; rw [← List.take_append_drop i l]
        rw [List.flatMap_append, hx, List.flatMap_cons]
      rw [← List.drop_drop, hd, h3, List.append_assoc, List.drop_left, List.append_assoc]
    rw [rdK, rdK_there hl he hd i (by omega)]
    simp only []
    rw [num_at (t := ⟨t.xs, t.at_ + ((l.take i).flatMap formN).length, 0⟩) rfl h1 h2 hd2, List.take_succ_eq_append_getElem (by omega), List.flatMap_append, List.length_append]
    simp [Nat.add_assoc]
theorem getD_all (a : List Nat) : (List.range a.length).map (fun i => a.getD i 0) = a := by
  apply List.ext_getElem
  · simp
  · intro i h1 h2
    simp [h2]
theorem wideL_of {a : List Nat} (h : a.length = 14) (b : List Nat) : wideL (parOf a b) = a := by
  have h1 : wideL (parOf a b) = (List.range 14).map (fun i => a.getD i 0) := rfl
  rw [h1, ← h, getD_all]
theorem narrL_of (a : List Nat) {b : List Nat} (h : b.length = 10) : narrL (parOf a b) = b.map fun n : Nat => (n : Int) := by
  have h1 : narrL (parOf a b) = ((List.range 10).map (fun i => b.getD i 0)).map fun n : Nat => (n : Int) := rfl
  rw [h1, ← h, getD_all]
theorem parOf_of {P : Par} (h : Fits7 P) : parOf (wideL P) ((narrL P).map Int.toNat) = P := by
  have hn := h.narr
  cases P
  simp only [narrL, List.mem_cons, List.not_mem_nil, or_false, forall_eq_or_imp, forall_eq] at hn
  simp only [parOf, wideL, narrL, List.map_cons, List.map_nil, List.getD_cons_zero, List.getD_cons_succ, Par.mk.injEq, true_and]
  omega
theorem formP_nat {P : Par} : formP P = (wideL P).flatMap formN ++ ((narrL P).map Int.toNat).flatMap formN := by
  unfold formP
  rw [List.flatMap_map]
theorem read_there {P : Par} {r : List Nat} (h : Fits7 P) : readP ⟨formP P ++ r, 0, 0⟩ = P ∧ readT ⟨formP P ++ r, 0, 0⟩ = ⟨formP P ++ r, (formP P).length, 0⟩ := by
  have e1 := rdK_there (M := 18446744073709551615) (t := ⟨formP P ++ r, 0, 0⟩) (l := wideL P) (r := ((narrL P).map Int.toNat).flatMap formN ++ r) (fun n hn => ⟨h.wide n hn, by have := h.wide n hn; omega⟩) rfl (by rw [formP_nat, List.append_assoc]; rfl) 14 (Nat.le_of_eq (wideL_len P).symm)
  rw [List.take_of_length_le (Nat.le_of_eq (wideL_len P)), ← rdW_K] at e1
  have e2 := rdK_there (M := 2147483647) (t := ⟨formP P ++ r, 0 + ((wideL P).flatMap formN).length, 0⟩) (l := (narrL P).map Int.toNat) (r := r) (fun n hn => by
    obtain ⟨x, hx, rfl⟩ := List.mem_map.1 hn
    have := h.narr x hx
    omega) rfl (by show (formP P ++ r).drop _ = _; rw [formP_nat, List.append_assoc, Nat.zero_add, List.drop_left]) 10 (Nat.le_of_eq (by rw [List.length_map, narrL_len]))
  rw [List.take_of_length_le (Nat.le_of_eq (by rw [List.length_map, narrL_len])), ← rdI_K] at e2
  constructor
  · unfold readP
    rw [e1]
    simp only []
    rw [e2]
    exact parOf_of h
  · unfold readT
    rw [e1]
    simp only []
    rw [e2]
    simp only [Rd.mk.injEq, true_and, and_true]
    rw [formP_nat, List.length_append, Nat.zero_add]
theorem num_back {s : Rd} {M : Nat} (hok : bytesOk s.xs) (h : (s.num M).2.e = 0) : s.e = 0 ∧ ∃ j, (s.num M).2 = ⟨s.xs, s.at_ + j, 0⟩ ∧ formN (s.num M).1 = (s.xs.drop s.at_).take j ∧ s.at_ + j ≤ s.xs.length := by
  by_cases h0 : s.e = 0
  · refine ⟨h0, ?_⟩
    by_cases h3 : s.scan.2.2 = 0
    · by_cases h4 : M < s.scan.1
      · rw [Rd.num_more h0 h3 h4] at h; simp at h
      · rw [Rd.num_good h0 h3 (by omega)]
        obtain ⟨m, j, h5, h6, h7, h8, h9, _⟩ := scanL_back (s.xs.drop s.at_) 0 0 s.scan.1 s.scan.2.1 (fun x hx => hok.mem x (List.mem_of_mem_drop hx)) (by
          show s.scan = _
          rw [← h3])
        rw [Nat.zero_add] at h5
        rw [Nat.zero_add, Nat.pow_zero, Nat.mul_one] at h9
        refine ⟨j, by simp only []; rw [h5], by simp only []; rw [h9]; exact h8, ?_⟩
        rw [List.length_drop] at h7
        omega
    · rw [Rd.num_fail h0 h3] at h; exact absurd h h3
  · rw [Rd.num_bad h0] at h; exact absurd h h0
theorem rdK_back {M : Nat} {t : Rd} (hok : bytesOk t.xs) : ∀ i, (rdK M t i).2.e = 0 → t.e = 0 ∧ ∃ k, (rdK M t i).2 = ⟨t.xs, t.at_ + k, 0⟩ ∧ (rdK M t i).1.flatMap formN = (t.xs.drop t.at_).take k ∧ (0 < i → t.at_ + k ≤ t.xs.length)
  | 0, h => ⟨h, 0, by
      have h' : t.e = 0 := h
      show t = ⟨t.xs, t.at_, 0⟩
      rw [← h'], by simp [rdK], fun h => by omega⟩
  | i + 1, h => by
    have hx : ∀ i, (rdK M t i).2.xs = t.xs := fun i => by
      induction i with
      | zero => rfl
      | succ i ih => rw [rdK]; exact ((rdK M t i).2.num_xs M).trans ih
    have h' : ((rdK M t i).2.num M).2.e = 0 := h
    obtain ⟨g1, j, g2, g3, g4⟩ := num_back (by rw [hx]; exact hok) h'
    obtain ⟨f1, k, f2, f3, f4⟩ := rdK_back hok i g1
    rw [f2] at g2 g3 g4
    refine ⟨f1, k + j, ?_, ?_, fun _ => by have : t.at_ + k + j ≤ t.xs.length := g4; omega⟩
    · rw [rdK, f2]
      show (Rd.num ⟨t.xs, t.at_ + k, 0⟩ M).2 = _
      rw [g2]
      simp [Nat.add_assoc]
    · rw [rdK, f2]
      show ((rdK M t i).1 ++ [(Rd.num ⟨t.xs, t.at_ + k, 0⟩ M).1]).flatMap formN = _
      rw [List.flatMap_append, f3, List.flatMap_cons, List.flatMap_nil, List.append_nil, g3, List.take_add, List.drop_drop]
theorem read_back {t : Rd} (hok : bytesOk t.xs) (ha : t.at_ = 0) (h : (readT t).e = 0) : formP (readP t) = t.xs.take (readT t).at_ := by
  unfold readT at h ⊢
  rw [rdI_K] at h ⊢
  have hx := rdW_K t 14
  have hxs : (rdW t 14).2.xs = t.xs := by
    have : ∀ i, (rdW t i).2.xs = t.xs := fun i => by
      induction i with
      | zero => rfl
      | succ i ih => rw [rdW]; exact ((rdW t i).2.num_xs _).trans ih
    exact this 14
  obtain ⟨a1, k1, a2, a3, a4⟩ := rdK_back (by rw [hxs]; exact hok) 10 h
  rw [hx] at a1
  obtain ⟨b1, k2, b2, b3, b4⟩ := rdK_back hok 14 a1
  rw [← hx] at b2 b3
  unfold readP
  rw [a2, formP_nat, wideL_of (rdW_len t 14), narrL_of _ (rdI_len _ 10), List.map_map]
  have e : (Int.toNat ∘ fun n : Nat => (n : Int)) = id := by funext n; simp
  rw [e, List.map_id, b3, rdI_K, a3, b2]
  show _ = t.xs.take (t.at_ + k2 + k1)
  rw [ha, Nat.zero_add, List.drop_zero, List.take_add]
end Go.Proofs.Ytecdfphfgaeodaa

namespace Go.Proofs.Ytecdfphfgaeodaa
open Go.RowKit
set_option linter.unusedVariables false

/-- The fields of a struct of whole numbers are held against each other one by one. -/
theorem eqFields_step {P : Program} {w : World} {d : Nat} {xs ys : Array Value} {f : Field} {fs : List Field} {k : IntKind} {a b : Int} (hn : f.name ≠ "_") (hu : P.underlying f.type = some (.int k))
    (hx : (part f.type xs f.offset).run P w = .ok (.int k a) w) (hy : (part f.type ys f.offset).run P w = .ok (.int k b) w) {r : Bool} (h : (Op.eqFields (d + 1) xs ys fs).run P w = .ok r w) :
    (Op.eqFields (d + 1) xs ys (f :: fs)).run P w = .ok (decide (a = b) && r) w := by
  have e1 := run_equalIn_int (P := P) w d f.type k k a b hu
  simp only [Op.eqFields, if_pos hn, Sem.run_bind, hx, hy, Result.andThen_ok, e1, Sem.run_ite]
  by_cases hab : a = b
  · subst hab; simp [h]
  · have : (a == b) = false := beq_eq_false_iff_ne.2 hab
    simp [this, hab]
theorem eqFields_nil {P : Program} {w : World} {d : Nat} {xs ys : Array Value} : (Op.eqFields d xs ys []).run P w = .ok true w := rfl
deriving instance DecidableEq for Par
def parEq (p q : Par) : Bool := decide (p = q)
theorem parEq_self (p : Par) : parEq p p = true := decide_eq_true rfl
def parEqL (p q : Par) : Bool := (decide ((p.inc : Int) = q.inc) && (decide ((p.maxEff : Int) = q.maxEff) && (decide ((p.floor : Int) = q.floor) && (decide ((p.cap : Int) = q.cap) && (decide ((p.up : Int) = q.up) && (decide ((p.down : Int) = q.down) && (decide ((p.bias : Int) = q.bias) && (decide ((p.quot : Int) = q.quot) && (decide ((p.biasEm : Int) = q.biasEm) && (decide ((p.quotEm : Int) = q.quotEm) && (decide ((p.recover : Int) = q.recover) && (decide ((p.scoreCap : Int) = q.scoreCap) && (decide ((p.rate : Int) = q.rate) && (decide ((p.bond : Int) = q.bond) && (decide (p.delay = q.delay) && (decide (p.streak = q.streak) && (decide (p.boost = q.boost) && (decide (p.absent = q.absent) && (decide (p.burn = q.burn) && (decide (p.churn = q.churn) && (decide (p.wait = q.wait) && (decide (p.poll = q.poll) && (decide (p.enact = q.enact) && (decide (p.quorum = q.quorum) && true))))))))))))))))))))))))
theorem parEq_iff (p q : Par) : parEqL p q = parEq p q := by
  cases p; cases q
  simp only [parEq, parEqL, Par.mk.injEq, Int.natCast_inj, Bool.and_true, Bool.decide_and]
attribute [go_sem] parEq_self
theorem par_noguard : Try.prog.eqGuardType Try.prog.depth 24 = false := by kernel_rfl
theorem par_unheld : Try.prog.stoodInHeld 24 = false := by kernel_rfl
set_option maxRecDepth 100000 in
theorem par_eqFields (p q : Par) (w : World) : (Op.eqFields 9999 p.cells q.cells (Try.prog.fieldsOf 24).toList).run Try.prog w = .ok (parEq p q) w := by
  rw [← parEq_iff]
  simp only [Program.fieldsOf, Try.underlying24]
  unfold parEqL
  repeat (refine eqFields_step (by decide) (by kernel_rfl) rfl rfl ?_)
  exact eqFields_nil
theorem run_eql_par (p q : Par) (w : World) : (binOp .eql 24 (.agg p.cells) (.agg q.cells)).run Try.prog w = .ok (.bool (parEq p q)) w := by
  rw [run_eql_struct, run_equalIn_struct w _ _ _ _ par_under par_unheld, par_eqFields]; rfl
theorem run_neq_par (p q : Par) (w : World) : (binOp .neq 24 (.agg p.cells) (.agg q.cells)).run Try.prog w = .ok (.bool (!parEq p q)) w := by
  rw [run_neq_struct, run_equalIn_struct w _ _ _ _ par_under par_unheld, par_eqFields]; rfl
attribute [go_sem ↓] run_eql_par run_neq_par
attribute [go_sem] par_noguard
theorem rpar_noguard : Try.prog.eqGuardType Try.prog.depth 30 = false := by kernel_rfl
theorem rpar_unheld : Try.prog.stoodInHeld 30 = false := by kernel_rfl
set_option maxRecDepth 100000 in
theorem rpar_eqFields (p q : Par) (w : World) : (Op.eqFields 9999 p.cells q.cells (Try.prog.fieldsOf 30).toList).run Try.prog w = .ok (parEq p q) w := by
  rw [← parEq_iff]
  simp only [Program.fieldsOf, Try.underlying30]
  unfold parEqL
  repeat (refine eqFields_step (by decide) (by kernel_rfl) rfl rfl ?_)
  exact eqFields_nil
theorem run_eql_rpar (p q : Par) (w : World) : (binOp .eql 30 (.agg p.cells) (.agg q.cells)).run Try.prog w = .ok (.bool (parEq p q)) w := by
  rw [run_eql_struct, run_equalIn_struct w _ _ _ _ rpar_under rpar_unheld, rpar_eqFields]; rfl
theorem run_neq_rpar (p q : Par) (w : World) : (binOp .neq 30 (.agg p.cells) (.agg q.cells)).run Try.prog w = .ok (.bool (!parEq p q)) w := by
  rw [run_neq_struct, run_equalIn_struct w _ _ _ _ rpar_under rpar_unheld, rpar_eqFields]; rfl
attribute [go_sem ↓] run_eql_rpar run_neq_rpar
attribute [go_sem] rpar_noguard
end Go.Proofs.Ytecdfphfgaeodaa

/-
  Reports and spans that came in.
-/
import Derived.Test.YtnakkjgnjffkpaaRep
import Derived.Test.YtnakkjgnjffkpaaOpenB
namespace Go.Proofs.Ytnakkjgnjffkpaa
open Go.ChangeShapes Go.WideShapes Go.ChangeAt Go.RowKit Go.Deep
set_option linter.unusedVariables false

section
variable {H : Type} {enc : TypeId × Value → H} {W : World} {spare : Nat → Bool} {held : Bool}
theorem ints_under0 : Try.prog.underlying 34 = some (.slice 3) := by kernel_rfl
theorem cells_ints : Try.prog.cellsOf 34 = 1 := by kernel_rfl
theorem open_ints_cs {cs : List Value} {fuel : Nat} {x : DataW H × List MemPlace} (h : DataW.trod enc Try.prog W 0 spare held fuel 34 cs = some x) : ∃ A c xs, cs = [.slice A xs.length c] ∧ SliceOf 1 intK W A xs ∧ (A = none → c = 0) ∧ xs.length ≤ 9223372036854775807 := by
  rcases open_ints ints_under0 under_i64 cells_i64 h with ⟨hcs, _⟩ | ⟨x, l, c', zs, hcs, _, hl, hm, hz, _, hcell, hwz⟩
  · exact ⟨none, 0, [], by rw [hcs]; rfl, (fun h => by simp at h), fun _ => rfl, by simp⟩
  · unfold maxLen at hm
    have hzl : l ≤ zs.length := by rw [hz]; split <;> omega
    have hlen : (zs.take l).length = l := by simp; omega
    refine ⟨some x, c', zs.take l, by rw [hcs, hlen], (fun hp => ?_), (fun e => by cases e), by rw [hlen]; omega⟩
    rw [hlen] at hp
    obtain ⟨b, off, rfl, hb⟩ := addr_plain' (hcell 0 (by omega))
    refine ⟨b, off, rfl, hb, fun i z hi j v hv => ?_⟩
    have hil : i < l := by have := (List.getElem?_eq_some_iff.1 hi).1; omega
    have h1 := hcell i (by omega)
    rw [add_plain'] at h1
    rw [List.getElem?_take_of_lt hil] at hi
    have hgd : zs.getD i 0 = z := by rw [List.getD_eq_getElem?_getD, hi]; rfl
    rw [hgd] at h1
    match j, hv with
    | 0, hv => cases hv; rw [show off + i * 1 + 0 = off + i by omega]; exact h1
    | j + 1, hv => simp [intK] at hv
theorem at_ints {cs : List Value} {off : Nat} (h : ∃ y n, DataW.trod enc Try.prog W 0 spare held n 34 ((cs.drop off).take (Try.prog.cellsOf 34)) = some y) :
    ∃ A c xs, cs[off]? = some (.slice A xs.length c) ∧ SliceOf 1 intK W A xs ∧ (A = none → c = 0) ∧ xs.length ≤ 9223372036854775807 := by
  obtain ⟨y, n, h⟩ := h
  obtain ⟨A, c, xs, hcs, hB⟩ := open_ints_cs h
  rw [cells_ints] at hcs
  exact ⟨A, c, xs, take_one hcs, hB⟩
/-- A report as it came in. -/
structure RepIn (W : World) (x : Rep × RepA) : Prop where
  ok : x.1.Ok
  at_ : RepAt W x
theorem RepIn.below {W W' : World} {x : Rep × RepA} {B : Nat} (h : RepIn W x) (hb : Below B W W') (hB : W.heap.size ≤ B) : RepIn W' x := ⟨h.ok, h.at_.below hb hB⟩
theorem rep_under0 : Try.prog.underlying 36 = some (.struct (Try.prog.fieldsOf 36)) := by kernel_rfl
set_option maxRecDepth 100000 in
theorem open_rep_cs {l : List Value} {fuel : Nat} {x : DataW H × List MemPlace} (hx : DataW.trod enc Try.prog W 0 spare held fuel 36 l = some x) : ∃ o : Rep × RepA, l = (repC o).toList ∧ RepIn W o := by
  obtain ⟨hlen, hF⟩ := flat_cells rep_under0 hx
  have hlen' : l.length = 14 := hlen.trans (by kernel_rfl)
  obtain ⟨a0, e0, o0⟩ := at_i64 under_i64 cells_i64 (hF 0 3 0 (by kernel_rfl))
  obtain ⟨a1, e1, o1⟩ := at_i64 under_i64 cells_i64 (hF 1 3 1 (by kernel_rfl))
  obtain ⟨a2, e2⟩ := at_bool under_bool (by kernel_rfl) (hF 2 4 2 (by kernel_rfl))
  obtain ⟨a3, e3, o3⟩ := at_u64 under_u64 cells_u64 (hF 3 33 3 (by kernel_rfl))
  obtain ⟨a4, e4, o4⟩ := at_u64 under_u64 cells_u64 (hF 4 33 4 (by kernel_rfl))
  obtain ⟨a5, e5, o5⟩ := at_u64 under_u64 cells_u64 (hF 5 33 5 (by kernel_rfl))
  obtain ⟨a6, e6, o6⟩ := at_u64 under_u64 cells_u64 (hF 6 33 6 (by kernel_rfl))
  obtain ⟨a7, e7, o7⟩ := at_u64 under_u64 cells_u64 (hF 7 33 7 (by kernel_rfl))
  obtain ⟨a8, e8, o8⟩ := at_u64 under_u64 cells_u64 (hF 8 33 8 (by kernel_rfl))
  obtain ⟨a9, e9, o9⟩ := at_u64 under_u64 cells_u64 (hF 9 33 9 (by kernel_rfl))
  obtain ⟨A10, c10, x10, e10, s10, z10, o10⟩ := at_ints (hF 10 34 10 (by kernel_rfl))
  obtain ⟨A11, c11, x11, e11, s11, z11, o11⟩ := at_ints (hF 11 34 11 (by kernel_rfl))
  obtain ⟨A12, c12, x12, e12, s12, z12, o12⟩ := at_ints (hF 12 34 12 (by kernel_rfl))
  obtain ⟨A13, c13, x13, e13, s13, z13, o13⟩ := at_ints (hF 13 34 13 (by kernel_rfl))
  refine ⟨(⟨a0, a1, a2, a3, a4, a5, a6, a7, a8, a9, x10, x11, x12, x13⟩, ⟨A10, c10, A11, c11, A12, c12, A13, c13⟩), list_ext 14 hlen' rfl (fun i hi => ?_), ⟨o0, o1, o3, o4, o5, o6, o7, o8, o9, o10, o11, o12, o13⟩, ⟨s10, s11, s12, s13, z10, z11, z12, z13⟩⟩
  match i with
  | 0 => exact e0
  | 1 => exact e1
  | 2 => exact e2
  | 3 => exact e3
  | 4 => exact e4
  | 5 => exact e5
  | 6 => exact e6
  | 7 => exact e7
  | 8 => exact e8
  | 9 => exact e9
  | 10 => exact e10
  | 11 => exact e11
  | 12 => exact e12
  | 13 => exact e13
  | n + 14 => omega
set_option maxRecDepth 100000 in
theorem open_rep {r : Reach} {b0 : Nat} {v : Value} {d : DataW H} {p : List MemPlace}
    (hv : Value.okWide Try.prog W r b0 36 v) (h : DataW.Trod enc Try.prog W 0 spare held 36 v d p) : ∃ r a, v = .agg (repC (r, a)) ∧ RepIn W (r, a) := by
  obtain ⟨⟨l⟩, rfl, _⟩ := okWide_struct rep_under0 hv
  obtain ⟨fuel, hf⟩ := h
  obtain ⟨⟨r, a⟩, rfl, ho⟩ := open_rep_cs hf
  exact ⟨r, a, rfl, ho⟩
theorem reps_under0 : Try.prog.underlying 22 = some (.slice 36) := by kernel_rfl
set_option maxRecDepth 100000 in
theorem open_reps {r : Reach} {b0 : Nat} {v : Value} {d : DataW H} {p : List MemPlace}
    (hv : Value.okWide Try.prog W r b0 22 v) (h : DataW.Trod enc Try.prog W 0 spare held 22 v d p) :
    ∃ A n c xs, v = .slice A n c ∧ xs.length = n ∧ (∀ x ∈ xs, RepIn W x) ∧ n ≤ 9223372036854775807 ∧ SliceOf 14 repC W A xs :=
  open_slice_of 14 repC (RepIn W) reps_under0 (by kernel_rfl) (by omega) (fun l fuel x hx => open_rep_cs hx) hv h
def spnC (x : Int × Int) : Array Value := #[.int .i64 x.1, .int .i64 x.2]
theorem spn_under0 : Try.prog.underlying 43 = some (.struct (Try.prog.fieldsOf 43)) := by kernel_rfl
set_option maxRecDepth 100000 in
theorem open_spn_cs {l : List Value} {fuel : Nat} {x : DataW H × List MemPlace} (hx : DataW.trod enc Try.prog W 0 spare held fuel 43 l = some x) : ∃ o : Int × Int, l = (spnC o).toList ∧ i64ok o.1 ∧ i64ok o.2 := by
  obtain ⟨hlen, hF⟩ := flat_cells spn_under0 hx
  have hlen' : l.length = 2 := hlen.trans (by kernel_rfl)
  obtain ⟨a0, e0, o0⟩ := at_i64 under_i64 cells_i64 (hF 0 3 0 (by kernel_rfl))
  obtain ⟨a1, e1, o1⟩ := at_i64 under_i64 cells_i64 (hF 1 3 1 (by kernel_rfl))
  refine ⟨(a0, a1), list_ext 2 hlen' rfl (fun i hi => ?_), o0, o1⟩
  match i with
  | 0 => exact e0
  | 1 => exact e1
  | n + 2 => omega
set_option maxRecDepth 100000 in
theorem open_spn {r : Reach} {b0 : Nat} {v : Value} {d : DataW H} {p : List MemPlace}
    (hv : Value.okWide Try.prog W r b0 43 v) (h : DataW.Trod enc Try.prog W 0 spare held 43 v d p) : ∃ a b, v = .agg (spnC (a, b)) ∧ i64ok a ∧ i64ok b := by
  obtain ⟨⟨l⟩, rfl, _⟩ := okWide_struct spn_under0 hv
  obtain ⟨fuel, hf⟩ := h
  obtain ⟨⟨a, b⟩, rfl, ho⟩ := open_spn_cs hf
  exact ⟨a, b, rfl, ho⟩
theorem spns_under0 : Try.prog.underlying 23 = some (.slice 43) := by kernel_rfl
set_option maxRecDepth 100000 in
theorem open_spns {r : Reach} {b0 : Nat} {v : Value} {d : DataW H} {p : List MemPlace}
    (hv : Value.okWide Try.prog W r b0 23 v) (h : DataW.Trod enc Try.prog W 0 spare held 23 v d p) :
    ∃ A n c xs, v = .slice A n c ∧ xs.length = n ∧ (∀ x ∈ xs, i64ok x.1 ∧ i64ok x.2) ∧ n ≤ 9223372036854775807 ∧ SliceOf 2 spnC W A xs :=
  open_slice_of 2 spnC (fun x => i64ok x.1 ∧ i64ok x.2) spns_under0 (by kernel_rfl) (by omega) (fun l fuel x hx => open_spn_cs hx) hv h
end
end Go.Proofs.Ytnakkjgnjffkpaa

/-
  A member that came in, and a list of members.
-/
import Derived.Test.YtnakkjgnjffkpaaMb
import Derived.Test.YtnakkjgnjffkpaaOpenSt
import Derived.Test.YtnakkjgnjffkpaaSlices
namespace Go.Proofs.Ytnakkjgnjffkpaa
open Go.ChangeShapes Go.WideShapes Go.ChangeAt Go.RowKit Go.Deep
set_option linter.unusedVariables false

theorem in_take {cs : List Value} {n k : Nat} {v : Value} (hk : k < n) (h : ((cs.drop 0).take n)[k]? = some v) : cs[k]? = some v := by
  rw [List.drop_zero, List.getElem?_take_of_lt hk] at h
  exact h
set_option maxRecDepth 100000 in
theorem mb_of {H : Type} {enc : TypeId × Value → H} {W : World} {base : Nat} {spare : Nat → Bool} {held : Bool} {cs : List Value} {fuel : Nat} {x : DataW H × List MemPlace}
    (hx : DataW.trod enc Try.prog W base spare held fuel 197 cs = some x) : ∃ m : Mb, cs = m.cells.toList ∧ m.Ok := by
  obtain ⟨hlen, hF⟩ := flat_cells mb_under hx
  have hlen' : cs.length = 6 := hlen.trans (by kernel_rfl)
  obtain ⟨y, n, hs⟩ := hF 0 195 0 (by kernel_rfl)
  obtain ⟨_, hG⟩ := flat_cells st_under hs
  have h4 : Try.prog.cellsOf 195 = 4 := by kernel_rfl
  rw [h4] at hG
  obtain ⟨a0, e0, o0⟩ := at_u64 under_u64 cells_u64 (hG 0 33 0 (by kernel_rfl))
  obtain ⟨a1, e1, o1⟩ := at_u64 under_u64 cells_u64 (hG 1 33 1 (by kernel_rfl))
  obtain ⟨a2, e2, o2⟩ := at_u64 under_u64 cells_u64 (hG 2 33 2 (by kernel_rfl))
  obtain ⟨a3, e3, o3⟩ := at_i64 under_i64 cells_i64 (hG 3 3 3 (by kernel_rfl))
  obtain ⟨a4, e4, o4⟩ := at_i64 under_i64 cells_i64 (hF 1 3 4 (by kernel_rfl))
  obtain ⟨a5, e5, o5⟩ := at_i64 under_i64 cells_i64 (hF 2 3 5 (by kernel_rfl))
  refine ⟨⟨⟨a0, a1, a2, a3⟩, a4, a5⟩, list_ext 6 hlen' rfl (fun i hi => ?_), ⟨⟨o0, o1, o2, o3⟩, o4, o5⟩⟩
  match i with
  | 0 => exact in_take (by omega) e0
  | 1 => exact in_take (by omega) e1
  | 2 => exact in_take (by omega) e2
  | 3 => exact in_take (by omega) e3
  | 4 => exact e4
  | 5 => exact e5
  | n + 6 => omega
set_option maxRecDepth 100000 in
theorem open_mb {H : Type} {enc : TypeId × Value → H} {W : World} {base : Nat} {spare : Nat → Bool} {held : Bool} {r : Reach} {b0 : Nat} {v : Value} {d : DataW H} {p : List MemPlace}
    (hv : Value.okWide Try.prog W r b0 197 v) (h : DataW.Trod enc Try.prog W base spare held 197 v d p) : ∃ m : Mb, v = .agg m.cells ∧ m.Ok := by
  obtain ⟨⟨l⟩, rfl, _⟩ := okWide_struct mb_under hv
  obtain ⟨fuel, hf⟩ := h
  obtain ⟨m, hl, ho⟩ := mb_of hf
  have hl' : l = m.cells.toList := hl
  subst hl'
  exact ⟨m, rfl, ho⟩
set_option maxRecDepth 100000 in
theorem mbs_under : Try.prog.underlying 109 = some (.slice 197) := by kernel_rfl
set_option maxRecDepth 100000 in
theorem open_mbs {H : Type} {enc : TypeId × Value → H} {W : World} {spare : Nat → Bool} {held : Bool} {r : Reach} {b0 : Nat} {v : Value} {d : DataW H} {p : List MemPlace}
    (hv : Value.okWide Try.prog W r b0 109 v) (h : DataW.Trod enc Try.prog W 0 spare held 109 v d p) :
    ∃ A n c xs, v = .slice A n c ∧ xs.length = n ∧ (∀ x ∈ xs, x.Ok) ∧ n ≤ 9223372036854775807 ∧ SliceOf 6 Mb.cells W A xs :=
  open_slice_of 6 Mb.cells Mb.Ok mbs_under (by kernel_rfl) (by omega) (fun l fuel x hx => mb_of hx) hv h
end Go.Proofs.Ytnakkjgnjffkpaa

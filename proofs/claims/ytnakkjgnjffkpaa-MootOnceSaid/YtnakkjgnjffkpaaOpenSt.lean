/-
  A standing that came in.
-/
import Derived.Test.YtnakkjgnjffkpaaSt
import Derived.Test.YtnakkjgnjffkpaaFrame
namespace Go.Proofs.Ytnakkjgnjffkpaa
open Go.ChangeShapes Go.WideShapes Go.ChangeAt Go.RowKit
set_option linter.unusedVariables false
set_option maxRecDepth 100000 in
theorem open_st {H : Type} {enc : TypeId × Value → H} {W : World} {base : Nat} {spare : Nat → Bool} {held : Bool} {r : Reach} {b0 : Nat} {v : Value} {d : DataW H} {p : List MemPlace}
    (hv : Value.okWide Try.prog W r b0 195 v) (h : DataW.Trod enc Try.prog W base spare held 195 v d p) : ∃ s : St, v = .agg s.cells ∧ s.Ok := by
  obtain ⟨⟨l⟩, rfl, _⟩ := okWide_struct st_under hv
  obtain ⟨fuel, hf⟩ := h
  obtain ⟨hlen, hF⟩ := flat_cells st_under hf
  have hlen' : l.length = 4 := hlen.trans (by kernel_rfl)
  obtain ⟨a0, e0, o0⟩ := at_u64 under_u64 cells_u64 (hF 0 33 0 (by kernel_rfl))
  obtain ⟨a1, e1, o1⟩ := at_u64 under_u64 cells_u64 (hF 1 33 1 (by kernel_rfl))
  obtain ⟨a2, e2, o2⟩ := at_u64 under_u64 cells_u64 (hF 2 33 2 (by kernel_rfl))
  obtain ⟨a3, e3, o3⟩ := at_i64 under_i64 cells_i64 (hF 3 3 3 (by kernel_rfl))
  have hl : l = [.int .u64 a0, .int .u64 a1, .int .u64 a2, .int .i64 a3] := list_ext 4 hlen' rfl (fun i hi => by
    match i with
    | 0 => exact e0
    | 1 => exact e1
    | 2 => exact e2
    | 3 => exact e3
    | n + 4 => omega)
  subst hl
  exact ⟨⟨a0, a1, a2, a3⟩, rfl, ⟨o0, o1, o2, o3⟩⟩

end Go.Proofs.Ytnakkjgnjffkpaa

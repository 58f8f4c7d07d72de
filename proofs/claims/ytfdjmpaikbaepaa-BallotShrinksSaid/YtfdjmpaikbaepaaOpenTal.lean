/-
  A tally that came in.
-/
import Derived.Test.YtfdjmpaikbaepaaOpenMb
import Derived.Test.YtfdjmpaikbaepaaOpenPar
import Derived.Test.YtfdjmpaikbaepaaBallot2
namespace Go.Proofs.Ytfdjmpaikbaepaa
open Go.ChangeShapes Go.WideShapes Go.ChangeAt Go.RowKit Go.Deep
set_option linter.unusedVariables false

set_option maxRecDepth 100000 in
theorem open_tally {H : Type} {enc : TypeId × Value → H} {W : World} {base : Nat} {spare : Nat → Bool} {held : Bool} {r : Reach} {b0 : Nat} {v : Value} {d : DataW H} {p : List MemPlace}
    (hv : Value.okWide Try.prog W r b0 68 v) (h : DataW.Trod enc Try.prog W base spare held 68 v d p) : ∃ b1 b2 b3 : Nat, v = .agg #[.int .u64 (b1 : Int), .int .u64 (b2 : Int), .int .u64 (b3 : Int)] ∧ b1 < 18446744073709551616 ∧ b2 < 18446744073709551616 ∧ b3 < 18446744073709551616 := by
  obtain ⟨⟨l⟩, rfl, _⟩ := okWide_struct tal_under hv
  obtain ⟨fuel, hf⟩ := h
  obtain ⟨hlen, hF⟩ := flat_cells tal_under hf
  have hlen' : l.length = 3 := hlen.trans (by kernel_rfl)
  obtain ⟨a0, e0, o0⟩ := at_u64 under_u64 cells_u64 (hF 0 22 0 (by kernel_rfl))
  obtain ⟨a1, e1, o1⟩ := at_u64 under_u64 cells_u64 (hF 1 22 1 (by kernel_rfl))
  obtain ⟨a2, e2, o2⟩ := at_u64 under_u64 cells_u64 (hF 2 22 2 (by kernel_rfl))
  have hl : l = [.int .u64 a0, .int .u64 a1, .int .u64 a2] := list_ext 3 hlen' rfl (fun i hi => by
    match i with
    | 0 => exact e0
    | 1 => exact e1
    | 2 => exact e2
    | n + 3 => omega)
  subst hl
  exact ⟨a0, a1, a2, rfl, o0, o1, o2⟩
end Go.Proofs.Ytfdjmpaikbaepaa

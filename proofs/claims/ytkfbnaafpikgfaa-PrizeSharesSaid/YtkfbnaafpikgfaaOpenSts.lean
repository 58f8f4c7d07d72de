/-
  A list of standings that came in.
-/
import Derived.Test.YtkfbnaafpikgfaaOpenSt
import Derived.Test.YtkfbnaafpikgfaaSlices
namespace Go.Proofs.Ytkfbnaafpikgfaa
open Go.ChangeShapes Go.WideShapes Go.ChangeAt Go.RowKit Go.Deep
set_option linter.unusedVariables false

theorem sts_under : Try.prog.underlying 42 = some (.slice 48) := by kernel_rfl
set_option maxRecDepth 100000 in
theorem open_sts {H : Type} {enc : TypeId × Value → H} {W : World} {spare : Nat → Bool} {held : Bool} {r : Reach} {b0 : Nat} {v : Value} {d : DataW H} {p : List MemPlace}
    (hv : Value.okWide Try.prog W r b0 42 v) (h : DataW.Trod enc Try.prog W 0 spare held 42 v d p) :
    ∃ A n c xs, v = .slice A n c ∧ xs.length = n ∧ (∀ x ∈ xs, x.Ok) ∧ n ≤ 9223372036854775807 ∧ SliceOf 4 St.cells W A xs :=
  open_slice_of 4 St.cells St.Ok sts_under (by kernel_rfl) (by omega) (fun l fuel x hx => by
    obtain ⟨hlen, hF⟩ := flat_cells st_under hx
    have hlen' : l.length = 4 := hlen.trans (by kernel_rfl)
    obtain ⟨a0, e0, o0⟩ := at_u64 under_u64 cells_u64 (hF 0 22 0 (by kernel_rfl))
    obtain ⟨a1, e1, o1⟩ := at_u64 under_u64 cells_u64 (hF 1 22 1 (by kernel_rfl))
    obtain ⟨a2, e2, o2⟩ := at_u64 under_u64 cells_u64 (hF 2 22 2 (by kernel_rfl))
    obtain ⟨a3, e3, o3⟩ := at_i64 under_i64 cells_i64 (hF 3 3 3 (by kernel_rfl))
    refine ⟨⟨a0, a1, a2, a3⟩, list_ext 4 hlen' rfl (fun i hi => ?_), ⟨o0, o1, o2, o3⟩⟩
    match i with
    | 0 => exact e0
    | 1 => exact e1
    | 2 => exact e2
    | 3 => exact e3
    | n + 4 => omega) hv h
end Go.Proofs.Ytkfbnaafpikgfaa

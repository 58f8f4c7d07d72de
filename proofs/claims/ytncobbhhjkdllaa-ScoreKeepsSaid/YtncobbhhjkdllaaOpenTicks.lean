/-
  A list of ticks that came in.
-/
import Derived.Test.YtncobbhhjkdllaaOpenSt
import Derived.Test.YtncobbhhjkdllaaSlices
namespace Go.Proofs.Ytncobbhhjkdllaa
open Go.ChangeShapes Go.WideShapes Go.ChangeAt Go.RowKit Go.Deep
set_option linter.unusedVariables false

def tickC (x : Bool × Int) : Array Value := #[.bool x.1, .int .i64 x.2]
theorem ticks_under : Try.prog.underlying 44 = some (.slice 47) := by kernel_rfl
set_option maxRecDepth 100000 in
theorem open_ticks {H : Type} {enc : TypeId × Value → H} {W : World} {spare : Nat → Bool} {held : Bool} {r : Reach} {b0 : Nat} {v : Value} {d : DataW H} {p : List MemPlace}
    (hv : Value.okWide Try.prog W r b0 44 v) (h : DataW.Trod enc Try.prog W 0 spare held 44 v d p) :
    ∃ A n c xs, v = .slice A n c ∧ xs.length = n ∧ (∀ x ∈ xs, i64ok x.2) ∧ n ≤ 9223372036854775807 ∧ SliceOf 2 tickC W A xs :=
  open_slice_of 2 tickC (fun x => i64ok x.2) ticks_under (by kernel_rfl) (by omega) (fun l fuel x hx => by
    obtain ⟨hlen, hF⟩ := flat_cells tick11_under hx
    have hlen' : l.length = 2 := hlen.trans (by kernel_rfl)
    obtain ⟨a0, e0⟩ := at_bool under_bool cells_bool (hF 0 4 0 (by kernel_rfl))
    obtain ⟨a1, e1, o1⟩ := at_i64 under_i64 cells_i64 (hF 1 3 1 (by kernel_rfl))
    refine ⟨(a0, a1), list_ext 2 hlen' rfl (fun i hi => ?_), o1⟩
    match i with
    | 0 => exact e0
    | 1 => exact e1
    | n + 2 => omega) hv h
end Go.Proofs.Ytncobbhhjkdllaa

/-
  The reference's Right of a bit field of 128 bits.
-/
import Derived.Test.YtnakkjgnjffkpaaBits9
namespace Go.Proofs.Ytnakkjgnjffkpaa
open Go.RowKit
set_option linter.unusedVariables false

set_option maxRecDepth 100000 in
set_option maxHeartbeats 2000000 in
theorem rright128 (A : Option Addr) (n c : Nat) (hm : n ≤ 1000000) (w : World) : Calls Try.prog 142 #[.slice A n c, .int .i64 128] w fun e w' => e = .returned (.bool (decide (n = 16))) ∧ Below w.heap.size w w' := by
  by_cases h : n = 16
  · subst h
    go_enter Try.func142, Try.ntmps142
    go_wp2_with fail
    go_loopw [5] (fun i wr => i = .int .i64 128 ∧ wr = w) (fun i _ => 0)
    case atStart => exact ⟨rfl, rfl⟩
    case round =>
      obtain ⟨rfl, rfl⟩ := hrel
      go_wp2_with fail
      go_ret
      exact ⟨rfl, Below.refl _ _⟩
  · have HV : Hid (decide (n = 16) = false) := Lib.hid (decide_eq_false h)
    have e1 : ((n : Int) != 16) = true := bne_iff_ne.2 (by omega)
    clear h
    go_enter Try.func142, Try.ntmps142
    go_wp2_with fail
    go_ret
    exact ⟨by rw [HV.out]; rfl, Below.refl _ _⟩
theorem rright20 (A : Option Addr) (n c : Nat) (hm : n ≤ 1000000) (w : World) : Calls Try.prog 100 #[.slice A n c] w fun e w' => e = .returned (.bool (decide (n = 16))) ∧ Below w.heap.size w w' := by
  have H := Lib.hid (rright128 A n c hm w)
  go_enter Try.func100, Try.ntmps100
  go_wp2_with fail
  refine (H.out).mono ?_
  rintro e w1 ⟨rfl, hb1⟩
  go_wp2_with fail
  go_ret
  exact ⟨rfl, hb1⟩
end Go.Proofs.Ytnakkjgnjffkpaa

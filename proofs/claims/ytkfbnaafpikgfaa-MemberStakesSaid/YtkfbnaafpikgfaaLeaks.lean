/-
  Which modes leak.
-/
import Derived.Test.YtkfbnaafpikgfaaMem
namespace Go.Proofs.Ytkfbnaafpikgfaa
open Go.RowKit
set_option linter.unusedVariables false

def leaksB (mode : Int) : Bool := decide (mode = 3) || decide (mode = 4)
theorem sleaks_any (mode : Int) (w : World) : Calls Try.prog 43 #[.int .i64 mode] w fun e w' => e = .returned (.bool (leaksB mode)) ∧ w = w' := by
  by_cases h3 : mode = 3
  · subst h3
    go_enter Try.func43, Try.ntmps43
    go_wp2
    go_ret
    exact ⟨rfl, rfl⟩
  · by_cases h4 : mode = 4
    · subst h4
      go_enter Try.func43, Try.ntmps43
      go_wp2
      go_ret
      exact ⟨rfl, rfl⟩
    · have n3 : (mode == 3) = false := beq_eq_false_iff_ne.2 h3
      have n4 : (mode == 4) = false := beq_eq_false_iff_ne.2 h4
      have HL : Hid (leaksB mode = false) := Lib.hid (by simp [leaksB, h3, h4])
      clear h3 h4
      go_enter Try.func43, Try.ntmps43
      go_wp2
      go_ret
      exact ⟨by rw [HL.out]; rfl, rfl⟩
theorem rleaks_any (mode : Int) (w : World) : Calls Try.prog 19 #[.int .i64 mode] w fun e w' => e = .returned (.bool (leaksB mode)) ∧ w = w' := by
  by_cases h3 : mode = 3
  · subst h3
    go_enter Try.func19, Try.ntmps19
    go_wp2
    go_ret
    exact ⟨rfl, rfl⟩
  · by_cases h4 : mode = 4
    · subst h4
      go_enter Try.func19, Try.ntmps19
      go_wp2
      go_ret
      exact ⟨rfl, rfl⟩
    · have n3 : (mode == 3) = false := beq_eq_false_iff_ne.2 h3
      have n4 : (mode == 4) = false := beq_eq_false_iff_ne.2 h4
      have HL : Hid (leaksB mode = false) := Lib.hid (by simp [leaksB, h3, h4])
      clear h3 h4
      go_enter Try.func19, Try.ntmps19
      go_wp2
      go_ret
      exact ⟨by rw [HL.out]; rfl, rfl⟩
end Go.Proofs.Ytkfbnaafpikgfaa

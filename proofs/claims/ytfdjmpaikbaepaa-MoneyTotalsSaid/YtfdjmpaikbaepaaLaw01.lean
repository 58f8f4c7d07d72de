/-
  The walks of the statements of layer 1: they answer true whatever the arguments.
-/
import Derived.Test.YtfdjmpaikbaepaaMoney
import Derived.Test.YtfdjmpaikbaepaaRef01c
import Derived.Test.YtfdjmpaikbaepaaRef01d
import Derived.Test.YtfdjmpaikbaepaaRef01f
namespace Go.Proofs.Ytfdjmpaikbaepaa
open Go.RowKit
set_option linter.unusedVariables false

theorem awake01_any (w : World) : Calls Try.prog 22 #[] w fun e w' => e = .returned (.bool true) ∧ w = w' := by
  go_enter Try.func22, Try.ntmps22
  go_wp2_with fail
  refine (msum_any none [] 0 0 rfl (by intro i; simp) (by omega) _ (fun h => by simp at h)).mono ?_
  rintro e w1 ⟨rfl, rfl⟩
  have t1 : fit (total []) = 0 := rfl
  have t2 : toldE (total []) = 0 := rfl
  go_wp2_with fail
  refine (take_any 10 4 (by omega) (by omega) _).mono ?_
  rintro e w1 ⟨rfl, rfl⟩
  go_wp2_with fail
  refine (rise_any 7 5 10 (by omega) (by omega) (by omega) _).mono ?_
  rintro e w1 ⟨rfl, rfl⟩
  go_wp2_with fail
  refine (fall_any 3 5 (by omega) (by omega) _).mono ?_
  rintro e w1 ⟨rfl, rfl⟩
  go_wp2_with fail
  go_ret
  exact ⟨rfl, rfl⟩
theorem tells_any (x : Nat) (e f : Int) (w : World) (h : e = f) : Calls Try.prog 26 #[.int .u64 x, .int .i64 e, .int .u64 x, .int .i64 f] w fun e w' => e = .returned (.bool true) ∧ w = w' := by
  subst h
  go_enter Try.func26, Try.ntmps26
  go_wp2_with fail
  go_ret
  exact ⟨rfl, rfl⟩
set_option maxHeartbeats 400000 in
theorem moneyTakes_any (a b : Nat) (ha : a < 18446744073709551616) (hb : b < 18446744073709551616) (w : World) :
    Calls Try.prog 7 #[.int .u64 a, .int .u64 b] w fun e w' => e = .returned (.bool true) ∧ Below w.heap.size w w' := by
  obtain ⟨g, hg⟩ : ∃ g, g = min a b := ⟨_, rfl⟩
  have h1 : g ≤ a := by omega
  have h2 : g ≤ b := by omega
  have HT := Lib.hid (fun W => take_any a b ha hb W)
  rw [← hg] at HT
  have HA := Lib.hid (fun W => madd_any g (a - g) (by omega) (by omega) W)
  rw [show g + (a - g) = a from by omega, fit_le (by omega), told_le (by omega)] at HA
  have h3 : g < b → a - g = 0 := by omega
  have h4 : ((a - g : Nat) : Int) ≤ a := by omega
  have HG := Lib.hid hg
  clear hg
  by_cases hgb : g < b
  all_goals
    by_cases hov : a + b ≤ 18446744073709551615
    · have HB := Lib.hid (fun W => madd_any a b ha hb W)
      rw [fit_le hov, told_le hov] at HB
      have HR := Lib.hid (fun W => rise_any a b (a + b) ha hb (by omega) W)
      rw [show min (a + b) (a + b) = a + b from by omega] at HR
      have HF := Lib.hid (fun W => fall_any (a + b) b (by omega) hb W)
      rw [show a + b - b = a from by omega] at HF
      first
        | (have h5 := h3 hgb; rw [h5] at HT HA; clear h3 h4 h5)
        | (clear h3)
      go_enter Try.func7, Try.ntmps7
      go_wp2_with fail
      refine (awake01_any _).mono ?_
      rintro e w1 ⟨rfl, rfl⟩
      go_wp2_with fail
      refine (HT.out _).mono ?_
      rintro e w1 ⟨rfl, rfl⟩
      go_wp2_with fail
      refine (HA.out _).mono ?_
      rintro e w1 ⟨rfl, rfl⟩
      go_wp2_with fail
      refine (HB.out _).mono ?_
      rintro e w1 ⟨rfl, rfl⟩
      go_wp2_with fail
      refine (HR.out _).mono ?_
      rintro e w1 ⟨rfl, rfl⟩
      go_wp2_with fail
      refine (HF.out _).mono ?_
      rintro e w1 ⟨rfl, rfl⟩
      go_wp2_with fail
      go_ret
      exact ⟨rfl, Below.refl _ _⟩
    · have HB := Lib.hid (fun W => madd_any a b ha hb W)
      rw [fit_gt hov, told_gt hov] at HB
      first
        | (have h5 := h3 hgb; rw [h5] at HT HA; clear h3 h4 h5)
        | (clear h3)
      go_enter Try.func7, Try.ntmps7
      go_wp2_with fail
      refine (awake01_any _).mono ?_
      rintro e w1 ⟨rfl, rfl⟩
      go_wp2_with fail
      refine (HT.out _).mono ?_
      rintro e w1 ⟨rfl, rfl⟩
      go_wp2_with fail
      refine (HA.out _).mono ?_
      rintro e w1 ⟨rfl, rfl⟩
      go_wp2_with fail
      refine (HB.out _).mono ?_
      rintro e w1 ⟨rfl, rfl⟩
      go_wp2_with fail
      go_ret
      exact ⟨rfl, Below.refl _ _⟩
end Go.Proofs.Ytfdjmpaikbaepaa

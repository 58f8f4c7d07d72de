/-
  What package score's functions answer, and bullionref11's.
-/
import Derived.Test.YtkfbnaafpikgfaaCheck
import Derived.Test.YtkfbnaafpikgfaaMoney
import Derived.Test.YtkfbnaafpikgfaaSt
import Derived.Test.YtkfbnaafpikgfaaCalm
import Derived.RegionTactic
import Derived.BigRegion
import Derived.StillTailTactics
namespace Go.Proofs.Ytkfbnaafpikgfaa
open Go.RowKit
set_option linter.unusedVariables false

def cardC (s : St) (P : Par) : Array Value := #[.int .u64 s.bal, .int .u64 s.eff, .int .u64 s.score, .int .i64 s.streak, .int .u64 P.inc, .int .u64 P.maxEff, .int .u64 P.floor, .int .u64 P.cap, .int .u64 P.up, .int .u64 P.down, .int .u64 P.bias, .int .u64 P.quot, .int .u64 P.biasEm, .int .u64 P.quotEm, .int .u64 P.recover, .int .u64 P.scoreCap, .int .u64 P.rate, .int .u64 P.bond, .int .i64 P.delay, .int .i64 P.streak, .int .i64 P.boost, .int .i64 P.absent, .int .i64 P.burn, .int .i64 P.churn, .int .i64 P.wait, .int .i64 P.poll, .int .i64 P.enact, .int .i64 P.quorum]
theorem cardC_size (s : St) (P : Par) : (cardC s P).size = 28 := rfl
theorem cardC_score (s : St) (P : Par) : (cardC s P)[2]? = some (.int .u64 s.score) := rfl
theorem cardC_streak (s : St) (P : Par) : (cardC s P)[3]? = some (.int .i64 s.streak) := rfl
theorem cardC_cap (s : St) (P : Par) : (cardC s P)[15]? = some (.int .u64 P.scoreCap) := rfl
theorem cardC_long (s : St) (P : Par) : (cardC s P)[19]? = some (.int .i64 P.streak) := rfl
theorem cardC_recover (s : St) (P : Par) : (cardC s P)[14]? = some (.int .u64 P.recover) := rfl
theorem cardC_bias (s : St) (P : Par) : (cardC s P)[10]? = some (.int .u64 P.bias) := rfl
theorem cardC_biasEm (s : St) (P : Par) : (cardC s P)[12]? = some (.int .u64 P.biasEm) := rfl
theorem cardC_setScore (s : St) (P : Par) (n : Nat) : (cardC s P).setIfInBounds 2 (.int .u64 n) = cardC { s with score := n } P := rfl
theorem cardC_setStreak (s : St) (P : Par) (n : Int) : (cardC s P).setIfInBounds 3 (.int .i64 n) = cardC { s with streak := n } P := rfl
theorem row_setScore {w : World} {g : Nat} {b e c : Nat} {k : Int} {P : Par} (h : row w g = some (cardC ⟨b, e, c, k⟩ P)) (n : Nat) : row (w.setCell ⟨g, 2, none⟩ (.int .u64 (n : Int))) g = some (cardC ⟨b, e, n, k⟩ P) := row_set h 2 _
theorem row_setStreak {w : World} {g : Nat} {b e c : Nat} {k : Int} {P : Par} (h : row w g = some (cardC ⟨b, e, c, k⟩ P)) (n : Int) : row (w.setCell ⟨g, 3, none⟩ (.int .i64 n)) g = some (cardC ⟨b, e, c, n⟩ P) := row_set h 3 _
attribute [go_sem] cardC_size cardC_score cardC_streak cardC_cap cardC_long cardC_recover cardC_bias cardC_biasEm
def trimS (P : Par) (s : St) : St := { s with score := min s.score P.scoreCap, streak := min (max s.streak 0) P.streak }
set_option maxHeartbeats 2000000 in
set_option maxRecDepth 100000 in
theorem ctrim_any (P : Par) (s : St) (g : Nat) (w : World) (hp : 0 ≤ P.streak) (hr : row w g = some (cardC s P)) :
    Calls Try.prog 89 #[.pointer (some ⟨g, 0, none⟩)] w fun e w' => e = .returned (.tuple #[]) ∧ row w' g = some (cardC (trimS P s) P) ∧ Below g w w' := by
  have hl := row_lt hr
  obtain ⟨a, ha⟩ : ∃ a : Nat, a = min s.score P.scoreCap := ⟨_, rfl⟩
  obtain ⟨z, hz⟩ : ∃ z : Int, z = min (max s.streak 0) P.streak := ⟨_, rfl⟩
  have HT : Hid (trimS P s = { s with score := a, streak := z }) := Lib.hid (by rw [ha, hz]; rfl)
  have ha' : (a = P.scoreCap ∧ P.scoreCap < s.score) ∨ (a = s.score ∧ ¬ P.scoreCap < s.score) := by omega
  have hz' : (z = 0 ∧ s.streak < 0) ∨ (z = P.streak ∧ ¬ s.streak < 0 ∧ P.streak < s.streak) ∨ (z = s.streak ∧ ¬ s.streak < 0 ∧ ¬ P.streak < s.streak) := by omega
  have h4 : ¬ P.streak < 0 := by omega
  clear ha hz
  rcases ha' with ⟨rfl, h1⟩ | ⟨rfl, h1⟩
  all_goals rcases hz' with ⟨rfl, h2⟩ | ⟨rfl, h2, h3⟩ | ⟨rfl, h2, h3⟩
  all_goals
    go_enter Try.func89, Try.ntmps89
    go_wp2_with fail
    (refine region_still_tail 15 (fun wd => row wd g = some (cardC s P) ∧ Below g w wd) (by kernel_rfl) (by kernel_rfl) (⟨hr, (Below.refl _ _).drew⟩) (fun wd hwd => ?_); (obtain ⟨r1, b1⟩ := hwd); have c1 := fun i => row_cell r1 i; simp only [List.take_succ_cons, List.take_zero, List.drop_succ_cons, List.drop_zero]; (repeat still_step))
    refine wpStill_nil ?_
    have f1 : ∀ i, wd.frozen? ⟨g, i, none⟩ = false := fun i => row_frozen r1 i
    go_wp2_with fail
    (refine region_still_tail 16 (fun wd => row wd g = some (cardC ⟨s.bal, s.eff, _, s.streak⟩ P) ∧ Below g w wd) (by kernel_rfl) (by kernel_rfl) (⟨row_setScore r1 _, (below_own b1 (Nat.le_refl _) 2 _).drew⟩) (fun wd hwd => ?_); (obtain ⟨r2, b2⟩ := hwd); have c2 := fun i => row_cell r2 i; simp only [List.take_succ_cons, List.take_zero, List.drop_succ_cons, List.drop_zero]; (repeat still_step))
    refine wpStill_nil ?_
    have f2 : ∀ i, wd.frozen? ⟨g, i, none⟩ = false := fun i => row_frozen r2 i
    go_wp2_with fail
    go_end0
    refine ⟨rfl, ?_, below_own b2 (Nat.le_refl _) 3 _⟩
    rw [HT.out]
    exact row_setStreak r2 _
def thereS (P : Par) (s : St) : St := ⟨s.bal, s.eff, s.score - P.recover, min (max s.streak 0 + 1) P.streak⟩
def awayS (P : Par) (s : St) (mode : Int) : St := ⟨s.bal, s.eff, if mode = 3 then min (s.score + P.bias) P.scoreCap else if mode = 4 then min (s.score + P.biasEm) P.scoreCap else s.score, 0⟩
end Go.Proofs.Ytkfbnaafpikgfaa

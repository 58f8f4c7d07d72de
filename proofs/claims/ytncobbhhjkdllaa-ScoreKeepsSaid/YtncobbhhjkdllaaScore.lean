/-
  What package score's functions answer, and bullionref11's.
-/
import Derived.Test.YtncobbhhjkdllaaCheck
import Derived.Test.YtncobbhhjkdllaaMoney
import Derived.Test.YtncobbhhjkdllaaPart
import Derived.Test.YtncobbhhjkdllaaCalm
import Derived.RegionTactic
import Derived.BigRegion
import Derived.StillTailTactics
namespace Go.Proofs.Ytncobbhhjkdllaa
open Go.RowKit
set_option linter.unusedVariables false

structure St where
  bal : Nat
  eff : Nat
  score : Nat
  streak : Int
def St.cells (s : St) : Array Value := #[.int .u64 s.bal, .int .u64 s.eff, .int .u64 s.score, .int .i64 s.streak]
def cardC (s : St) (P : Par) : Array Value := #[.int .u64 s.bal, .int .u64 s.eff, .int .u64 s.score, .int .i64 s.streak, .int .u64 P.inc, .int .u64 P.maxEff, .int .u64 P.floor, .int .u64 P.cap, .int .u64 P.up, .int .u64 P.down, .int .u64 P.bias, .int .u64 P.quot, .int .u64 P.biasEm, .int .u64 P.quotEm, .int .u64 P.recover, .int .u64 P.scoreCap, .int .u64 P.rate, .int .u64 P.bond, .int .i64 P.delay, .int .i64 P.streak, .int .i64 P.boost, .int .i64 P.absent, .int .i64 P.burn, .int .i64 P.churn, .int .i64 P.wait, .int .i64 P.poll, .int .i64 P.enact, .int .i64 P.quorum]
theorem cardC_size (s : St) (P : Par) : (cardC s P).size = 28 := rfl
theorem cardC_score (s : St) (P : Par) : (cardC s P)[2]? = some (.int .u64 s.score) := rfl
theorem cardC_streak (s : St) (P : Par) : (cardC s P)[3]? = some (.int .i64 s.streak) := rfl
theorem cardC_cap (s : St) (P : Par) : (cardC s P)[15]? = some (.int .u64 P.scoreCap) := rfl
theorem cardC_long (s : St) (P : Par) : (cardC s P)[19]? = some (.int .i64 P.streak) := rfl
theorem cardC_recover (s : St) (P : Par) : (cardC s P)[14]? = some (.int .u64 P.recover) := rfl
theorem cardC_bias (s : St) (P : Par) : (cardC s P)[10]? = some (.int .u64 P.bias) := rfl
theorem cardC_biasEm (s : St) (P : Par) : (cardC s P)[12]? = some (.int .u64 P.biasEm) := rfl
theorem cardC_setScore (s : St) (P : Par) (n : Nat) : (cardC s P).setIfInBounds 2 (.int .u64 n) = cardC { s with score := n } P := rfl
theorem cardC_setStreak (s : St) (P : Par) (n : Int) : (cardC s P).setIfInBounds 3 (.int .i64 n) = cardC { s with streak := n } P := rfl
theorem row_setScore {w : World} {g : Nat} {b e c : Nat} {k : Int} {P : Par} (h : row w g = some (cardC ⟨b, e, c, k⟩ P)) (n : Nat) : row (w.setCell ⟨g, 2, none⟩ (.int .u64 (n : Int))) g = some (cardC ⟨b, e, n, k⟩ P) := row_set h 2 _
theorem row_setStreak {w : World} {g : Nat} {b e c : Nat} {k : Int} {P : Par} (h : row w g = some (cardC ⟨b, e, c, k⟩ P)) (n : Int) : row (w.setCell ⟨g, 3, none⟩ (.int .i64 n)) g = some (cardC ⟨b, e, c, n⟩ P) := row_set h 3 _
attribute [go_sem] cardC_size cardC_score cardC_streak cardC_cap cardC_long cardC_recover cardC_bias cardC_biasEm
def trimS (P : Par) (s : St) : St := { s with score := min s.score P.scoreCap, streak := min (max s.streak 0) P.streak }
set_option maxHeartbeats 2000000 in
set_option maxRecDepth 100000 in
theorem ctrim_any (P : Par) (s : St) (g : Nat) (w : World) (hp : 0 ≤ P.streak) (hr : row w g = some (cardC s P)) :
    Calls Try.prog 54 #[.pointer (some ⟨g, 0, none⟩)] w fun e w' => e = .returned (.tuple #[]) ∧ row w' g = some (cardC (trimS P s) P) ∧ Below g w w' := by
  have hl := row_lt hr
  obtain ⟨a, ha⟩ : ∃ a : Nat, a = min s.score P.scoreCap := ⟨_, rfl⟩
  obtain ⟨z, hz⟩ : ∃ z : Int, z = min (max s.streak 0) P.streak := ⟨_, rfl⟩
  have HT : Hid (trimS P s = { s with score := a, streak := z }) := Lib.hid (by rw [ha, hz]; rfl)
  have ha' : (a = P.scoreCap ∧ P.scoreCap < s.score) ∨ (a = s.score ∧ ¬ P.scoreCap < s.score) := by omega
  have hz' : (z = 0 ∧ s.streak < 0) ∨ (z = P.streak ∧ ¬ s.streak < 0 ∧ P.streak < s.streak) ∨ (z = s.streak ∧ ¬ s.streak < 0 ∧ ¬ P.streak < s.streak) := by omega
  have h4 : ¬ P.streak < 0 := by omega
  clear ha hz
  rcases ha' with ⟨rfl, h1⟩ | ⟨rfl, h1⟩
  all_goals rcases hz' with ⟨rfl, h2⟩ | ⟨rfl, h2, h3⟩ | ⟨rfl, h2, h3⟩
  all_goals
    go_enter Try.func54, Try.ntmps54
    go_wp2_with fail
    (refine region_still_tail 15 (fun wd => row wd g = some (cardC s P) ∧ Below g w wd) (by kernel_rfl) (by kernel_rfl) (⟨hr, (Below.refl _ _).drew⟩) (fun wd hwd => ?_); (obtain ⟨r1, b1⟩ := hwd); have c1 := fun i => row_cell r1 i; simp only [List.take_succ_cons, List.take_zero, List.drop_succ_cons, List.drop_zero]; (repeat still_step))
    refine wpStill_nil ?_
    have f1 : ∀ i, wd.frozen? ⟨g, i, none⟩ = false := fun i => row_frozen r1 i
    go_wp2_with fail
    (refine region_still_tail 16 (fun wd => row wd g = some (cardC ⟨s.bal, s.eff, _, s.streak⟩ P) ∧ Below g w wd) (by kernel_rfl) (by kernel_rfl) (⟨row_setScore r1 _, (below_own b1 (Nat.le_refl _) 2 _).drew⟩) (fun wd hwd => ?_); (obtain ⟨r2, b2⟩ := hwd); have c2 := fun i => row_cell r2 i; simp only [List.take_succ_cons, List.take_zero, List.drop_succ_cons, List.drop_zero]; (repeat still_step))
    refine wpStill_nil ?_
    have f2 : ∀ i, wd.frozen? ⟨g, i, none⟩ = false := fun i => row_frozen r2 i
    go_wp2_with fail
    go_end0
    refine ⟨rfl, ?_, below_own b2 (Nat.le_refl _) 3 _⟩
    rw [HT.out]
    exact row_setStreak r2 _
theorem same_symm {P : Program} {f : FuncId} {args : Array Value} {w : World} {v : Value} (h : Calls P f args w fun e w' => e = .returned v ∧ w = w') : Calls P f args w fun e w' => e = .returned v ∧ w' = w :=
  h.mono fun _ _ ⟨a, b⟩ => ⟨a, b.symm⟩
def thereS (P : Par) (s : St) : St := ⟨s.bal, s.eff, s.score - P.recover, min (max s.streak 0 + 1) P.streak⟩
def awayS (P : Par) (s : St) (mode : Int) : St := ⟨s.bal, s.eff, if mode = 3 then min (s.score + P.bias) P.scoreCap else if mode = 4 then min (s.score + P.biasEm) P.scoreCap else s.score, 0⟩
set_option maxHeartbeats 2000000 in
set_option maxRecDepth 100000 in
theorem cthere_any (P : Par) (s : St) (g : Nat) (w : World) (hp : 0 ≤ P.streak) (hp' : P.streak ≤ 64) (hk : i64ok s.streak) (hs : s.score < 18446744073709551616) (hv : P.recover < 18446744073709551616) (hr : row w g = some (cardC s P)) :
    Calls Try.prog 52 #[.pointer (some ⟨g, 0, none⟩)] w fun e w' => e = .returned (.tuple #[]) ∧ row w' g = some (cardC (thereS P s) P) ∧ Below g w w' := by
  have hl := row_lt hr
  unfold i64ok at hk
  have HF := Lib.hid (fun W => same_symm (fall_any s.score P.recover hs hv W))
  obtain ⟨l, hl1⟩ : ∃ l, l = P.streak - 1 := ⟨_, rfl⟩
  obtain ⟨z, hz1⟩ : ∃ z, z = min (max s.streak 0) l + 1 := ⟨_, rfl⟩
  have HT : Hid (thereS P s = ⟨s.bal, s.eff, s.score - P.recover, z⟩) := Lib.hid (by unfold thereS; rw [show z = min (max s.streak 0 + 1) P.streak by omega])
  have E1 : IntKind.i64.wrap (P.streak - 1) = l := by rw [hl1]; exact IntWalk.i64_in _ (by omega)
  have hz' : (s.streak < 0 ∧ l < 0 ∧ z = 0 ∧ IntKind.i64.wrap (l + 1) = 0) ∨ (s.streak < 0 ∧ ¬ l < 0 ∧ z = 1 ∧ ¬ P.streak < 1) ∨ (¬ s.streak < 0 ∧ l < s.streak ∧ z = l + 1 ∧ IntKind.i64.wrap (l + 1) = z ∧ ¬ P.streak < z) ∨ (¬ s.streak < 0 ∧ ¬ l < s.streak ∧ z = s.streak + 1 ∧ IntKind.i64.wrap (s.streak + 1) = z ∧ ¬ P.streak < z) := by
    by_cases h1 : s.streak < 0
    · by_cases h2 : l < 0
      · exact .inl ⟨h1, h2, by omega, by rw [show l + 1 = 0 by omega]; rfl⟩
      · exact .inr (.inl ⟨h1, h2, by omega, by omega⟩)
    · by_cases h2 : l < s.streak
      · exact .inr (.inr (.inl ⟨h1, h2, by omega, (IntWalk.i64_in _ (by omega)).trans (by omega), by omega⟩))
      · exact .inr (.inr (.inr ⟨h1, h2, by omega, (IntWalk.i64_in _ (by omega)).trans (by omega), by omega⟩))
  have hz0 : 0 < z ∨ z = 0 := by omega
  have hp3 : ¬ P.streak < 0 := by omega
  clear hl1 hz1
  rcases hz' with ⟨h1, h2, rfl, h3⟩ | ⟨h1, h2, rfl, h3⟩ | ⟨h1, h2, h5, h3, h4⟩ | ⟨h1, h2, h5, h3, h4⟩
  all_goals (try clear h5)
  all_goals rcases hz0 with h6 | h6
  all_goals first
    | (exfalso; omega)
    | (subst h6)
    | skip
  all_goals
    go_enter Try.func52, Try.ntmps52
    go_wp2_with fail
    (refine region_still_tail 18 (fun wd => row wd g = some (cardC s P) ∧ Below g w wd) (by kernel_rfl) (by kernel_rfl) (⟨hr, (Below.refl _ _).drew⟩) (fun wd hwd => ?_); (obtain ⟨r1, b1⟩ := hwd); have c1 := fun i => row_cell r1 i; simp only [List.take_succ_cons, List.take_zero, List.drop_succ_cons, List.drop_zero]; (repeat still_step))
    refine wpStill_nil ?_
    have f1 : ∀ i, wd.frozen? ⟨g, i, none⟩ = false := fun i => row_frozen r1 i
    go_wp2_with fail
    (refine region_still_tail 16 (fun wd => row wd g = some (cardC ⟨s.bal, s.eff, s.score, _⟩ P) ∧ Below g w wd) (by kernel_rfl) (by kernel_rfl) (⟨row_setStreak r1 _, (below_own b1 (Nat.le_refl _) 3 _).drew⟩) (fun wd hwd => ?_); (obtain ⟨r2, b2⟩ := hwd); have c2 := fun i => row_cell r2 i; simp only [List.take_succ_cons, List.take_zero, List.drop_succ_cons, List.drop_zero]; (repeat still_step))
    refine wpStill_nil ?_
    have f2 : ∀ i, wd.frozen? ⟨g, i, none⟩ = false := fun i => row_frozen r2 i
    go_wp2_with fail
    (refine region_still_tail 15 (fun wd => row wd g = some (cardC ⟨s.bal, s.eff, s.score, _⟩ P) ∧ Below g w wd) (by kernel_rfl) (by kernel_rfl) (⟨row_setStreak r2 _, (below_own b2 (Nat.le_refl _) 3 _).drew⟩) (fun wd hwd => ?_); (obtain ⟨r3, b3⟩ := hwd); have c3 := fun i => row_cell r3 i; simp only [List.take_succ_cons, List.take_zero, List.drop_succ_cons, List.drop_zero]; (repeat still_step))
    still_call (HF.out _)
    (repeat still_step)
    refine wpStill_nil ?_
    have f3 : ∀ i, wd.frozen? ⟨g, i, none⟩ = false := fun i => row_frozen r3 i
    go_wp2_with fail
    go_end0
    refine ⟨rfl, ?_, below_own b3 (Nat.le_refl _) 2 _⟩
    rw [HT.out]
    exact row_setScore r3 _
set_option maxHeartbeats 2000000 in
set_option maxRecDepth 100000 in
theorem caway_any (P : Par) (s : St) (mode : Int) (g : Nat) (w : World) (hs : s.score < 18446744073709551616) (h1 : P.bias < 18446744073709551616) (h2 : P.biasEm < 18446744073709551616) (h3 : P.scoreCap < 18446744073709551616) (hr : row w g = some (cardC s P)) :
    Calls Try.prog 53 #[.pointer (some ⟨g, 0, none⟩), .int .i64 mode] w fun e w' => e = .returned (.tuple #[]) ∧ row w' g = some (cardC (awayS P s mode) P) ∧ Below g w w' := by
  have hl := row_lt hr
  have HR1 := Lib.hid (fun W => same_symm (rise_any s.score P.bias P.scoreCap hs h1 h3 W))
  have HR2 := Lib.hid (fun W => same_symm (rise_any s.score P.biasEm P.scoreCap hs h2 h3 W))
  have c0 : ∀ i, w.cell? ⟨g, i, none⟩ = (cardC s P)[i]? := fun i => row_cell hr i
  have f0 : ∀ i, w.frozen? ⟨g, i, none⟩ = false := fun i => row_frozen hr i
  clear h1 h2 h3
  by_cases m3 : mode = 3
  · subst m3
    have HT : Hid (awayS P s 3 = ⟨s.bal, s.eff, min (s.score + P.bias) P.scoreCap, 0⟩) := Lib.hid (by simp [awayS])
    go_enter Try.func53, Try.ntmps53
    go_wp2_with fail
    (refine region_still_tail 20 (fun wd => row wd g = some (cardC ⟨s.bal, s.eff, s.score, _⟩ P) ∧ Below g w wd) (by kernel_rfl) (by kernel_rfl) (⟨row_setStreak hr _, (below_own (Below.refl _ _) (Nat.le_refl _) 3 _).drew⟩) (fun wd hwd => ?_); (obtain ⟨r2, b2⟩ := hwd); have c2 := fun i => row_cell r2 i; simp only [List.take_succ_cons, List.take_zero, List.drop_succ_cons, List.drop_zero]; (repeat still_step))
    still_call (HR1.out _)
    (repeat still_step)
    refine wpStill_nil ?_
    have f2 : ∀ i, wd.frozen? ⟨g, i, none⟩ = false := fun i => row_frozen r2 i
    go_wp2_with fail
    go_end0
    refine ⟨rfl, ?_, below_own b2 (Nat.le_refl _) 2 _⟩
    rw [HT.out]
    exact row_setScore r2 _
  · have n3 : (mode == 3) = false := beq_eq_false_iff_ne.2 m3
    by_cases m4 : mode = 4
    · subst m4
      have HT : Hid (awayS P s 4 = ⟨s.bal, s.eff, min (s.score + P.biasEm) P.scoreCap, 0⟩) := Lib.hid (by simp [awayS])
      clear m3 n3
      go_enter Try.func53, Try.ntmps53
      go_wp2_with fail
      (refine region_still_tail 20 (fun wd => row wd g = some (cardC ⟨s.bal, s.eff, s.score, _⟩ P) ∧ Below g w wd) (by kernel_rfl) (by kernel_rfl) (⟨row_setStreak hr _, (below_own (Below.refl _ _) (Nat.le_refl _) 3 _).drew⟩) (fun wd hwd => ?_); (obtain ⟨r2, b2⟩ := hwd); have c2 := fun i => row_cell r2 i; simp only [List.take_succ_cons, List.take_zero, List.drop_succ_cons, List.drop_zero]; (repeat still_step))
      still_call (HR2.out _)
      (repeat still_step)
      refine wpStill_nil ?_
      have f2 : ∀ i, wd.frozen? ⟨g, i, none⟩ = false := fun i => row_frozen r2 i
      go_wp2_with fail
      go_end0
      refine ⟨rfl, ?_, below_own b2 (Nat.le_refl _) 2 _⟩
      rw [HT.out]
      exact row_setScore r2 _
    · have n4 : (mode == 4) = false := beq_eq_false_iff_ne.2 m4
      have HT : Hid (awayS P s mode = ⟨s.bal, s.eff, s.score, 0⟩) := Lib.hid (by simp [awayS, m3, m4])
      clear m3 m4
      go_enter Try.func53, Try.ntmps53
      go_wp2_with fail
      go_end0
      refine ⟨rfl, ?_, below_own (Below.refl _ _) (Nat.le_refl _) 3 _⟩
      rw [HT.out]
      exact row_setStreak hr _
end Go.Proofs.Ytncobbhhjkdllaa

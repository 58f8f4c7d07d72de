/-
  The walks of ParamChecks and ParamLeaks: they answer true whatever the parameters.
-/
import Derived.Test.YtecdfphfgaeodaaLaw07a
namespace Go.Proofs.Ytecdfphfgaeodaa
open Go.RowKit
set_option linter.unusedVariables false

set_option maxHeartbeats 1000000 in
set_option maxRecDepth 100000 in
theorem paramChecks_any (P : Par) (w : World) : Calls Try.prog 3 #[.agg P.cells] w fun e w' => e = .returned (.bool true) ∧ Below w.heap.size w w' := by
  have r0 : row (w.alloc (.cells P.cells 24)) w.heap.size = some P.cells := (by (repeat (first | assumption | (refine row_at _ _ _ _ ?_; first | rfl | (simp only [World.size_alloc]; done) | (simp only [World.size_alloc]; omega)) | (refine (row_past _ _ _ ?_).trans ?_; (focus (first | exact Nat.lt_succ_self _ | ((repeat rw [World.size_alloc]); omega) | (simp; done) | (simp; omega) | omega))) | rw [row_drewN] | rw [row_drew])); (first | done | fail))
  have hB0 : Below w.heap.size w (w.alloc (.cells P.cells 24)) := (by (repeat (first | exact Below.refl _ _ | assumption | (refine Below.allocT ?_ _) | refine Below.drew ?_ | refine below_drewN ?_ _ | (refine Below.then ?_ (by assumption)) | (refine Below.setRow ?_ ?_ _; rotate_left; (focus (first | exact Nat.lt_succ_self _ | ((repeat rw [World.size_alloc]); omega) | (simp; done) | (simp; omega) | omega))) | (refine Below.setCell ?_ ?_ _; rotate_left; (focus (first | exact Nat.lt_succ_self _ | ((repeat rw [World.size_alloc]); omega) | (simp; done) | (simp; omega) | omega))) | (refine Below.then' ?_ (by assumption) ?_; rotate_left; (focus (first | exact Nat.lt_succ_self _ | ((repeat rw [World.size_alloc]); omega) | (simp; done) | (simp; omega) | omega))) | fail)); (first | done | fail))
  have HL := Lib.hid (fun W => pleak_any P W)
  have HR := Lib.hid (fun W => right_any P W)
  have HC := Lib.hid (fun W => check_any P W)
  cases hr : rightB P
  · have e1 : checkE P = 70 := by simp [checkE, hr]
    have e2 : leakV P = 0 := by simp [leakV, hr]
    rw [e2, e1] at HL
    rw [hr] at HR
    rw [e1] at HC
    clear e1 e2 hr
    go_enter Try.func3, Try.ntmps3
    go_wp2_with fail
    generalize w.alloc (.cells P.cells 24) = W at *
    refine (awake07_any _).mono ?_
    rintro e w1 ⟨rfl, hb1⟩
    have r1 := (row_below hb1 (row_lt r0)).trans r0
    have hB1 := Below.then hB0 hb1
    clear r0 hB0 hb1
    go_wp2_with fail
    refine (HL.out _).mono ?_
    rintro e w2 ⟨rfl, hb2⟩
    have r2 := (row_below hb2 (row_lt r1)).trans r1
    have hB2 := Below.then hB1 hb2
    clear r1 hB1 hb2
    go_wp2_with fail
    refine (plain_any P _).mono ?_
    rintro e w3 ⟨rfl, hb3⟩
    have r3 := (row_below hb3 (row_lt r2)).trans r2
    have hB3 := Below.then hB2 hb3
    clear r2 hB2 hb3
    go_wp2_with fail
    refine (HR.out _).mono ?_
    rintro e w4 ⟨rfl, hb4⟩
    have r4 := (row_below hb4 (row_lt r3)).trans r3
    have hB4 := Below.then hB3 hb4
    clear r3 hB3 hb4
    go_wp2_with fail
    refine (HC.out _).mono ?_
    rintro e w5 ⟨rfl, hb5⟩
    go_wp2_with fail
    go_ret
    exact ⟨rfl, Below.then hB4 hb5⟩
  · have e1 : checkE P = 0 := by simp [checkE, hr]
    have e2 : leakV P = leakT P := by simp [leakV, hr]
    have hl := leakT_le P
    have HT := Lib.hid (fun W => ticks_any P (leakOk_of (right_facts hr).1 (right_facts hr).2.1) W)
    rw [e2, e1] at HL
    rw [hr] at HR
    rw [e1] at HC
    clear e1 e2 hr
    generalize leakT P = t at *
    go_enter Try.func3, Try.ntmps3
    go_wp2_with fail
    generalize w.alloc (.cells P.cells 24) = W at *
    refine (awake07_any _).mono ?_
    rintro e w1 ⟨rfl, hb1⟩
    have r1 := (row_below hb1 (row_lt r0)).trans r0
    have hB1 := Below.then hB0 hb1
    clear r0 hB0 hb1
    go_wp2_with fail
    refine (HL.out _).mono ?_
    rintro e w2 ⟨rfl, hb2⟩
    have r2 := (row_below hb2 (row_lt r1)).trans r1
    have hB2 := Below.then hB1 hb2
    clear r1 hB1 hb2
    go_wp2_with fail
    refine (plain_any P _).mono ?_
    rintro e w3 ⟨rfl, hb3⟩
    have r3 := (row_below hb3 (row_lt r2)).trans r2
    have hB3 := Below.then hB2 hb3
    clear r2 hB2 hb3
    go_wp2_with fail
    refine (HR.out _).mono ?_
    rintro e w4 ⟨rfl, hb4⟩
    have r4 := (row_below hb4 (row_lt r3)).trans r3
    have hB4 := Below.then hB3 hb4
    clear r3 hB3 hb4
    go_wp2_with fail
    refine (HC.out _).mono ?_
    rintro e w5 ⟨rfl, hb5⟩
    have r5 := (row_below hb5 (row_lt r4)).trans r4
    have hB5 := Below.then hB4 hb5
    clear r4 hB4 hb5
    go_wp2_with fail
    refine (plain_any P _).mono ?_
    rintro e w6 ⟨rfl, hb6⟩
    have hB6 := Below.then hB5 hb6
    clear hB5 hb6
    go_wp2_with fail
    refine (HT.out _).mono ?_
    rintro e w7 ⟨rfl, hb7⟩
    go_wp2_with fail
    go_ret
    exact ⟨rfl, Below.then hB6 hb7⟩
/-! ### What is lost in a leak -/
def lossN (P : Par) (j : Nat) : Nat := upQ (P.inc * (P.bias * j)) P.quot
def lostN (P : Par) : Nat → Nat
  | 0 => 0
  | j + 1 => lostN P j + lossN P (j + 1)
def lossB (P : Par) : Nat := if leakT P = 1 then 9223372036854775809 else 8796093022209
theorem loss_ge {P : Par} (h : LeakOk P) (j : Nat) : leakK P * j ≤ lossN P j * P.quot := by
  unfold leakK lossN
  rw [Nat.mul_assoc]
  exact upQ_mul (by obtain ⟨_, _, _, _, h5, _⟩ := h; omega)
theorem lost_ge {P : Par} (h : LeakOk P) : ∀ j, leakK P * (j * (j + 1)) ≤ 2 * P.quot * lostN P j
  | 0 => by simp
  | j + 1 => by
    have ih := lost_ge h j
    have hl := loss_ge h (j + 1)
    unfold lostN
    have e1 : leakK P * ((j + 1) * (j + 1 + 1)) = leakK P * (j * (j + 1)) + 2 * (leakK P * (j + 1)) := by
      rw [← Nat.mul_assoc 2, Nat.mul_comm 2, Nat.mul_assoc (leakK P) 2, ← Nat.mul_add]
      congr 1
      rw [Nat.mul_add (j + 1) (j + 1) 1, Nat.add_mul j 1 (j + 1), Nat.mul_one]
      omega
    have e2 : 2 * P.quot * (lostN P j + lossN P (j + 1)) = 2 * P.quot * lostN P j + 2 * (lossN P (j + 1) * P.quot) := by
      rw [Nat.mul_add, Nat.mul_assoc 2 P.quot (lossN P (j + 1)), Nat.mul_comm P.quot]
    omega
theorem loss_le {P : Par} (h : LeakOk P) {j : Nat} (h0 : 1 ≤ j) (hj : j ≤ leakT P) : lossN P j ≤ lossB P := by
  obtain ⟨k1, k2, k3, k4, k5, k6, k7, k8⟩ := h
  have hu := upQ_le (P.inc * (P.bias * j)) P.quot
  have hq : 0 < P.quot := by omega
  have hK : leakK P ≤ 2147483648 * 4294967296 := Nat.mul_le_mul k2 k4
  have hA : leakA P ≤ 2 * P.quot * 1099511627776 := Nat.mul_le_mul_left _ (by omega)
  have e : P.inc * (P.bias * j) = leakK P * j := by unfold leakK; rw [Nat.mul_assoc]
  rw [e] at hu
  unfold lossN lossB
  rw [e]
  split
  · rename_i h1
    have hj1 : j = 1 := by omega
    subst hj1
    rw [Nat.mul_one] at hu ⊢
    have := Nat.div_le_self (leakK P) P.quot
    omega
  · rename_i h1
    have hlt : leakK P * j < 8796093022208 * P.quot := by
      rcases Nat.lt_or_ge j (leakT P) with hlt | hge
      · have h2 := (leakF_spec (leakK P) (leakA P) leakN 1).2.2.1 j h0 hlt
        have h3 : leakK P * j ≤ leakK P * (j * (j + 1)) := Nat.mul_le_mul_left _ (Nat.le_mul_of_pos_right j (by omega))
        have h4 : 2 * P.quot * 1099511627776 = 2199023255552 * P.quot := by rw [Nat.mul_right_comm]
        omega
      · obtain ⟨i, rfl⟩ : ∃ i, j = i + 1 := ⟨j - 1, by omega⟩
        have h2 := (leakF_spec (leakK P) (leakA P) leakN 1).2.2.1 i (by omega) (show i < leakT P by omega)
        have h3 : leakK P * (i + 1) ≤ leakK P * (i * (i + 1)) := Nat.mul_le_mul_left _ (Nat.le_mul_of_pos_left _ (by omega))
        have h4 : 2 * P.quot * 1099511627776 = 2199023255552 * P.quot := by rw [Nat.mul_right_comm]
        omega
    have : leakK P * j / P.quot < 8796093022208 := by rw [Nat.div_lt_iff_lt_mul hq]; exact hlt
    omega
theorem lost_le {P : Par} (h : LeakOk P) : ∀ j, j ≤ leakT P → lostN P j ≤ j * lossB P
  | 0, _ => by simp [lostN]
  | j + 1, hj => by
    have ih := lost_le h j (by omega)
    have := loss_le h (j := j + 1) (by omega) hj
    unfold lostN
    rw [Nat.add_mul]; omega
theorem lossB_le {P : Par} (h3 : leakT P ≤ 3000) {j : Nat} (hj : j ≤ leakT P) : j * lossB P ≤ 26388279066627001 ∨ leakT P = 1 := by
  unfold lossB
  split
  · rename_i h; exact .inr h
  · left
    have : j * 8796093022209 ≤ 3000 * 8796093022209 := Nat.mul_le_mul_right _ (by omega)
    omega
theorem lost_small {P : Par} (h : LeakOk P) (h3 : leakT P ≤ 3000) {j : Nat} (hj : j ≤ leakT P) : lostN P j ≤ 9223372036854775809 := by
  have h1 := lost_le h j hj
  rcases lossB_le h3 hj with h2 | h2
  · omega
  · have : lossB P = 9223372036854775809 := by unfold lossB; rw [if_pos h2]
    rw [this] at h1
    have : j * 9223372036854775809 ≤ 1 * 9223372036854775809 := Nat.mul_le_mul_right _ (by omega)
    omega
theorem lost_all {P : Par} (h : LeakOk P) (ht : leakT P ≤ 1048576) : P.cap - P.floor ≤ lostN P (leakT P) := by
  have h1 := lost_ge h (leakT P)
  have h2 : leakA P ≤ leakK P * (leakT P * (leakT P + 1)) := (leakF_spec (leakK P) (leakA P) leakN 1).2.2.2 (by have := leakN_eq; unfold leakT at ht; omega)
  have h3 : 2 * P.quot * (P.cap - P.floor) ≤ 2 * P.quot * lostN P (leakT P) := Nat.le_trans h2 h1
  obtain ⟨_, _, _, _, k5, _⟩ := h
  exact Nat.le_of_mul_le_mul_left h3 (by omega)
set_option maxHeartbeats 1000000 in
set_option maxRecDepth 100000 in
theorem paramLeaks_any (P : Par) (w : World) : Calls Try.prog 4 #[.agg P.cells] w fun e w' => e = .returned (.bool true) ∧ Below w.heap.size w w' := by
  have r0 : row (w.alloc (.cells P.cells 24)) w.heap.size = some P.cells := (by (repeat (first | assumption | (refine row_at _ _ _ _ ?_; first | rfl | (simp only [World.size_alloc]; done) | (simp only [World.size_alloc]; omega)) | (refine (row_past _ _ _ ?_).trans ?_; (focus (first | exact Nat.lt_succ_self _ | ((repeat rw [World.size_alloc]); omega) | (simp; done) | (simp; omega) | omega))) | rw [row_drewN] | rw [row_drew])); (first | done | fail))
  have hB0 : Below w.heap.size w (w.alloc (.cells P.cells 24)) := (by (repeat (first | exact Below.refl _ _ | assumption | (refine Below.allocT ?_ _) | refine Below.drew ?_ | refine below_drewN ?_ _ | (refine Below.then ?_ (by assumption)) | (refine Below.setRow ?_ ?_ _; rotate_left; (focus (first | exact Nat.lt_succ_self _ | ((repeat rw [World.size_alloc]); omega) | (simp; done) | (simp; omega) | omega))) | (refine Below.setCell ?_ ?_ _; rotate_left; (focus (first | exact Nat.lt_succ_self _ | ((repeat rw [World.size_alloc]); omega) | (simp; done) | (simp; omega) | omega))) | (refine Below.then' ?_ (by assumption) ?_; rotate_left; (focus (first | exact Nat.lt_succ_self _ | ((repeat rw [World.size_alloc]); omega) | (simp; done) | (simp; omega) | omega))) | fail)); (first | done | fail))
  have HL := Lib.hid (fun W => pleak_any P W)
  cases hr : rightB P
  · have e1 : checkE P = 70 := by simp [checkE, hr]
    have e2 : leakV P = 0 := by simp [leakV, hr]
    rw [e2, e1] at HL
    clear e1 e2 hr
    go_enter Try.func4, Try.ntmps4
    go_wp2_with fail
    generalize w.alloc (.cells P.cells 24) = W at *
    refine (awake07_any _).mono ?_
    rintro e w1 ⟨rfl, hb1⟩
    have r1 := (row_below hb1 (row_lt r0)).trans r0
    have hB1 := Below.then hB0 hb1
    clear r0 hB0 hb1
    go_wp2_with fail
    refine (HL.out _).mono ?_
    rintro e w2 ⟨rfl, hb2⟩
    go_wp2_with fail
    go_ret
    exact ⟨rfl, Below.then hB1 hb2⟩
  · have e1 : checkE P = 0 := by simp [checkE, hr]
    have e2 : leakV P = leakT P := by simp [leakV, hr]
    have hl := leakT_le P
    obtain ⟨q1, q2, q3, q4, q5⟩ := right_facts hr
    have hLk := leakOk_of q1 q2
    have hsc := (scores_facts q2).2.2.2.2.2.2.2.2.2.2
    rw [e2, e1] at HL
    clear e1 e2 hr q1 q2 q3
    by_cases h3 : (3000 : Int) < (leakT P : Int)
    · generalize leakT P = t at *
      clear q5
      go_enter Try.func4, Try.ntmps4
      go_wp2_with fail
      generalize w.alloc (.cells P.cells 24) = W at *
      refine (awake07_any _).mono ?_
      rintro e w1 ⟨rfl, hb1⟩
      have r1 := (row_below hb1 (row_lt r0)).trans r0
      have hB1 := Below.then hB0 hb1
      clear r0 hB0 hb1
      go_wp2_with fail
      refine (HL.out _).mono ?_
      rintro e w2 ⟨rfl, hb2⟩
      go_wp2_with fail
      go_ret
      exact ⟨rfl, Below.then hB1 hb2⟩
    · have HS := Lib.hid (fun j (hj : j ≤ leakT P) => lost_small hLk (by omega) hj)
      have HA := Lib.hid (lost_all hLk q4)
      have HSC : Hid (∀ j, j ≤ leakT P → P.bias * j ≤ P.scoreCap) := Lib.hid fun j hj => Nat.le_trans (Nat.mul_le_mul_left _ hj) q5
      have HLE := Lib.hid (fun j (h0 : 1 ≤ j) (hj : j ≤ leakT P) => loss_le hLk h0 hj)
      have hLB : lossB P ≤ 9223372036854775809 := by unfold lossB; split <;> omega
      obtain ⟨k1, k2, k3, k4, k5, k6, k7, k8⟩ := hLk
      have HLS : Hid (∀ j, lostN P (j + 1) = lostN P j + lossN P (j + 1)) := Lib.hid fun j => rfl
      have HUP : Hid (∀ j, 1 ≤ j → j ≤ leakT P → upV (P.inc * (P.bias * j)) P.quot = lossN P j ∧ upE (P.inc * (P.bias * j)) P.quot = 0) := Lib.hid fun j h0 hj => up_fit (by omega) (by have := HLE.out j h0 hj; unfold lossN at this; omega)
      generalize leakT P = t at *
      clear q5 HLE
      go_enter Try.func4, Try.ntmps4
      go_wp2_with fail
      generalize w.alloc (.cells P.cells 24) = W at *
      refine (awake07_any _).mono ?_
      rintro e w1 ⟨rfl, hb1⟩
      have r1 := (row_below hb1 (row_lt r0)).trans r0
      have hB1 := Below.then hB0 hb1
      clear r0 hB0 hb1
      go_wp2_with fail
      refine (HL.out _).mono ?_
      rintro e w2 ⟨rfl, hb2⟩
      have r2 := (row_below hb2 (row_lt r1)).trans r1
      have hB2 := Below.then hB1 hb2
      clear r1 hB1 hb2
      go_wp2_with fail
      go_loopw [5, 6, 23] (fun lo sc k wr => ∃ j : Nat, j ≤ t ∧ k = .int .i64 j ∧ sc = .int .u64 ((P.bias * j : Nat) : Int) ∧ lo = .int .u64 ((lostN P j : Nat) : Int) ∧ Below w2.heap.size w2 wr) (fun _ _ k _ => t - (intOf k).toNat)
      case atStart => exact ⟨0, by omega, rfl, rfl, rfl, Below.refl _ _⟩
      case round =>
        obtain ⟨j, hj, rfl, rfl, rfl, hB⟩ := hrel
        have r3 := (row_below hB (row_lt r2)).trans r2
        have hc0 : ∀ i, wr.cell? ⟨w.heap.size, i, none⟩ = P.cells[i]? := fun i => row_cell r3 i
        by_cases hlt : j < t
        · obtain ⟨s, hs⟩ : ∃ s, s = P.bias * j := ⟨_, rfl⟩
          obtain ⟨s1, hs1⟩ : ∃ s1, s1 = P.bias * (j + 1) := ⟨_, rfl⟩
          have hss : s1 = s + P.bias := by rw [hs1, hs, Nat.mul_add, Nat.mul_one]
          have hs2 := HSC.out (j + 1) hlt
          rw [← hs1] at hs2
          obtain ⟨u1, u2⟩ := HUP.out (j + 1) (by omega) hlt
          rw [← hs1] at u1 u2
          have HU := Lib.hid (fun W => up_any P.inc s1 P.quot (by omega) (by omega) (by omega) W)
          rw [u1, u2] at HU
          have hl1 := HLS.out j
          have hl2 := HS.out (j + 1) hlt
          rw [hl1] at hl2
          obtain ⟨l, hld⟩ : ∃ l, l = lostN P j := ⟨_, rfl⟩
          obtain ⟨x, hx⟩ : ∃ x, x = lossN P (j + 1) := ⟨_, rfl⟩
          rw [← hld, ← hx] at hl1 hl2
          rw [← hx] at HU
          rw [← hs, ← hld]
          have e1 : (s : Int) + (P.bias : Int) = (s1 : Int) := by omega
          have e2 : ¬ P.scoreCap < s1 := by omega
          have HV := Lib.hid (And.intro hs1 (And.intro hl1 hss))
          clear u1 u2 hl1 hs hs1 hld hx hss
          go_wp2_with fail
          refine (HU.out _).mono ?_
          rintro e w3 ⟨rfl, hb3⟩
          have r4 := (row_below hb3 (row_lt r3)).trans r3
          have hc1 : ∀ i, w3.cell? ⟨w.heap.size, i, none⟩ = P.cells[i]? := fun i => row_cell r4 i
          have hBB := Below.then hB hb3
          clear hc0 hb3
          go_wp2_with fail
          go_roundw
          case rel => exact ⟨j + 1, by omega, by go_num, by rw [HV.out.1], by rw [HV.out.2.1]; go_num, hBB⟩
          case measure => simp [intOf]; omega
        · obtain rfl : j = t := by omega
          have hge := HA.out
          generalize lostN P j = l at *
          have hge' : (P.cap : Int) - (P.floor : Int) ≤ (l : Int) := by omega
          go_wp2_with fail
          go_ret
          exact ⟨rfl, Below.then hB2 hB⟩
end Go.Proofs.Ytecdfphfgaeodaa

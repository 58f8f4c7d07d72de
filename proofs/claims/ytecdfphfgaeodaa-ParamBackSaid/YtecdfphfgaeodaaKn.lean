/-
  Knuth's division of two digits by one: plain arithmetic, no program in sight.
-/
namespace Go.Proofs.Ytecdfphfgaeodaa
/-! Knuth's step: the quotient of U * B + u by Y = y1 * B + y0, out of U by y1. -/
theorem kn_lt {U u Y B : Nat} (hU : U < Y) (hu : u < B) : (U * B + u) / Y < B := by
  have hY : 0 < Y := by omega
  rw [Nat.div_lt_iff_lt_mul hY]
  have : (U + 1) * B ≤ Y * B := Nat.mul_le_mul_right B hU
  rw [Nat.add_mul, Nat.mul_comm Y B] at this
  omega
theorem kn_start {U u y1 y0 B : Nat} (hy : 0 < y1) (hu : u < B) : (U * B + u) / (y1 * B + y0) ≤ U / y1 := by
  have hB : 0 < B := by omega
  have h1 : (U * B + u) / (y1 * B + y0) ≤ (U * B + u) / (y1 * B) := Nat.div_le_div_left (by omega) (Nat.mul_pos hy hB)
  have h2 : (U * B + u) / (y1 * B) = U / y1 := by
    rw [Nat.mul_comm y1 B, ← Nat.div_div_eq_div_mul, Nat.mul_comm U B, Nat.mul_add_div hB, Nat.div_eq_of_lt hu, Nat.add_zero]
  omega
theorem kn_high {U y1 y0 B : Nat} (hU : U < y1 * B + y0) (h1 : B ≤ 2 * y1) (h0 : y0 < B) (hy : 0 < y1) : U / y1 ≤ B + 1 := by
  have : U / y1 < B + 2 := by
    rw [Nat.div_lt_iff_lt_mul hy]
    have e : (B + 2) * y1 = y1 * B + 2 * y1 := by rw [Nat.add_mul, Nat.mul_comm B y1]
    omega
  omega
/-- The test says yes: the guess is too great. -/
theorem kn_more {U u y1 y0 B q r : Nat} (hqr : q * y1 + r = U) (ht : r * B + u < q * y0) : (U * B + u) / (y1 * B + y0) < q := by
  have hY : 0 < y1 * B + y0 := by
    rcases Nat.eq_zero_or_pos y0 with h | h
    · subst h; simp at ht
    · omega
  rw [Nat.div_lt_iff_lt_mul hY, ← hqr, Nat.add_mul, Nat.mul_add, ← Nat.mul_assoc]
  omega
/-- The test says no: the guess is not too great. -/
theorem kn_less {U u y1 y0 B q r : Nat} (hqr : q * y1 + r = U) (hY : 0 < y1 * B + y0) (ht : q * y0 ≤ r * B + u) : q ≤ (U * B + u) / (y1 * B + y0) := by
  rw [Nat.le_div_iff_mul_le hY, ← hqr, Nat.add_mul, Nat.mul_add, ← Nat.mul_assoc]
  omega
theorem kn_step {U y1 q r : Nat} (h : q * y1 + r = U) (hq : 0 < q) : (q - 1) * y1 + (r + y1) = U := by
  obtain ⟨k, rfl⟩ : ∃ k, q = k + 1 := ⟨q - 1, by omega⟩
  rw [Nat.add_mul] at h
  simp only [Nat.add_sub_cancel]
  omega
/-- What is left. -/
theorem kn_rest {N Y : Nat} (_hY : 0 < Y) : N - N / Y * Y = N % Y := by
  have := Nat.div_add_mod N Y
  rw [Nat.mul_comm] at this; omega
/-- Two steps make the division of a number of two digits: of (H * B + u1) * B + u0 by Y. -/
theorem kn_two {H u1 u0 Y B : Nat} (hY : 0 < Y) : ((H * B + u1) * B + u0) / Y = (H * B + u1) / Y * B + ((H * B + u1) % Y * B + u0) / Y ∧ ((H * B + u1) * B + u0) % Y = ((H * B + u1) % Y * B + u0) % Y := by
  generalize H * B + u1 = D
  have h := Nat.div_add_mod D Y
  have e : D * B + u0 = (D % Y * B + u0) + Y * (D / Y * B) := by
    conv => lhs; rw [← h]
    rw [Nat.add_mul, Nat.mul_assoc]; omega
  constructor
  · rw [e, Nat.add_mul_div_left _ _ hY, Nat.add_comm]
  · rw [e, Nat.add_mul_mod_self_left]
/-- The shift: a division of numbers that are both moved up. -/
theorem kn_shift {N y S : Nat} (hS : 0 < S) : (N * S) / (y * S) = N / y ∧ (N * S) % (y * S) / S = N % y := by
  constructor
  · exact Nat.mul_div_mul_right _ _ hS
  · rw [Nat.mul_mod_mul_right, Nat.mul_div_cancel _ hS]
/-- The early way out: the guess is right. -/
theorem kn_break {U u y1 y0 B Q q r : Nat} (hB : 0 < B) (hqr : q * y1 + r = U) (hq : 0 < q) (hqB : q ≤ B + 1) (h0 : y0 < B) (hy : 0 < y1) (hQ : Q = (U * B + u) / (y1 * B + y0)) (hlt : Q < q) (hr : B ≤ r + y1) : q - 1 = Q := by
  have h1 := kn_step hqr hq
  have h2 : (q - 1) * y0 ≤ (r + y1) * B + u := by
    have a1 : (q - 1) * y0 ≤ B * B := Nat.mul_le_mul (by omega) (by omega)
    have a2 : B * B ≤ (r + y1) * B := Nat.mul_le_mul_right B hr
    omega
  have h3 := kn_less h1 (by have := Nat.mul_pos hy hB; omega) h2
  omega
end Go.Proofs.Ytecdfphfgaeodaa

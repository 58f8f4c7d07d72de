/-
  The plain law of coded numbers: their bytes, and what is read of bytes.
-/
import Derived.Test.YtkkncijbedfdfaaBytes
namespace Go.Proofs.Ytkkncijbedfdfaa
open Go.RowKit
set_option linter.unusedVariables false

/-- A number's bytes. -/
def formN (n : Nat) : List Nat := if h : n < 128 then [n] else (n % 128 + 128) :: formN (n / 128)
termination_by n
decreasing_by omega
theorem formN_low {n : Nat} (h : n < 128) : formN n = [n] := by rw [formN, dif_pos h]
theorem formN_high {n : Nat} (h : 128 ≤ n) : formN n = (n % 128 + 128) :: formN (n / 128) := by rw [formN, dif_neg (by omega)]
theorem formN_mem (n : Nat) : ∀ x ∈ formN n, x < 256 := by
  induction n using Nat.strongRecOn with
  | ind n ih =>
    intro x hx
    by_cases h : n < 128
    · rw [formN_low h] at hx; simp at hx; omega
    · rw [formN_high (by omega)] at hx
      rcases List.mem_cons.1 hx with rfl | hx
      · omega
      · exact ih (n / 128) (by omega) x hx
theorem formN_ok (n : Nat) : bytesOk (formN n) := .of (formN_mem n)
theorem formN_pos (n : Nat) : 0 < (formN n).length := by
  rw [formN]; split <;> simp
theorem formN_len (k : Nat) : ∀ n, n < 128 ^ (k + 1) → (formN n).length ≤ k + 1 := by
  induction k with
  | zero => intro n h; rw [formN_low (by omega)]; simp
  | succ k ih =>
    intro n h
    by_cases hn : n < 128
    · rw [formN_low hn]; simp
    · rw [formN_high (by omega)]
      have := ih (n / 128) (by rw [Nat.pow_succ] at h; omega)
      simp; omega
theorem formN_len10 {n : Nat} (h : n < 18446744073709551616) : (formN n).length ≤ 10 := formN_len 9 n (by omega)
/-- The number that bytes begin with: the number, how many bytes, the failure. -/
def scanL : List Nat → Nat → Nat → Nat × Nat × Int
  | [], _, _ => (0, 0, 50)
  | b :: r, i, acc => if (i = 9 ∧ 1 < b) ∨ (b = 0 ∧ 0 < i) then (0, 0, 51) else if b < 128 then (acc + b % 128 * 128 ^ i, i + 1, 0) else scanL r (i + 1) (acc + b % 128 * 128 ^ i)
theorem scanL_nil (i acc : Nat) : scanL [] i acc = (0, 0, 50) := rfl
theorem scanL_bad {b : Nat} {r : List Nat} {i acc : Nat} (h : (i = 9 ∧ 1 < b) ∨ (b = 0 ∧ 0 < i)) : scanL (b :: r) i acc = (0, 0, 51) := by simp only [scanL, if_pos h]
theorem scanL_end {b : Nat} {r : List Nat} {i acc : Nat} (h : ¬ ((i = 9 ∧ 1 < b) ∨ (b = 0 ∧ 0 < i))) (hb : b < 128) : scanL (b :: r) i acc = (acc + b % 128 * 128 ^ i, i + 1, 0) := by simp only [scanL, if_neg h, if_pos hb]
theorem scanL_more {b : Nat} {r : List Nat} {i acc : Nat} (h : ¬ ((i = 9 ∧ 1 < b) ∨ (b = 0 ∧ 0 < i))) (hb : ¬ b < 128) : scanL (b :: r) i acc = scanL r (i + 1) (acc + b % 128 * 128 ^ i) := by simp only [scanL, if_neg h, if_neg hb]
theorem scanL_cases (l : List Nat) : ∀ i acc, (scanL l i acc).2.2 = 0 ∨ ((scanL l i acc).2.2 = 50 ∧ (scanL l i acc).1 = 0 ∧ (scanL l i acc).2.1 = 0) ∨ ((scanL l i acc).2.2 = 51 ∧ (scanL l i acc).1 = 0 ∧ (scanL l i acc).2.1 = 0) := by
  induction l with
  | nil => intro i acc; exact .inr (.inl ⟨rfl, rfl, rfl⟩)
  | cons b r ih =>
    intro i acc
    by_cases h : (i = 9 ∧ 1 < b) ∨ (b = 0 ∧ 0 < i)
    · rw [scanL_bad h]; exact .inr (.inr ⟨rfl, rfl, rfl⟩)
    · by_cases hb : b < 128
      · rw [scanL_end h hb]; exact .inl rfl
      · rw [scanL_more h hb]; exact ih _ _
theorem pow128_bound {i acc b : Nat} (hi : i ≤ 9) (ha : acc < 128 ^ i) (hb : ¬ (i = 9 ∧ 1 < b)) : acc + b % 128 * 128 ^ i < 128 ^ (i + 1) ∧ acc + b % 128 * 128 ^ i < 18446744073709551616 := by
  have h1 : b % 128 * 128 ^ i ≤ 127 * 128 ^ i := Nat.mul_le_mul_right _ (by omega)
  refine ⟨by rw [Nat.pow_succ]; omega, ?_⟩
  by_cases h9 : i = 9
  · subst h9
    have h2 : b % 128 ≤ 1 := by omega
    have h3 : b % 128 * 128 ^ 9 ≤ 1 * 128 ^ 9 := Nat.mul_le_mul_right _ h2
    have h4 : (128 : Nat) ^ 9 = 9223372036854775808 := by decide
    rw [h4] at *
    omega
  · have h2 : (128 : Nat) ^ i ≤ 128 ^ 8 := Nat.pow_le_pow_right (by omega) (by omega)
    have h4 : (128 : Nat) ^ 8 = 72057594037927936 := by decide
    rw [h4] at h2
    omega
theorem scanL_lt (l : List Nat) : ∀ i acc, i ≤ 9 → acc < 128 ^ i → (scanL l i acc).1 < 18446744073709551616 ∧ (scanL l i acc).2.1 ≤ i + l.length := by
  induction l with
  | nil => intro i acc _ _; exact ⟨by simp [scanL], by simp [scanL]⟩
  | cons b r ih =>
    intro i acc hi ha
    by_cases h : (i = 9 ∧ 1 < b) ∨ (b = 0 ∧ 0 < i)
    · rw [scanL_bad h]; exact ⟨by simp, by simp⟩
    · have hp := pow128_bound hi ha (b := b) (fun h' => h (.inl h'))
      by_cases hb : b < 128
      · rw [scanL_end h hb]; exact ⟨hp.2, by simp only [List.length_cons]; omega⟩
      · rw [scanL_more h hb]
        have hi8 : i + 1 ≤ 9 := by
          rcases Nat.lt_or_ge i 9 with h1 | h1
          · omega
          · exact absurd (.inl ⟨by omega, by omega⟩) h
        have := ih (i + 1) _ hi8 hp.1
        exact ⟨this.1, by simp; omega⟩
theorem mul128_bound {m i : Nat} : m % 128 * 128 ^ i + m / 128 * 128 ^ (i + 1) = m * 128 ^ i := by
  have h := Nat.div_add_mod m 128
  have e1 : m / 128 * 128 ^ (i + 1) = 128 * (m / 128) * 128 ^ i := by rw [Nat.pow_succ, Nat.mul_comm (128 ^ i) 128, ← Nat.mul_assoc, Nat.mul_comm (m / 128) 128]
  rw [e1, ← Nat.add_mul, Nat.add_comm, h]
/-- What is written for a number is read as that number, whatever stands behind it. -/
theorem scanL_form (m : Nat) : ∀ (r : List Nat) (i acc : Nat), acc + m * 128 ^ i < 18446744073709551616 → (i = 0 ∨ 0 < m) → scanL (formN m ++ r) i acc = (acc + m * 128 ^ i, i + (formN m).length, 0) := by
  have h9 : (128 : Nat) ^ 9 = 9223372036854775808 := by decide
  induction m using Nat.strongRecOn with
  | ind m ih =>
    intro r i acc h hi
    by_cases hm : m < 128
    · rw [formN_low hm, List.singleton_append, scanL_end ?_ hm, Nat.mod_eq_of_lt hm]
      · simp
      · rintro (⟨rfl, h1⟩ | ⟨rfl, h1⟩)
        · have : 2 * 128 ^ 9 ≤ m * 128 ^ 9 := Nat.mul_le_mul_right _ (by omega)
          rw [h9] at *; omega
        · omega
    · have e := mul128_bound (m := m) (i := i)
      rw [formN_high (by omega), List.cons_append, scanL_more ?_ (by omega), show (m % 128 + 128) % 128 = m % 128 by omega]
      · rw [ih (m / 128) (by omega) r (i + 1) _ (by omega) (.inr (by omega))]
        simp only [List.length_cons, Prod.mk.injEq, and_true]
        omega
      · rintro (⟨rfl, _⟩ | ⟨h1, _⟩)
        · have : 128 * 128 ^ 9 ≤ m * 128 ^ 9 := Nat.mul_le_mul_right _ (by omega)
          rw [h9] at *; omega
        · omega
/-- .. and cut off it isn't all there. -/
theorem scanL_cut (m : Nat) : ∀ (j i acc : Nat), acc + m * 128 ^ i < 18446744073709551616 → (i = 0 ∨ 0 < m) → j < (formN m).length → scanL ((formN m).take j) i acc = (0, 0, 50) := by
  have h9 : (128 : Nat) ^ 9 = 9223372036854775808 := by decide
  induction m using Nat.strongRecOn with
  | ind m ih =>
    intro j i acc h hi hj
    by_cases hm : m < 128
    · rw [formN_low hm] at hj ⊢
      obtain rfl : j = 0 := by simpa using hj
      rfl
    · cases j with
      | zero => rfl
      | succ j =>
        have e := mul128_bound (m := m) (i := i)
        rw [formN_high (by omega)] at hj ⊢
        rw [List.take_succ_cons, scanL_more ?_ (by omega), show (m % 128 + 128) % 128 = m % 128 by omega]
        · exact ih (m / 128) (by omega) j (i + 1) _ (by omega) (.inr (by omega)) (by simpa using hj)
        · rintro (⟨rfl, _⟩ | ⟨h1, _⟩)
          · have : 128 * 128 ^ 9 ≤ m * 128 ^ 9 := Nat.mul_le_mul_right _ (by omega)
            rw [h9] at *; omega
          · omega
/-- What is read as a number has just the bytes that are written for it. -/
theorem scanL_back (l : List Nat) : ∀ (i acc n k : Nat), (∀ x ∈ l, x < 256) → scanL l i acc = (n, k, 0) → ∃ m j, k = i + j ∧ 0 < j ∧ j ≤ l.length ∧ formN m = l.take j ∧ n = acc + m * 128 ^ i ∧ (i = 0 ∨ 0 < m) := by
  induction l with
  | nil => intro i acc n k _ h; simp [scanL] at h
  | cons b r ih =>
    intro i acc n k hb h
    by_cases hc : (i = 9 ∧ 1 < b) ∨ (b = 0 ∧ 0 < i)
    · rw [scanL_bad hc] at h; simp at h
    · by_cases hlt : b < 128
      · rw [scanL_end hc hlt, Nat.mod_eq_of_lt hlt] at h
        simp only [Prod.mk.injEq, and_true] at h
        refine ⟨b, 1, h.2.symm, by omega, by simp, by rw [formN_low hlt]; rfl, h.1.symm, ?_⟩
        rcases Nat.eq_zero_or_pos i with h1 | h1
        · exact .inl h1
        · exact .inr (Nat.pos_of_ne_zero fun h2 => hc (.inr ⟨h2, h1⟩))
      · rw [scanL_more hc hlt] at h
        obtain ⟨m, j, rfl, h1, h2, h3, h4, h5⟩ := ih _ _ _ _ (fun x hx => hb x (List.mem_cons_of_mem _ hx)) h
        have hb' := hb b (List.mem_cons_self ..)
        have hm : 0 < m := by omega
        refine ⟨b % 128 + 128 * m, j + 1, by omega, by omega, by simp; omega, ?_, ?_, .inr (by omega)⟩
        · rw [formN_high (by omega), List.take_succ_cons, ← h3, show (b % 128 + 128 * m) % 128 + 128 = b by omega, show (b % 128 + 128 * m) / 128 = m by omega]
        · rw [h4, Nat.pow_succ, Nat.add_mul]
          have : 128 * m * 128 ^ i = m * (128 ^ i * 128) := by rw [Nat.mul_comm (128 ^ i) 128, ← Nat.mul_assoc, Nat.mul_comm m 128]
          omega
/-! ### What a writer holds, and what a reader does -/
structure Wt where
  xs : List Nat
  e : Int
structure Wt.Ok (s : Wt) : Prop where
  ok : bytesOk s.xs
  len : s.xs.length ≤ 131072
  lo : 0 ≤ s.e
  hi : s.e ≤ 3
def Wt.put (s : Wt) (b : List Nat) : Wt := if s.e = 0 then if 131072 < s.xs.length + b.length then ⟨s.xs, 3⟩ else ⟨s.xs ++ b, 0⟩ else s
def Wt.num (s : Wt) (n : Nat) : Wt := s.put (formN n)
def Wt.int (s : Wt) (n : Int) : Wt := if n < 0 then ⟨s.xs, if s.e = 0 then 2 else s.e⟩ else s.num n.toNat
def Wt.raw (s : Wt) (b : List Nat) : Wt := s.put (formN b.length ++ b)
theorem Wt.put_bad {s : Wt} {b : List Nat} (h : s.e ≠ 0) : s.put b = s := by unfold Wt.put; rw [if_neg h]
theorem Wt.put_big {s : Wt} {b : List Nat} (h : s.e = 0) (hl : 131072 < s.xs.length + b.length) : s.put b = ⟨s.xs, 3⟩ := by unfold Wt.put; rw [if_pos h, if_pos hl]
theorem Wt.put_fit {s : Wt} {b : List Nat} (h : s.e = 0) (hl : s.xs.length + b.length ≤ 131072) : s.put b = ⟨s.xs ++ b, 0⟩ := by unfold Wt.put; rw [if_pos h, if_neg (by omega)]
theorem Wt.Ok.put {s : Wt} (h : s.Ok) {b : List Nat} (hb : bytesOk b) : (s.put b).Ok := by
  by_cases h0 : s.e = 0
  · by_cases h1 : 131072 < s.xs.length + b.length
    · rw [Wt.put_big h0 h1]; exact ⟨h.ok, h.len, by simp, by simp⟩
    · rw [Wt.put_fit h0 (by omega)]; exact ⟨h.ok.append hb, by simp; omega, by simp, by simp⟩
  · rw [Wt.put_bad h0]; exact h
theorem Wt.Ok.num {s : Wt} (h : s.Ok) (n : Nat) : (s.num n).Ok := h.put (formN_ok n)
theorem Wt.Ok.int {s : Wt} (h : s.Ok) (n : Int) : (s.int n).Ok := by
  unfold Wt.int
  split
  · refine ⟨h.ok, h.len, ?_, ?_⟩
    · have := h.lo; simp only []; split <;> omega
    · have := h.hi; simp only []; split <;> omega
  · exact h.num _
theorem Wt.Ok.raw {s : Wt} (h : s.Ok) {b : List Nat} (hb : bytesOk b) : (s.raw b).Ok := h.put ((formN_ok _).append hb)
def Wt.none : Wt := ⟨[], 0⟩
theorem Wt.none_ok : Wt.none.Ok := ⟨bytesOk.nil, by simp [Wt.none], by simp [Wt.none], by simp [Wt.none]⟩

structure Rd where
  xs : List Nat
  at_ : Nat
  e : Int
structure Rd.Ok (s : Rd) : Prop where
  ok : bytesOk s.xs
  at_ : s.at_ ≤ s.xs.length
  len : s.xs.length ≤ 9223372036854775000
  lo : 0 ≤ s.e
  hi : s.e ≤ 60
def Rd.scan (s : Rd) : Nat × Nat × Int := scanL (s.xs.drop s.at_) 0 0
def Rd.num (s : Rd) (most : Nat) : Nat × Rd := if s.e = 0 then if s.scan.2.2 = 0 then if most < s.scan.1 then (0, ⟨s.xs, s.at_, 51⟩) else (s.scan.1, ⟨s.xs, s.at_ + s.scan.2.1, 0⟩) else (0, ⟨s.xs, s.at_, s.scan.2.2⟩) else (0, s)
def Rd.int (s : Rd) (most : Int) : Nat × Rd := if 0 ≤ most then s.num most.toNat else if s.e = 0 then (0, ⟨s.xs, s.at_, if s.scan.2.2 = 0 then 51 else s.scan.2.2⟩) else (0, s)
def Rd.raw (s : Rd) (most : Int) : List Nat × Rd := if s.e = 0 then if (s.int most).2.e = 0 then if (s.int most).2.xs.length - (s.int most).2.at_ < (s.int most).1 then ([], ⟨s.xs, s.at_, 50⟩) else (((s.int most).2.xs.drop (s.int most).2.at_).take (s.int most).1, ⟨s.xs, (s.int most).2.at_ + (s.int most).1, 0⟩) else ([], (s.int most).2) else ([], s)
def Rd.done (s : Rd) : Int := if s.e = 0 ∧ s.at_ < s.xs.length then 52 else s.e
theorem Rd.scan_cases (s : Rd) : s.scan.2.2 = 0 ∨ (s.scan.2.2 = 50 ∧ s.scan.1 = 0 ∧ s.scan.2.1 = 0) ∨ (s.scan.2.2 = 51 ∧ s.scan.1 = 0 ∧ s.scan.2.1 = 0) := scanL_cases _ _ _
theorem Rd.scan_lt (s : Rd) : s.scan.1 < 18446744073709551616 ∧ s.scan.2.1 ≤ s.xs.length - s.at_ := by
  have := scanL_lt (s.xs.drop s.at_) 0 0 (by omega) (by omega)
  rw [List.length_drop, Nat.zero_add] at this
  exact this
theorem Rd.num_bad {s : Rd} (h : s.e ≠ 0) (most : Nat) : s.num most = (0, s) := by unfold Rd.num; rw [if_neg h]
theorem Rd.num_fail {s : Rd} (h : s.e = 0) (h1 : s.scan.2.2 ≠ 0) (most : Nat) : s.num most = (0, ⟨s.xs, s.at_, s.scan.2.2⟩) := by unfold Rd.num; rw [if_pos h, if_neg h1]
theorem Rd.num_more {s : Rd} (h : s.e = 0) (h1 : s.scan.2.2 = 0) {most : Nat} (h2 : most < s.scan.1) : s.num most = (0, ⟨s.xs, s.at_, 51⟩) := by unfold Rd.num; rw [if_pos h, if_pos h1, if_pos h2]
theorem Rd.num_good {s : Rd} (h : s.e = 0) (h1 : s.scan.2.2 = 0) {most : Nat} (h2 : s.scan.1 ≤ most) : s.num most = (s.scan.1, ⟨s.xs, s.at_ + s.scan.2.1, 0⟩) := by unfold Rd.num; rw [if_pos h, if_pos h1, if_neg (by omega)]
theorem Rd.num_xs (s : Rd) (most : Nat) : (s.num most).2.xs = s.xs := by unfold Rd.num; split <;> (try split) <;> (try split) <;> rfl
theorem Rd.num_le (s : Rd) (most : Nat) : (s.num most).1 ≤ most := by
  unfold Rd.num
  split
  · split
    · split
      · simp
      · simp only []; omega
    · simp
  · simp
theorem Rd.Ok.num {s : Rd} (h : s.Ok) (most : Nat) : (s.num most).2.Ok := by
  have h1 := s.scan_cases
  have h2 := s.scan_lt
  by_cases h0 : s.e = 0
  · by_cases h3 : s.scan.2.2 = 0
    · by_cases h4 : most < s.scan.1
      · rw [Rd.num_more h0 h3 h4]; exact ⟨h.ok, h.at_, h.len, by simp, by simp⟩
      · rw [Rd.num_good h0 h3 (by omega)]; exact ⟨h.ok, by have := h.at_; show s.at_ + s.scan.2.1 ≤ s.xs.length; omega, h.len, by simp, by simp⟩
    · rw [Rd.num_fail h0 h3]
      exact ⟨h.ok, h.at_, h.len, by show 0 ≤ s.scan.2.2; omega, by show s.scan.2.2 ≤ 60; omega⟩
  · rw [Rd.num_bad h0]; exact h
theorem Rd.Ok.int {s : Rd} (h : s.Ok) (most : Int) : (s.int most).2.Ok := by
  have h1 := s.scan_cases
  unfold Rd.int
  split
  · exact h.num _
  · split
    · exact ⟨h.ok, h.at_, h.len, by show 0 ≤ if s.scan.2.2 = 0 then (51 : Int) else s.scan.2.2; split <;> omega, by show (if s.scan.2.2 = 0 then (51 : Int) else s.scan.2.2) ≤ 60; split <;> omega⟩
    · exact h
theorem Rd.int_xs (s : Rd) (most : Int) : (s.int most).2.xs = s.xs := by
  unfold Rd.int
  split
  · exact s.num_xs _
  · split <;> rfl
theorem Rd.Ok.raw {s : Rd} (h : s.Ok) (most : Int) : (s.raw most).2.Ok := by
  have hi := h.int most
  have hx := s.int_xs most
  unfold Rd.raw
  split
  · split
    · split
      · exact ⟨h.ok, h.at_, h.len, by simp, by simp⟩
      · rename_i h1
        refine ⟨h.ok, ?_, h.len, by simp, by simp⟩
        have := hi.at_
        rw [hx] at this h1
        show (s.int most).2.at_ + (s.int most).1 ≤ s.xs.length
        omega
    · exact hi
  · exact h
theorem Rd.raw_xs (s : Rd) (most : Int) : (s.raw most).2.xs = s.xs := by
  unfold Rd.raw
  split
  · split
    · split <;> rfl
    · exact s.int_xs _
  · rfl
end Go.Proofs.Ytkkncijbedfdfaa

/-
  The plain law of ShareWhole and ShareAll: the parts together with what is left are the total, they grow with the weights, and less is left than there are weights above 0.
-/
import Derived.Test.YtkfbnaafpikgfaaShare2
namespace Go.Proofs.Ytkfbnaafpikgfaa
open Go.RowKit
set_option linter.unusedVariables false

/-- How many of the first i weights are above 0. -/
def posI (xs : List Nat) : Nat → Nat
  | 0 => 0
  | i + 1 => posI xs i + if 0 < xs.getD i 0 then 1 else 0
/-- What is left of t after the first i parts. -/
def leftI (t : Nat) (l : List Nat) : Nat → Nat
  | 0 => t
  | i + 1 => leftI t l i - l.getD i 0
def sumI (l : List Nat) : Nat → Nat
  | 0 => 0
  | i + 1 => sumI l i + l.getD i 0
theorem sumI_cons (a : Nat) (l : List Nat) : ∀ i, sumI (a :: l) (i + 1) = a + sumI l i
  | 0 => by simp [sumI]
  | i + 1 => by
    rw [sumI, sumI_cons a l i, sumI]
    simp; omega
theorem sumI_all : ∀ (l : List Nat), sumI l l.length = total l
  | [] => rfl
  | a :: l => by rw [List.length_cons, sumI_cons, sumI_all l, total_cons]
theorem sumI_mono (l : List Nat) {i j : Nat} (h : i ≤ j) : sumI l i ≤ sumI l j := by
  induction h with
  | refl => exact Nat.le_refl _
  | step _ ih => rw [sumI]; omega
theorem leftI_sum {t : Nat} {l : List Nat} (h : total l ≤ t) : ∀ i, i ≤ l.length → leftI t l i + sumI l i = t
  | 0, _ => rfl
  | i + 1, hi => by
    have h1 := leftI_sum h i (by omega)
    have h2 := sumI_mono l hi
    rw [sumI_all] at h2
    rw [sumI] at h2 ⊢
    rw [leftI]; omega
theorem leftI_part {t : Nat} {l : List Nat} (h : total l ≤ t) {i : Nat} (hi : i < l.length) : l.getD i 0 ≤ leftI t l i := by
  have h1 := leftI_sum h i (by omega)
  have h2 := sumI_mono l (show i + 1 ≤ l.length from hi)
  rw [sumI_all, sumI] at h2
  omega
theorem leftI_all {t : Nat} {l : List Nat} (h : total l ≤ t) : leftI t l l.length = t - total l := by
  have h1 := leftI_sum h l.length (Nat.le_refl _)
  rw [sumI_all] at h1
  omega
theorem leftI_le (t : Nat) (l : List Nat) : ∀ i, leftI t l i ≤ t
  | 0 => Nat.le_refl _
  | i + 1 => Nat.le_trans (Nat.sub_le _ _) (leftI_le t l i)
theorem posI_le (xs : List Nat) : ∀ i, posI xs i ≤ i
  | 0 => Nat.le_refl _
  | i + 1 => by have := posI_le xs i; rw [posI]; split <;> omega
theorem partsN_at (t : Nat) (xs : List Nat) (i : Nat) : (partsN t xs).getD i 0 = partN t (total xs) (xs.getD i 0) := by
  unfold partsN
  simp only [List.getD_eq_getElem?_getD, List.getElem?_map]
  cases xs[i]? with
  | none => simp [partN]
  | some a => simp
theorem partN_zero (t W : Nat) : partN t W 0 = 0 := by unfold partN; split <;> simp
theorem partN_mono (t W : Nat) {x y : Nat} (h : x ≤ y) : partN t W x ≤ partN t W y := by
  unfold partN; split
  · exact Nat.le_refl _
  · exact Nat.div_le_div_right (Nat.mul_le_mul_left t h)
theorem partN_low {t W x : Nat} (hW : 0 < W) : t * x ≤ partN t W x * W + if 0 < x then W - 1 else 0 := by
  unfold partN; rw [if_neg (by omega)]
  split
  · have h1 := Nat.div_add_mod (t * x) W
    have h2 := Nat.mod_lt (t * x) hW
    rw [Nat.mul_comm] at h1
    omega
  · rename_i h; rw [show x = 0 by omega]; simp
theorem low_sum (t : Nat) (xs : List Nat) (hW : 0 < total xs) : ∀ i, t * sumI xs i ≤ sumI (partsN t xs) i * total xs + posI xs i * (total xs - 1)
  | 0 => by simp [sumI]
  | i + 1 => by
    have h1 := low_sum t xs hW i
    have h2 := partN_low (t := t) (x := xs.getD i 0) hW
    rw [sumI, sumI, posI, partsN_at, Nat.mul_add, Nat.add_mul, Nat.add_mul]
    split
    · rename_i h; rw [if_pos h] at h2; rw [Nat.one_mul]; omega
    · rename_i h; rw [if_neg h] at h2; rw [Nat.zero_mul]; omega
theorem posI_none {xs : List Nat} (h : total xs = 0) : ∀ i, posI xs i = 0
  | 0 => rfl
  | i + 1 => by
    have h1 : xs.getD i 0 ≤ total xs := getD_le_total
    rw [posI, posI_none h i, if_neg (by omega)]
theorem rest_none {t : Nat} {xs : List Nat} (h : total xs = 0) : t - total (partsN t xs) = t := by
  have : ∀ i, sumI (partsN t xs) i = 0 := fun i => by
    induction i with
    | zero => rfl
    | succ i ih => rw [sumI, ih, partsN_at, partN, if_pos h]
  have := this (partsN t xs).length
  rw [sumI_all] at this
  omega
theorem posI_pos {xs : List Nat} (hW : 0 < total xs) : 0 < posI xs xs.length := by
  apply Nat.pos_of_ne_zero
  intro h0
  have hz : ∀ i, i ≤ xs.length → sumI xs i = 0 ∧ posI xs i = 0 → True := fun _ _ _ => trivial
  have key : ∀ i, posI xs i = 0 → sumI xs i = 0 := fun i => by
    induction i with
    | zero => intro _; rfl
    | succ i ih =>
      intro h
      rw [posI] at h
      split at h
      · omega
      · rename_i h'; rw [sumI, ih (by omega)]; omega
  have := key _ h0
  rw [sumI_all] at this
  omega
theorem rest_some {t : Nat} {xs : List Nat} (hW : 0 < total xs) : t - total (partsN t xs) < posI xs xs.length := by
  have h1 := low_sum t xs hW xs.length
  have hl : (partsN t xs).length = xs.length := by simp [partsN]
  have hs : sumI (partsN t xs) xs.length = total (partsN t xs) := by rw [← hl]; exact sumI_all _
  rw [sumI_all, hs] at h1
  have hp := posI_pos hW
  generalize posI xs xs.length = p at *
  generalize total (partsN t xs) = s at *
  generalize total xs = W at *
  have h2 : p * (W - 1) + p = p * W := by
    obtain ⟨k, rfl⟩ : ∃ k, W = k + 1 := ⟨W - 1, by omega⟩
    simp [Nat.mul_add]
  have h3 : t * W < (s + p) * W := by rw [Nat.add_mul]; omega
  have := Nat.lt_of_mul_lt_mul_right h3
  omega
end Go.Proofs.Ytkfbnaafpikgfaa

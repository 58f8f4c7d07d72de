/-
  A bit of bytes set: bits.Set, bits.Size and bits.Check at 128; the reference's Pack, Right and with; their plain law.
-/
import Derived.Test.YtnakkjgnjffkpaaBits6
import Derived.Test.YtnakkjgnjffkpaaCoder
import Derived.Test.YtnakkjgnjffkpaaOwnC
namespace Go.Proofs.Ytnakkjgnjffkpaa
open Go.RowKit
set_option linter.unusedVariables false

/-! ### The plain law -/
/-- Bytes with bit k set. -/
def setB (bs : List Nat) (k : Nat) : List Nat := bs.set (k / 8) (bs.getD (k / 8) 0 ||| 2 ^ (k % 8))
theorem setB_len (bs : List Nat) (k : Nat) : (setB bs k).length = bs.length := List.length_set ..
theorem or_lt {x r : Nat} (hx : x < 256) (hr : r < 8) : x ||| 2 ^ r < 256 := Nat.or_lt_two_pow (n := 8) hx (Nat.pow_lt_pow_right (by decide) hr)
theorem setB_ok {bs : List Nat} (h : bytesOk bs) (k : Nat) : bytesOk (setB bs k) := .of fun x hx => by
  rcases List.mem_or_eq_of_mem_set hx with hx | rfl
  · exact h.mem x hx
  · exact or_lt (h _) (Nat.mod_lt _ (by omega))
/-- A number of bits, the lowest first. -/
def valB : List Bool → Nat
  | [] => 0
  | b :: r => b.toNat + 2 * valB r
theorem valB_lt : ∀ l : List Bool, valB l < 2 ^ l.length
  | [] => by simp [valB]
  | b :: r => by
    have := valB_lt r
    have hb : b.toNat ≤ 1 := by cases b <;> simp
    rw [valB, List.length_cons, Nat.pow_succ]; omega
/-- What Pack has behind bit i, from the end. -/
def packAt (l : List Bool) (i j : Nat) : Nat := valB ((l.drop (max i (8 * j))).take (8 * j + 8 - max i (8 * j)))
def packN (l : List Bool) (n i : Nat) : List Nat := (List.range n).map (packAt l i)
theorem packN_len (l : List Bool) (n i : Nat) : (packN l n i).length = n := by simp [packN]
theorem packN_at (l : List Bool) (n i j : Nat) (h : j < n) : (packN l n i).getD j 0 = packAt l i j := by
  rw [List.getD_eq_getElem?_getD]
  unfold packN
  rw [List.getElem?_map, List.getElem?_range h]; rfl
theorem packAt_end (l : List Bool) (j : Nat) : packAt l l.length j = 0 := by
  unfold packAt
  rw [List.drop_eq_nil_of_le (by omega)]; simp [valB]
theorem packAt_far {l : List Bool} {i j : Nat} (h : j ≠ i / 8) : packAt l i j = packAt l (i + 1) j := by
  unfold packAt
  by_cases h1 : i < 8 * j
  · rw [show max i (8 * j) = 8 * j by omega, show max (i + 1) (8 * j) = 8 * j by omega]
  · have h2 : 8 * j + 8 ≤ i := by omega
    rw [show 8 * j + 8 - max i (8 * j) = 0 by omega, show 8 * j + 8 - max (i + 1) (8 * j) = 0 by omega]; simp
theorem packAt_here {l : List Bool} {i : Nat} {b : Bool} (hb : l[i]? = some b) : packAt l i (i / 8) = b.toNat + 2 * packAt l (i + 1) (i / 8) := by
  obtain ⟨hi, rfl⟩ := List.getElem?_eq_some_iff.1 hb
  unfold packAt
  rw [show max i (8 * (i / 8)) = i by omega, show max (i + 1) (8 * (i / 8)) = i + 1 by omega, List.drop_eq_getElem_cons hi, show 8 * (i / 8) + 8 - i = (8 * (i / 8) + 8 - (i + 1)) + 1 by omega, List.take_succ_cons, valB]
theorem packAt_low (l : List Bool) (i : Nat) : packAt l (i + 1) (i / 8) < 128 := by
  unfold packAt
  have h := valB_lt ((l.drop (max (i + 1) (8 * (i / 8)))).take (8 * (i / 8) + 8 - max (i + 1) (8 * (i / 8))))
  have h2 := List.length_take_le (8 * (i / 8) + 8 - max (i + 1) (8 * (i / 8))) (l.drop (max (i + 1) (8 * (i / 8))))
  have h3 : 2 ^ ((l.drop (max (i + 1) (8 * (i / 8)))).take (8 * (i / 8) + 8 - max (i + 1) (8 * (i / 8)))).length ≤ 2 ^ 7 := Nat.pow_le_pow_right (by omega) (by omega)
  omega
theorem packN_step {l : List Bool} {n i : Nat} {b : Bool} (hn : i / 8 < n) (hb : l[i]? = some b) : packN l n i = (packN l n (i + 1)).set (i / 8) (2 * packAt l (i + 1) (i / 8) + b.toNat) := by
  refine List.ext_getElem? fun k => ?_
  rw [List.getElem?_set]
  unfold packN
  by_cases hk : i / 8 = k
  · subst hk
    rw [if_pos rfl, List.getElem?_map, List.getElem?_range hn, if_pos (by simpa using hn)]
    show some _ = some _
    rw [packAt_here hb, Nat.add_comm]
  · rw [if_neg hk, List.getElem?_map, List.getElem?_map]
    rcases Nat.lt_or_ge k n with h | h
    · rw [List.getElem?_range h]
      show some _ = some _
      rw [packAt_far (fun e => hk e.symm)]
    · rw [List.getElem?_eq_none (by simpa using h)]; rfl
theorem packN_zero (l : List Bool) (n : Nat) : packN l n l.length = List.replicate n 0 := by
  unfold packN
  refine List.ext_getElem? fun k => ?_
  rw [List.getElem?_map]
  rcases Nat.lt_or_ge k n with h | h
  · rw [List.getElem?_range h, List.getElem?_replicate, if_pos h]
    show some _ = _
    rw [packAt_end]
  · rw [List.getElem?_eq_none (by simpa using h), List.getElem?_eq_none (by simpa using h)]; rfl
/-- The bits of bytes, and one more. -/
def withL (bs : List Nat) (i : Int) (n : Nat) : List Bool := (List.range n).map fun k : Nat => decide ((k : Int) = i) || getB bs (k : Int)
theorem withL_len (bs : List Nat) (i : Int) (n : Nat) : (withL bs i n).length = n := by simp [withL]
theorem val8_set : ∀ x < 256, ∀ r < 8, valB ((List.range 8).map fun t => decide (t = r) || x.testBit t) = x ||| 2 ^ r := by decide +kernel
theorem val8_same : ∀ x < 256, valB ((List.range 8).map fun t => x.testBit t) = x := by decide +kernel
theorem drop_map_range (f : Nat → Bool) (n j : Nat) (h : 8 * j + 8 ≤ n) : (((List.range n).map f).drop (8 * j)).take 8 = (List.range 8).map fun t => f (8 * j + t) := by
  refine List.ext_getElem? fun k => ?_
  rw [List.getElem?_take, List.getElem?_map]
  split
  · rename_i hk
    rw [List.getElem?_drop, List.getElem?_map, List.getElem?_range (by omega), List.getElem?_range hk]; rfl
  · rename_i hk
    rw [List.getElem?_eq_none (by simpa using hk)]; rfl
theorem packN_with {bs : List Nat} (hok : bytesOk bs) {k : Nat} (hk : k / 8 < bs.length) : packN (withL bs (k : Int) (8 * bs.length)) bs.length 0 = setB bs k := by
  refine List.ext_getElem? fun j => ?_
  unfold packN setB
  rw [List.getElem?_map, List.getElem?_set]
  rcases Nat.lt_or_ge j bs.length with hj | hj
  · rw [List.getElem?_range hj]
    show some (packAt _ 0 j) = _
    have e : packAt (withL bs (k : Int) (8 * bs.length)) 0 j = valB ((List.range 8).map fun t => decide (((8 * j + t : Nat) : Int) = (k : Int)) || getB bs ((8 * j + t : Nat) : Int)) := by
      unfold packAt withL
      rw [show max 0 (8 * j) = 8 * j by omega, show 8 * j + 8 - 8 * j = 8 by omega, drop_map_range _ _ _ (by omega)]
    have hb : ∀ t, t < 8 → getB bs ((8 * j + t : Nat) : Int) = (bs.getD j 0).testBit t := fun t ht => by
      rw [getB_nat, show (8 * j + t) / 8 = j by omega, show (8 * j + t) % 8 = t by omega]
    rw [e]
    by_cases he : k / 8 = j
    · rw [if_pos he, if_pos hk]
      subst he
      refine congrArg some ((congrArg valB (List.map_congr_left fun t ht => ?_)).trans (val8_set (bs.getD (k / 8) 0) (hok (k / 8)) (k % 8) (Nat.mod_lt _ (by omega))))
      have ht8 : t < 8 := List.mem_range.1 ht
      rw [hb t ht8]
      congr 1
      rw [Bool.eq_iff_iff]
      simp only [decide_eq_true_eq]
      omega
    · rw [if_neg he, List.getElem?_eq_getElem hj]
      have hx : bs[j] = bs.getD j 0 := by rw [List.getD_eq_getElem?_getD, List.getElem?_eq_getElem hj]; rfl
      rw [hx]
      refine congrArg some ((congrArg valB (List.map_congr_left fun t ht => ?_)).trans (val8_same (bs.getD j 0) (hok j)))
      have ht8 : t < 8 := List.mem_range.1 ht
      have hd : decide (((8 * j + t : Nat) : Int) = (k : Int)) = false := decide_eq_false (by omega)
      rw [hb t ht8, hd, Bool.false_or]
  · rw [List.getElem?_eq_none (by simpa using hj)]
    have : k / 8 ≠ j := by omega
    rw [if_neg this, List.getElem?_eq_none hj]; rfl
end Go.Proofs.Ytnakkjgnjffkpaa

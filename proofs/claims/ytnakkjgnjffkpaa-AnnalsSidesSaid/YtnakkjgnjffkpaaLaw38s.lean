/-
  Layer 38: sums of two stretches side by side are those of both together: the plain law.
-/
import Derived.Test.YtnakkjgnjffkpaaLaw38
namespace Go.Proofs.Ytnakkjgnjffkpaa
open Go.RowKit
set_option linter.unusedVariables false

def spnC' (x : Int × Int) : Array Value := #[.int .i64 x.1, .int .i64 x.2]
def AllRight (L : List Rep) : Prop := ∀ r ∈ L, rightA r = true
theorem AllRight.nil : AllRight [] := fun r h => by simp at h
theorem AllRight.add {L : List Rep} {s : Sm} {r : Rep} {most : Nat} (h : AllRight L) : AllRight (addL (addE s L r) most L r) := by
  unfold addL
  by_cases h0 : addE s L r = 0
  · rw [if_pos h0]
    have h1 := (addE_zero h0).1
    have h2 : AllRight (L ++ [r]) := fun x hx => by
      rcases List.mem_append.1 hx with hx | hx
      · exact h x hx
      · rw [List.mem_singleton] at hx; subst hx; exact h1
    unfold keepK; split
    · exact fun x hx => h2 x (List.mem_of_mem_drop hx)
    · exact h2
  · rw [if_neg h0]; exact h
theorem addS_assoc (a b c : Sm) : addS (addS a b) c = addS a (addS b c) := by
  simp [addS, Nat.add_assoc]
theorem foldS (l : List Sm) : ∀ o : Sm, l.foldl addS o = addS o (l.foldl addS Sm.zero) := by
  induction l with
  | nil => intro o; simp [addS, Sm.zero]
  | cons x l ih => intro o; rw [List.foldl_cons, List.foldl_cons, ih (addS o x), ih (addS Sm.zero x), addS_zero, addS_assoc]
theorem totS_append (l m : List Sm) : totS (l ++ m) = addS (totS l) (totS m) := by
  unfold totS; rw [List.foldl_append, foldS]
theorem addS_zero' (s : Sm) : addS s Sm.zero = s := by simp [addS, Sm.zero]
theorem totS_pk (L : List Rep) (h : AllRight L) : (totS (L.map smOf)).paid + (totS (L.map smOf)).kept = (totS (L.map smOf)).minted := by
  induction L with
  | nil => rfl
  | cons r L ih =>
    have h1 := ih (fun x hx => h x (List.mem_cons_of_mem _ hx))
    have h2 : r.paid + r.kept = r.minted := by
      have := h r (by simp)
      unfold rightA at this
      simp only [Bool.and_eq_true] at this
      exact of_decide_eq_true this.2.2.2.1
    have h3 : totS ((r :: L).map smOf) = addS (smOf r) (totS (L.map smOf)) := by
      rw [List.map_cons]; unfold totS; rw [List.foldl_cons, foldS, addS_zero]
    rw [h3]
    show r.paid + _ + (r.kept + _) = r.minted + _
    omega
theorem totS_few (L : List Rep) (h : AllRight L) : (totS (L.map smOf)).Few (L.length * 600) := by
  have h0 : Sm.zero.Few 0 := ⟨Nat.le_refl _, Nat.le_refl _, Nat.le_refl _, Nat.le_refl _, Nat.le_refl _, Nat.le_refl _, Nat.le_refl _⟩
  have := fold_few (N := 600) (L.map smOf) Sm.zero 0 h0 (fun s hs => by
    obtain ⟨r, hr, rfl⟩ := List.mem_map.1 hs
    exact smOf_few' r (h r hr))
  rwa [List.length_map, Nat.zero_add] at this
theorem togE_zero {l : List Sm} (h : togE l = 0) : fitsS (totS l) ∧ togV l = totS l := by
  unfold togE at h
  unfold togV
  split at h
  · rename_i h1; exact ⟨h1, by rw [if_pos h1]⟩
  · cases h
theorem fndR_at {L : List Rep} (hs : SeqR L) {x0 : Rep} (h0 : L[0]? = some x0) {i : Nat} (hi : i < L.length) : fndR (x0.epoch + i) L = some i := by
  have h1 : fndR (x0.epoch + i) L ≠ none := by
    intro hn
    have hall : ∀ (l : List Rep), fndR (x0.epoch + i) l = none → ∀ x ∈ l, x.epoch ≠ x0.epoch + i := by
      intro l
      induction l with
      | nil => intro _ x hx; simp at hx
      | cons y l ih =>
        intro h x hx
        by_cases hy : y.epoch = x0.epoch + i
        · simp [fndR, hy] at h
        · simp only [fndR, hy, if_false, Option.map_eq_none_iff] at h
          rcases List.mem_cons.1 hx with rfl | hx
          · exact hy
          · exact ih h x hx
    have hx : L[i]? = some L[i] := List.getElem?_eq_getElem hi
    exact hall L hn _ (List.getElem_mem hi) (hs.at_ h0 i _ hx)
  cases hk : fndR (x0.epoch + i) L with
  | none => exact (h1 hk).elim
  | some k =>
    obtain ⟨h2, x, h3, h4⟩ := fndR_lt _ _ _ hk
    have := hs.at_ h0 k x h3
    congr 1; omega
/-- A stretch of which Sum tells without an error. -/
theorem sumR_zero {L : List Rep} (hs : SeqR L) {a b : Int} (h : (sumR L a b).2 = 0) : (a = b ∧ (sumR L a b).1 = Sm.zero) ∨ (a < b ∧ ∃ (x0 : Rep) (i n : Nat), L[0]? = some x0 ∧ a = x0.epoch + (i : Int) ∧ b = x0.epoch + (n : Int) ∧ i < n ∧ n ≤ L.length ∧ fitsS (totS (((L.take n).drop i).map smOf)) ∧ (sumR L a b).1 = totS (((L.take n).drop i).map smOf)) := by
  unfold sumR at h ⊢
  by_cases h1 : b < a
  · rw [if_pos h1] at h; cases h
  · rw [if_neg h1] at h
    rw [if_neg h1]
    by_cases h2 : a = b
    · rw [if_pos h2]; exact .inl ⟨h2, rfl⟩
    · rw [if_neg h2] at h
      rw [if_neg h2]
      refine .inr ⟨by omega, ?_⟩
      cases hi : fndR a L with
      | none => rw [hi] at h; cases h
      | some i =>
        cases hk : fndR (b - 1) L with
        | none => rw [hi, hk] at h; cases h
        | some k =>
          rw [hi, hk] at h
          obtain ⟨g1, x, g2, g3⟩ := fndR_lt _ _ _ hi
          obtain ⟨g4, y, g5, g6⟩ := fndR_lt _ _ _ hk
          obtain ⟨x0, h0⟩ : ∃ x0, L[0]? = some x0 := ⟨_, List.getElem?_eq_getElem (by omega)⟩
          have e1 := hs.at_ h0 i x g2
          have e2 := hs.at_ h0 k y g5
          obtain ⟨t1, t2⟩ := togE_zero h
          exact ⟨x0, i, k + 1, h0, by omega, by omega, by omega, by omega, t1, t2⟩
theorem sides_plain {L : List Rep} (hs : SeqR L) (hr : AllRight L) {a m b : Int} (h1 : (sumR L a m).2 = 0) (h2 : (sumR L m b).2 = 0) (h3 : (sumR L a b).2 = 0) :
    addS (sumR L a m).1 (sumR L m b).1 = (sumR L a b).1 ∧ (sumR L a b).1.paid + (sumR L a b).1.kept = (sumR L a b).1.minted ∧ fitsS (sumR L a b).1 ∧ (sumR L a b).1.Few (L.length * 600) := by
  have hsub : ∀ i n, AllRight ((L.take n).drop i) := fun i n x hx => hr x (List.mem_of_mem_take (List.mem_of_mem_drop hx))
  have key : (sumR L a b).1.paid + (sumR L a b).1.kept = (sumR L a b).1.minted ∧ fitsS (sumR L a b).1 ∧ (sumR L a b).1.Few (L.length * 600) := by
    rcases sumR_zero hs h3 with ⟨_, e⟩ | ⟨_, x0, i, n, _, _, _, _, hn, hf, e⟩
    · rw [e]
      exact ⟨rfl, fun k _ => by obtain ⟨j, _, hj⟩ := mon_top Sm.zero k; rw [hj]; have : Sm.zero.mon j = 0 := (by match j with | 0 => rfl | 1 => rfl | 2 => rfl | 3 => rfl | j + 4 => rfl); omega, Nat.zero_le _, Nat.zero_le _, Nat.zero_le _, Nat.zero_le _, Nat.zero_le _, Nat.zero_le _, Nat.zero_le _⟩
    · rw [e]
      refine ⟨totS_pk _ (hsub i n), hf, (totS_few _ (hsub i n)).mono (Nat.mul_le_mul_right _ ?_)⟩
      rw [List.length_drop, List.length_take]; omega
  refine ⟨?_, key⟩
  rcases sumR_zero hs h1 with ⟨e1, z1⟩ | ⟨l1, x0, i, n, h0, ea, eb, hin, hnl, f1, v1⟩
  · subst e1; rw [z1, addS_zero]
  · rcases sumR_zero hs h2 with ⟨e2, z2⟩ | ⟨l2, x1, i2, n2, h0', ea2, eb2, hin2, hnl2, f2, v2⟩
    · subst e2; rw [z2, addS_zero']
    · rw [h0] at h0'; cases h0'
      obtain rfl : i2 = n := by omega
      rcases sumR_zero hs h3 with ⟨e3, z3⟩ | ⟨l3, x2, i3, n3, h0'', ea3, eb3, hin3, hnl3, f3, v3⟩
      · omega
      · rw [h0] at h0''; cases h0''
        obtain rfl : i3 = i := by omega
        obtain rfl : n3 = n2 := by omega
        rw [v1, v2, v3, ← totS_append, ← List.map_append]
        congr 2
        have : (L.take i2).drop i3 ++ (L.take n3).drop i2 = (L.take n3).drop i3 := by
          rw [show L.take i2 = (L.take n3).take i2 by rw [List.take_take]; congr 1; omega]
          rw [List.drop_take]
          have := List.take_append_drop (i2 - i3) ((L.take n3).drop i3)
          rw [List.drop_drop, show i3 + (i2 - i3) = i2 by omega] at this
          exact this
        exact this
end Go.Proofs.Ytnakkjgnjffkpaa

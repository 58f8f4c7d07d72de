/-
  Layer 23, without the document's motions: nobody votes twice; what is closed is open no more, and what is over is never ripe: the plain law.
-/
import Derived.Test.YtnakkjgnjffkpaaLaw23
import Derived.Test.YtnakkjgnjffkpaaMoot9
import Derived.Test.YtnakkjgnjffkpaaMoot10
import Derived.Test.YtnakkjgnjffkpaaOpenMot
namespace Go.Proofs.Ytnakkjgnjffkpaa
open Go.RowKit
set_option linter.unusedVariables false

theorem getB_setB {bs : List Nat} {i : Int} (h0 : 0 ≤ i) (h1 : i / 8 < (bs.length : Int)) : getB (setB bs i.toNat) i = true := by
  obtain ⟨k, rfl⟩ := Int.eq_ofNat_of_zero_le h0
  rw [Int.toNat_natCast]
  have hk : k / 8 < bs.length := by omega
  unfold getB setB
  rw [Int.toNat_natCast, decide_eq_true (show (0 : Int) ≤ (k : Int) by omega), Bool.true_and, List.getD_eq_getElem?_getD, List.getElem?_set_self hk]
  simp [Nat.testBit_or]
theorem voteE_zero {m : Mot} {mem : Int} (h : voteE m mem = 0) : m.state = 1 ∧ betw mem 0 127 = true ∧ okB m.yes.length mem = true ∧ okB m.no.length mem = true := by
  unfold voteE at h
  split at h
  · rename_i h1
    split at h
    · rename_i h2
      simp only [Bool.and_eq_true] at h2
      exact ⟨h1, h2.1, h2.2.1, h2.2.2⟩
    · cases h
  · cases h
theorem voteE_twice {m : Mot} {mem : Int} {yes : Bool} (h : voteE m mem = 0) : voteE (voteM m mem yes) mem = 231 := by
  obtain ⟨h1, h2, h3, h4⟩ := voteE_zero h
  have hy := of_decide_eq_true h3
  have hn := of_decide_eq_true h4
  cases yes
  · have e : voteM m mem false = { m with no := setB m.no mem.toNat } := rfl
    rw [e]
    unfold voteE
    rw [if_pos h1, show okB ({ m with no := setB m.no mem.toNat } : Mot).no.length mem = true by show okB (setB m.no mem.toNat).length mem = true; rw [setB_len]; exact h4,
      show okB ({ m with no := setB m.no mem.toNat } : Mot).yes.length mem = true from h3, h2,
      show getB ({ m with no := setB m.no mem.toNat } : Mot).no mem = true from getB_setB hn.1 hn.2, Bool.or_true]
    rfl
  · have e : voteM m mem true = { m with yes := setB m.yes mem.toNat } := rfl
    rw [e]
    unfold voteE
    rw [if_pos h1, show okB ({ m with yes := setB m.yes mem.toNat } : Mot).yes.length mem = true by show okB (setB m.yes mem.toNat).length mem = true; rw [setB_len]; exact h3,
      show okB ({ m with yes := setB m.yes mem.toNat } : Mot).no.length mem = true from h4, h2,
      show getB ({ m with yes := setB m.yes mem.toNat } : Mot).yes mem = true from getB_setB hy.1 hy.2, Bool.true_or]
    rfl
theorem voteM_len {m : Mot} {mem : Int} {yes : Bool} : (voteM m mem yes).yes.length = m.yes.length ∧ (voteM m mem yes).no.length = m.no.length := by
  cases yes
  · exact ⟨rfl, setB_len _ _⟩
  · exact ⟨setB_len _ _, rfl⟩
theorem atL_get {L : List Mot} {i : Int} {m : Mot} (h : atL L i = some m) : 0 ≤ i ∧ L[i.toNat]? = some m := by
  unfold atL at h
  split at h
  · rename_i h1; exact ⟨h1, h⟩
  · cases h
/-- A vote that counts. -/
theorem voteL_zero {L : List Mot} {i mem : Int} {yes : Bool} (h : (voteL L i mem yes).2 = 0) : ∃ m, atL L i = some m ∧ voteE m mem = 0 ∧ (voteL L i mem yes).1 = L.set i.toNat (voteM m mem yes) := by
  unfold voteL at h ⊢
  split at h
  · cases h
  · rename_i m hm
    split at h
    · rename_i h2
      refine ⟨m, hm, h2, ?_⟩
      rw [if_pos h2]
    · rename_i h2; exact absurd h h2
theorem voteL_twice {L : List Mot} {i mem : Int} {yes yes2 : Bool} (h : (voteL L i mem yes).2 = 0) : (voteL (voteL L i mem yes).1 i mem yes2).2 = 231 := by
  obtain ⟨m, hm, he, hl⟩ := voteL_zero h
  obtain ⟨h0, hg⟩ := atL_get hm
  have hlt := (List.getElem?_eq_some_iff.1 hg).1
  rw [hl]
  unfold voteL
  have ha : atL (L.set i.toNat (voteM m mem yes)) i = some (voteM m mem yes) := by
    unfold atL
    rw [if_pos h0, List.getElem?_set_self hlt]
  rw [ha]
  simp only [voteE_twice he]
  rfl
theorem voteL_len {L : List Mot} {i mem : Int} {yes : Bool} (h : (voteL L i mem yes).2 = 0) : (voteL L i mem yes).1.length = L.length := by
  obtain ⟨m, hm, he, hl⟩ := voteL_zero h
  rw [hl, List.length_set]
def Few50 (L : List Mot) : Prop := ∀ m ∈ L, m.yes.length ≤ 50 ∧ m.no.length ≤ 50
theorem voteL_few50 {L : List Mot} {i mem : Int} {yes : Bool} (hf : Few50 L) (h : (voteL L i mem yes).2 = 0) : Few50 (voteL L i mem yes).1 := by
  obtain ⟨m, hm, he, hl⟩ := voteL_zero h
  rw [hl]
  intro x hx
  rcases List.mem_or_eq_of_mem_set hx with hx | rfl
  · exact hf x hx
  · rw [voteM_len.1, voteM_len.2]
    exact hf m (List.mem_of_getElem? (atL_get hm).2)
theorem closeM_votes2 {q en : Int} {ms : List Mb} {ep : Int} {m : Mot} : (closeM q en ms ep m).yes = m.yes ∧ (closeM q en ms ep m).no = m.no := by
  unfold closeM
  split
  · split <;> exact ⟨rfl, rfl⟩
  · exact ⟨rfl, rfl⟩
theorem closeL_few50 {q en : Int} {ms : List Mb} {ep : Int} {L : List Mot} (hf : Few50 L) : Few50 (closeL q en ms ep L) := by
  intro x hx
  obtain ⟨m, hm, rfl⟩ := List.mem_map.1 hx
  rw [closeM_votes2.1, closeM_votes2.2]
  exact hf m hm
/-- What is closed: its state. -/
theorem closeM_state (q en : Int) (ms : List Mb) (ep : Int) (m : Mot) : (m.state = 1 ∧ m.ends ≤ ep ∧ ((closeM q en ms ep m).state = 2 ∨ (closeM q en ms ep m).state = 4)) ∨ (m.state = 1 ∧ ep < m.ends ∧ closeM q en ms ep m = m) ∨ (m.state ≠ 1 ∧ closeM q en ms ep m = m) := by
  by_cases h1 : m.state = 1
  · by_cases h2 : m.ends ≤ ep
    · refine .inl ⟨h1, h2, ?_⟩
      unfold closeM
      rw [if_pos ⟨h1, h2⟩]
      split
      · exact .inl rfl
      · exact .inr rfl
    · exact .inr (.inl ⟨h1, by omega, by unfold closeM; rw [if_neg (fun h => h2 h.2)]⟩)
  · exact .inr (.inr ⟨h1, by unfold closeM; rw [if_neg (fun h => h1 h.1)]⟩)
theorem ripeK_mem {ep : Int} {quo : Bool} {L : List Mot} {z : Int} : ∀ k, z ∈ ripeK ep quo L k → ∃ (j : Nat) (m : Mot), z = (j : Int) ∧ L[j]? = some m ∧ m.state = 2
  | 0, h => by rw [ripeK] at h; exact (List.not_mem_nil h).elim
  | k + 1, h => by
    rw [ripeK] at h
    rcases List.mem_append.1 h with h | h
    · exact ripeK_mem k h
    · split at h
      · rename_i hr
        rw [List.mem_singleton] at h
        cases hL : L[k]? with
        | none => rw [hL] at hr; cases hr
        | some m =>
          rw [hL] at hr
          have hr' : ripeM ep quo m = true := hr
          unfold ripeM at hr'
          simp only [Bool.and_eq_true] at hr'
          exact ⟨k, m, h, hL, of_decide_eq_true hr'.1⟩
      · exact (List.not_mem_nil h).elim
/-- What is ripe can be finished, and is not ripe then. -/
theorem ripe_finish {ep : Int} {quo : Bool} {L : List Mot} {z : Int} (h : z ∈ ripeL ep quo L) : (finL L z true).2 = 0 ∧ (finL L z true).1.length = L.length ∧ ∀ y ∈ ripeL ep quo (finL L z true).1, y ≠ z := by
  obtain ⟨j, m, rfl, hm, hs⟩ := ripeK_mem _ h
  have ha : atL L (j : Int) = some m := by
    unfold atL; rw [if_pos (by omega), Int.toNat_natCast, hm]
  have hf : finL L (j : Int) true = (L.set j (finM m true), 0) := by
    unfold finL
    rw [ha]
    have he : finE m = 0 := by unfold finE; rw [if_pos hs]
    simp only [he, if_true, Int.toNat_natCast]
  rw [hf]
  refine ⟨rfl, List.length_set .., fun y hy hyz => ?_⟩
  obtain ⟨i, m2, rfl, hm2, hs2⟩ := ripeK_mem _ hy
  obtain rfl : i = j := by omega
  have hlt := (List.getElem?_eq_some_iff.1 hm).1
  have hm3 : (L.set i (finM m true))[i]? = some m2 := hm2
  rw [List.getElem?_set_self hlt] at hm3
  obtain rfl := Option.some.inj hm3
  cases hs2
end Go.Proofs.Ytnakkjgnjffkpaa

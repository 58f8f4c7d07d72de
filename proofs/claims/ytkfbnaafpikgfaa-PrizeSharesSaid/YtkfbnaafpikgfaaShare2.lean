/-
  What share.Spread answers.
-/
import Derived.Test.YtkfbnaafpikgfaaShare
import Derived.Laws.OwnMore
namespace Go.Proofs.Ytkfbnaafpikgfaa
open Go.RowKit
set_option linter.unusedVariables false

def spreadI (l ws : List Nat) (r : Nat) : Nat → List Nat × Nat
  | 0 => (l, r)
  | i + 1 => if 0 < ws.getD i 0 ∧ 0 < (spreadI l ws r i).2 then ((spreadI l ws r i).1.set i ((spreadI l ws r i).1.getD i 0 + 1), (spreadI l ws r i).2 - 1) else spreadI l ws r i
theorem total_set {l : List Nat} {i : Nat} (h : i < l.length) : total (l.set i (l.getD i 0 + 1)) = total l + 1 := by
  induction l generalizing i with
  | nil => simp at h
  | cons x r ih =>
    cases i with
    | zero => simp [total_cons]; omega
    | succ i =>
      have := ih (i := i) (by simpa using h)
      simp only [List.set_cons_succ, total_cons, List.getD_cons_succ] at this ⊢
      omega
theorem spreadI_len (l ws : List Nat) (r i : Nat) : (spreadI l ws r i).1.length = l.length := by
  induction i with
  | zero => rfl
  | succ i ih => simp only [spreadI]; split <;> simp [ih]
theorem spreadI_sum (l ws : List Nat) (r i : Nat) (h : i ≤ l.length) : total (spreadI l ws r i).1 + (spreadI l ws r i).2 = total l + r := by
  induction i with
  | zero => rfl
  | succ i ih =>
    have h1 := ih (by omega)
    simp only [spreadI]
    split
    · rename_i hc
      rw [total_set (by rw [spreadI_len]; omega)]
      omega
    · exact h1
theorem getD_le_total {l : List Nat} {i : Nat} : l.getD i 0 ≤ total l := by
  rw [List.getD_eq_getElem?_getD]
  rcases Nat.lt_or_ge i l.length with h | h
  · rw [List.getElem?_eq_getElem h]; exact le_total (List.getElem_mem h)
  · rw [List.getElem?_eq_none h]; simp
def spreadV (t : Nat) (xs : List Nat) : List Nat := if wholeE xs = 0 then if total xs = 0 then [] else (spreadI (partsN t xs) xs (t - total (partsN t xs)) xs.length).1 else []
def spreadE (t : Nat) (xs : List Nat) : Int := if wholeE xs = 0 then if total xs = 0 then 20 else 0 else 40
def ListPost (w : World) (l : List Nat) (ec : Int) (e : Ending) (W' : World) : Prop := ∃ v, e = .returned (.tuple #[v, .int .i64 ec]) ∧ OwnL W' w.heap.size v l ∧ Below w.heap.size w W'
theorem OwnL.stored {W : World} {B g n cap : Nat} {l : List Nat} (h : OwnL W B (.slice (some ⟨g, 0, none⟩) n cap) l) (hn : l.length = n) (i x : Nat) : OwnL (W.setCell ⟨g, i, none⟩ (.int .u64 (x : Int))) B (.slice (some ⟨g, 0, none⟩) n cap) (l.set i x) := by
  unfold OwnL at h ⊢
  rw [hn] at h
  rw [List.length_set, hn, List.map_set]
  exact (World.ownsRow.stored h i _).1
theorem OwnL.at {W : World} {B g n cap : Nat} {l : List Nat} (h : OwnL W B (.slice (some ⟨g, 0, none⟩) n cap) l) (hn : l.length = n) {i : Nat} (hi : i < n) : W.cell? ⟨g, i, none⟩ = some (.int .u64 ((l.getD i 0 : Nat) : Int)) := by
  unfold OwnL at h
  rw [hn] at h
  rw [World.ownsRow.cellAt h i (by omega), List.getElem?_map, List.getElem?_eq_getElem (by omega), List.getD_eq_getElem?_getD, List.getElem?_eq_getElem (by omega)]
  rfl
theorem OwnL.free {W : World} {B g n cap : Nat} {l : List Nat} (h : OwnL W B (.slice (some ⟨g, 0, none⟩) n cap) l) (hn : l.length = n) (i : Nat) : W.frozen? ⟨g, i, none⟩ = false := by
  unfold OwnL at h
  rw [hn] at h
  exact World.ownsRow.frozenAt h i
theorem OwnL.some_of {W : World} {B : Nat} {v : Value} {l : List Nat} (h : OwnL W B v l) (hp : 0 < l.length) : ∃ g cap, v = .slice (some ⟨g, 0, none⟩) l.length cap ∧ B ≤ g := by
  rcases h.2 with ⟨rfl, h0⟩ | ⟨g, cap, cur, rfl, hg, _⟩
  · omega
  · exact ⟨g, cap, rfl, hg⟩
theorem total_zero_len {xs : List Nat} (h : total xs ≠ 0) : 0 < xs.length := by
  cases xs with
  | nil => exact absurd rfl h
  | cons x r => simp
end Go.Proofs.Ytkfbnaafpikgfaa

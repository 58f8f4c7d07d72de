/-
  Standings: four numbers; loaded, stored and compared whole.
-/
import Derived.Test.YtkkncijbedfdfaaPart
import Derived.Laws.StructEq
namespace Go.Proofs.Ytkkncijbedfdfaa
open Go.RowKit
set_option linter.unusedVariables false

structure St where
  bal : Nat
  eff : Nat
  score : Nat
  streak : Int
def St.cells (s : St) : Array Value := #[.int .u64 s.bal, .int .u64 s.eff, .int .u64 s.score, .int .i64 s.streak]
theorem St.cells_size (s : St) : s.cells.size = 4 := rfl
theorem St.cells_one (s : St) : allOne s.cells = true := by unfold allOne St.cells; simp [Value.oneCell']
theorem St.at_bal (s : St) : s.cells[0]? = some (.int .u64 s.bal) := rfl
theorem St.at_eff (s : St) : s.cells[1]? = some (.int .u64 s.eff) := rfl
theorem St.at_score (s : St) : s.cells[2]? = some (.int .u64 s.score) := rfl
theorem St.at_streak (s : St) : s.cells[3]? = some (.int .i64 s.streak) := rfl
theorem St.room (s : St) : roomy 0 4 s.cells = true := rfl
theorem St.ext (s : St) : s.cells.extract 0 4 = s.cells := rfl
attribute [go_sem] St.cells_size St.cells_one St.at_bal St.at_eff St.at_score St.at_streak St.room St.ext
structure St.Ok (s : St) : Prop where
  bal : s.bal < 18446744073709551616
  eff : s.eff < 18446744073709551616
  score : s.score < 18446744073709551616
  streak : i64ok s.streak
theorem row_setCell {w : World} {g : Nat} (i : Nat) (u : Value) : row (w.setCell ⟨g, i, none⟩ u) g = (row w g).map (·.setIfInBounds i u) := by
  cases h : row w g with
  | some cs => exact row_set h i u
  | none =>
    unfold row World.setCell at *
    simp only [Array.getElem?_modify, if_true]
    cases hw : w.heap[g]? with
    | none => rfl
    | some o =>
      rw [hw] at h
      cases o <;> simp_all
theorem St.set_score (s : St) (n : Nat) : s.cells.setIfInBounds 2 (.int .u64 (n : Int)) = St.cells ⟨s.bal, s.eff, n, s.streak⟩ := rfl
theorem St.set_score0 (s : St) : s.cells.setIfInBounds 2 (.int .u64 0) = St.cells ⟨s.bal, s.eff, 0, s.streak⟩ := rfl
theorem St.set_streak (s : St) (n : Int) : s.cells.setIfInBounds 3 (.int .i64 n) = St.cells ⟨s.bal, s.eff, s.score, n⟩ := rfl
theorem St.set_bal (s : St) (n : Nat) : s.cells.setIfInBounds 0 (.int .u64 (n : Int)) = St.cells ⟨n, s.eff, s.score, s.streak⟩ := rfl
theorem St.set_bal0 (s : St) : s.cells.setIfInBounds 0 (.int .u64 0) = St.cells ⟨0, s.eff, s.score, s.streak⟩ := rfl
theorem St.set_eff (s : St) (n : Nat) : s.cells.setIfInBounds 1 (.int .u64 (n : Int)) = St.cells ⟨s.bal, n, s.score, s.streak⟩ := rfl
theorem St.set_eff0 (s : St) : s.cells.setIfInBounds 1 (.int .u64 0) = St.cells ⟨s.bal, 0, s.score, s.streak⟩ := rfl
attribute [go_sem] row_setCell St.set_score St.set_score0 St.set_streak St.set_bal St.set_bal0 St.set_eff St.set_eff0
theorem row_setRow_if {w : World} {g k : Nat} {new : Array Value} : row (w.setRow g new) k = if g = k then (row w k).map (fun _ => new) else row w k := by
  by_cases h : g = k
  · subst h
    rw [if_pos rfl]
    cases hr : row w g with
    | some cs => exact row_setRow hr
    | none =>
      unfold row World.setRow at *
      simp only [Array.getElem?_modify, if_true]
      cases hw : w.heap[g]? with
      | none => rfl
      | some o =>
        rw [hw] at hr
        cases o <;> simp_all
  · rw [if_neg h, row_setRow_far h]
attribute [go_sem] row_setRow_if
theorem size_setRow (w : World) (g : Nat) (cs : Array Value) : (w.setRow g cs).heap.size = w.heap.size := by unfold World.setRow; simp
theorem same_below {P : Program} {f : FuncId} {args : Array Value} {w : World} {v : Value} (h : Calls P f args w fun e w' => e = .returned v ∧ w = w') : Calls P f args w fun e w' => e = .returned v ∧ Below w.heap.size w w' :=
  h.mono fun _ _ ⟨a, b⟩ => ⟨a, b ▸ Below.refl _ _⟩
theorem same_symm {P : Program} {f : FuncId} {args : Array Value} {w : World} {v : Value} (h : Calls P f args w fun e w' => e = .returned v ∧ w = w') : Calls P f args w fun e w' => e = .returned v ∧ w' = w :=
  h.mono fun _ _ ⟨a, b⟩ => ⟨a, b.symm⟩
def stEq (s t : St) : Bool := (s.bal == t.bal) && ((s.eff == t.eff) && ((s.score == t.score) && (s.streak == t.streak)))
theorem stEq_self (s : St) : stEq s s = true := by simp [stEq]
end Go.Proofs.Ytkkncijbedfdfaa

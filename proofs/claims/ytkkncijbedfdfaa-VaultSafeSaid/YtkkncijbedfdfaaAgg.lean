/-
  A struct loaded whole, at the level of the operation's run: for regions that draw their order.
-/
import Derived.Test.YtkkncijbedfdfaaPar
import Derived.StillTailTactics
namespace Go.Proofs.Ytkkncijbedfdfaa
open Go.RowKit
set_option linter.unusedVariables false

theorem run_load_agg {P : Program} (T : TypeId) (n : Nat) (d : TypeDesc) (hu : P.underlying T = some d) (hd : (match d with | .struct _ | .array _ _ => true | _ => false) = true) (hi : (P.info? T).map (·.size) = some n)
    {ρ : Operand → Value} {dst : Option Tmp} {x : Operand} {ty : TypeId} {pos : String} {after : Array Edge} {gd : Option (Nat × Bool)} {w : World}
    (h1 : ρ x = .pointer (some ⟨blk (ρ x), 0, none⟩)) (h2 : (row w (blk (ρ x))).map (·.size) = some n) :
    (execOp ρ ⟨dst, .load T x, ty, pos, after, gd⟩).run P w = .ok (.value (.agg ((row w (blk (ρ x))).getD #[]))) w := by
  obtain ⟨cs, hc, hs⟩ := Option.map_eq_some_iff.1 h2
  obtain ⟨t, ht⟩ := row_heap hc
  rw [hc]
  generalize blk (ρ x) = g at *
  unfold execOp
  simp only [h1, Instr.loadAt, Instr.sureAddr, Sem.run_bind, Sem.run_pure, Result.andThen_ok, run_loadVar_row w g t T cs (0, 0) d ht hu hd (by rw [hi, hs])]
  rfl
theorem run_build_agg {P : Program} (T : TypeId) {ρ : Operand → Value} {dst : Option Tmp} {x : Operand} {ty : TypeId} {pos : String} {after : Array Edge} {gd : Option (Nat × Bool)} {w : World}
    (h : P.built T [(0, ρ x)] = some (aggOf (ρ x))) : (execOp ρ ⟨dst, .build T #[(0, x)], ty, pos, after, gd⟩).run P w = .ok (.value (.agg (aggOf (ρ x)))) w := by
  unfold execOp
  simp [run_build, h]
theorem results_cell_tmp {P : Program} {fn : Func} {p q : Tmp} {ty : TypeId} (h : fn.results = #[.cell p ty, .tmp q]) (tmps : Array Value) (w : World) (g : Nat) (t : TypeId) (cs : Array Value) (fr : Nat × Nat) (d : TypeDesc)
    (hp : tmps.getD p undef = .pointer (some ⟨g, 0, none⟩)) (hg : w.heap[g]? = some (.cells cs t fr))
    (hu : P.underlying ty = some d) (hd : (match d with | .struct _ | .array _ _ => true | _ => false) = true) (hi : (P.info? ty).map (·.size) = some cs.size) :
    (results fn tmps).run P w = .ok (.tuple #[.agg cs, tmps.getD q undef]) w := by
  have hp' : tmps[p]?.getD undef = .pointer (some ⟨g, 0, none⟩) := by simpa using hp
  simp [results, h, hp', asAddr, run_loadVar_row w g t ty cs fr d hg hu hd hi]
theorem row_setRow {w : World} {g : Nat} {cs new : Array Value} (h : row w g = some cs) : row (w.setRow g new) g = some new := by
  obtain ⟨t, ht⟩ := row_heap h
  have : (w.setRow g new).heap[g]? = some (.cells new t (0, 0)) := by
    unfold World.setRow; simp [Array.getElem?_modify, ht]
  unfold row; rw [this]; rfl
theorem row_setRow_far {w : World} {g k : Nat} {new : Array Value} (h : g ≠ k) : row (w.setRow g new) k = row w k := by
  unfold row World.setRow
  simp [Array.getElem?_modify, h]
/-- A region of reads, numbers and calls that leave the world alone, with a tail in one forced order: the world behind its draw is a letter of which S holds. -/
theorem region_still_tail {P : Program} {id : Nat} {Q : Exit → Act → World → Prop} {a : Act} {w : World} {l : List Oper} (n : Nat) (S : World → Prop) (hm : P.follows .mixedOrders = true) (hB : Region.lexTailB .any l.toArray n = true) (hS : S w.drew)
    (h : ∀ w1, S w1 → wpStill P l.toArray w1 (fun a' => wpList P l.toArray Q (l.drop n) a' w1) (l.take n) a) : (Code.region id l.toArray true).wp P Q a w := wp_region_still_tail n hm hB (h _ hS)
end Go.Proofs.Ytkkncijbedfdfaa

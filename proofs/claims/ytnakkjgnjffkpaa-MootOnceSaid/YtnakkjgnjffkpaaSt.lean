/-
  Standings: four numbers; loaded, stored and compared whole.
-/
import Derived.Test.YtnakkjgnjffkpaaPart
import Derived.Laws.StructEq
namespace Go.Proofs.Ytnakkjgnjffkpaa
open Go.RowKit
set_option linter.unusedVariables false

structure St where
  bal : Nat
  eff : Nat
  score : Nat
  streak : Int
def St.cells (s : St) : Array Value := #[.int .u64 s.bal, .int .u64 s.eff, .int .u64 s.score, .int .i64 s.streak]
theorem St.cells_size (s : St) : s.cells.size = 4 := rfl
theorem St.cells_one (s : St) : allOne s.cells = true := by unfold allOne St.cells; simp [Value.oneCell']
theorem St.at_bal (s : St) : s.cells[0]? = some (.int .u64 s.bal) := rfl
theorem St.at_eff (s : St) : s.cells[1]? = some (.int .u64 s.eff) := rfl
theorem St.at_score (s : St) : s.cells[2]? = some (.int .u64 s.score) := rfl
theorem St.at_streak (s : St) : s.cells[3]? = some (.int .i64 s.streak) := rfl
theorem St.room (s : St) : roomy 0 4 s.cells = true := rfl
theorem St.ext (s : St) : s.cells.extract 0 4 = s.cells := rfl
attribute [go_sem] St.cells_size St.cells_one St.at_bal St.at_eff St.at_score St.at_streak St.room St.ext
structure St.Ok (s : St) : Prop where
  bal : s.bal < 18446744073709551616
  eff : s.eff < 18446744073709551616
  score : s.score < 18446744073709551616
  streak : i64ok s.streak
theorem row_setCell {w : World} {g : Nat} (i : Nat) (u : Value) : row (w.setCell ⟨g, i, none⟩ u) g = (row w g).map (·.setIfInBounds i u) := by
  cases h : row w g with
  | some cs => exact row_set h i u
  | none =>
    unfold row World.setCell at *
    simp only [Array.getElem?_modify, if_true]
    cases hw : w.heap[g]? with
    | none => rfl
    | some o =>
      rw [hw] at h
      cases o <;> simp_all
theorem St.set_score (s : St) (n : Nat) : s.cells.setIfInBounds 2 (.int .u64 (n : Int)) = St.cells ⟨s.bal, s.eff, n, s.streak⟩ := rfl
theorem St.set_score0 (s : St) : s.cells.setIfInBounds 2 (.int .u64 0) = St.cells ⟨s.bal, s.eff, 0, s.streak⟩ := rfl
theorem St.set_streak (s : St) (n : Int) : s.cells.setIfInBounds 3 (.int .i64 n) = St.cells ⟨s.bal, s.eff, s.score, n⟩ := rfl
theorem St.set_bal (s : St) (n : Nat) : s.cells.setIfInBounds 0 (.int .u64 (n : Int)) = St.cells ⟨n, s.eff, s.score, s.streak⟩ := rfl
theorem St.set_bal0 (s : St) : s.cells.setIfInBounds 0 (.int .u64 0) = St.cells ⟨0, s.eff, s.score, s.streak⟩ := rfl
theorem St.set_eff (s : St) (n : Nat) : s.cells.setIfInBounds 1 (.int .u64 (n : Int)) = St.cells ⟨s.bal, n, s.score, s.streak⟩ := rfl
theorem St.set_eff0 (s : St) : s.cells.setIfInBounds 1 (.int .u64 0) = St.cells ⟨s.bal, 0, s.score, s.streak⟩ := rfl
attribute [go_sem] row_setCell St.set_score St.set_score0 St.set_streak St.set_bal St.set_bal0 St.set_eff St.set_eff0
theorem row_setRow_if {w : World} {g k : Nat} {new : Array Value} : row (w.setRow g new) k = if g = k then (row w k).map (fun _ => new) else row w k := by
  by_cases h : g = k
  · subst h
    rw [if_pos rfl]
    cases hr : row w g with
    | some cs => exact row_setRow hr
    | none =>
      unfold row World.setRow at *
      simp only [Array.getElem?_modify, if_true]
      cases hw : w.heap[g]? with
      | none => rfl
      | some o =>
        rw [hw] at hr
        cases o <;> simp_all
  · rw [if_neg h, row_setRow_far h]
attribute [go_sem] row_setRow_if
theorem size_setRow (w : World) (g : Nat) (cs : Array Value) : (w.setRow g cs).heap.size = w.heap.size := by unfold World.setRow; simp
theorem same_below {P : Program} {f : FuncId} {args : Array Value} {w : World} {v : Value} (h : Calls P f args w fun e w' => e = .returned v ∧ w = w') : Calls P f args w fun e w' => e = .returned v ∧ Below w.heap.size w w' :=
  h.mono fun _ _ ⟨a, b⟩ => ⟨a, b ▸ Below.refl _ _⟩
theorem same_symm {P : Program} {f : FuncId} {args : Array Value} {w : World} {v : Value} (h : Calls P f args w fun e w' => e = .returned v ∧ w = w') : Calls P f args w fun e w' => e = .returned v ∧ w' = w :=
  h.mono fun _ _ ⟨a, b⟩ => ⟨a, b.symm⟩
theorem st_under : Try.prog.underlying 195 = some (.struct (Try.prog.fieldsOf 195)) := by kernel_rfl
theorem st_info : (Try.prog.info? 195).map (·.size) = some 4 := by kernel_rfl
theorem st_load {dst : Option Tmp} {x : Operand} {ty : TypeId} {pos : String} {after : Array Edge} {gd : Option (Nat × Bool)} {a : Act} {w : World} {K : Act → World → Prop} {Q : Exit → Act → World → Prop} (h1 : a.eval x = .pointer (some ⟨blk (a.eval x), ofs (a.eval x), none⟩)) (h2 : (row w (blk (a.eval x))).map (roomy (ofs (a.eval x)) 4) = some true) : Oper.wp Try.prog ⟨dst, .load 195 x, ty, pos, after, gd⟩ a w K Q = K (a.put dst (.agg (((row w (blk (a.eval x))).getD #[]).extract (ofs (a.eval x)) (ofs (a.eval x) + 4)))) w := wp_load_part _ 4 _ st_under rfl st_info h1 h2
theorem st_store {dst : Option Tmp} {x : Operand} {ty : TypeId} {pos : String} {after : Array Edge} {gd : Option (Nat × Bool)} {y : Operand} {a : Act} {w : World} {K : Act → World → Prop} {Q : Exit → Act → World → Prop} (h1 : a.eval x = .pointer (some ⟨blk (a.eval x), 0, none⟩)) (h2 : (row w (blk (a.eval x))).map (·.size) = some 4) (h3 : a.eval y = .agg (aggOf (a.eval y))) (h4 : (aggOf (a.eval y)).size = 4) (h5 : allOne (aggOf (a.eval y)) = true) : Oper.wp Try.prog ⟨dst, .store 195 x y, ty, pos, after, gd⟩ a w K Q = K (a.put dst undef) (w.setRow (blk (a.eval x)) (aggOf (a.eval y))) := wp_store_agg _ 4 st_info h1 h2 h3 h4 h5
theorem st_run_load {ρ : Operand → Value} {dst : Option Tmp} {x : Operand} {ty : TypeId} {pos : String} {after : Array Edge} {gd : Option (Nat × Bool)} {w : World} (h1 : ρ x = .pointer (some ⟨blk (ρ x), ofs (ρ x), none⟩)) (h2 : (row w (blk (ρ x))).map (roomy (ofs (ρ x)) 4) = some true) : (execOp ρ ⟨dst, .load 195 x, ty, pos, after, gd⟩).run Try.prog w = .ok (.value (.agg (((row w (blk (ρ x))).getD #[]).extract (ofs (ρ x)) (ofs (ρ x) + 4)))) w := run_load_part _ 4 _ st_under rfl st_info h1 h2
theorem st_quiet {C : World → Prop} {dst : Option Tmp} {x : Operand} {ty : TypeId} {pos : String} {after : Array Edge} {gd : Option (Nat × Bool)} {a : Act} {w : World} {g o : Nat} {cs : Array Value} (h1 : a.eval x = .pointer (some ⟨g, o, none⟩)) (h2 : row w g = some cs) (hs : roomy o 4 cs = true) : Oper.quietAt Try.prog ⟨dst, .load 195 x, ty, pos, after, gd⟩ a C w (.agg (cs.extract o (o + 4))) := quiet_load_part _ 4 _ st_under rfl st_info h1 h2 hs
attribute [go_sem ↓] st_load st_store st_run_load
theorem rst_under : Try.prog.underlying 198 = some (.struct (Try.prog.fieldsOf 198)) := by kernel_rfl
theorem rst_info : (Try.prog.info? 198).map (·.size) = some 4 := by kernel_rfl
theorem rst_load {dst : Option Tmp} {x : Operand} {ty : TypeId} {pos : String} {after : Array Edge} {gd : Option (Nat × Bool)} {a : Act} {w : World} {K : Act → World → Prop} {Q : Exit → Act → World → Prop} (h1 : a.eval x = .pointer (some ⟨blk (a.eval x), ofs (a.eval x), none⟩)) (h2 : (row w (blk (a.eval x))).map (roomy (ofs (a.eval x)) 4) = some true) : Oper.wp Try.prog ⟨dst, .load 198 x, ty, pos, after, gd⟩ a w K Q = K (a.put dst (.agg (((row w (blk (a.eval x))).getD #[]).extract (ofs (a.eval x)) (ofs (a.eval x) + 4)))) w := wp_load_part _ 4 _ rst_under rfl rst_info h1 h2
theorem rst_store {dst : Option Tmp} {x : Operand} {ty : TypeId} {pos : String} {after : Array Edge} {gd : Option (Nat × Bool)} {y : Operand} {a : Act} {w : World} {K : Act → World → Prop} {Q : Exit → Act → World → Prop} (h1 : a.eval x = .pointer (some ⟨blk (a.eval x), 0, none⟩)) (h2 : (row w (blk (a.eval x))).map (·.size) = some 4) (h3 : a.eval y = .agg (aggOf (a.eval y))) (h4 : (aggOf (a.eval y)).size = 4) (h5 : allOne (aggOf (a.eval y)) = true) : Oper.wp Try.prog ⟨dst, .store 198 x y, ty, pos, after, gd⟩ a w K Q = K (a.put dst undef) (w.setRow (blk (a.eval x)) (aggOf (a.eval y))) := wp_store_agg _ 4 rst_info h1 h2 h3 h4 h5
theorem rst_run_load {ρ : Operand → Value} {dst : Option Tmp} {x : Operand} {ty : TypeId} {pos : String} {after : Array Edge} {gd : Option (Nat × Bool)} {w : World} (h1 : ρ x = .pointer (some ⟨blk (ρ x), ofs (ρ x), none⟩)) (h2 : (row w (blk (ρ x))).map (roomy (ofs (ρ x)) 4) = some true) : (execOp ρ ⟨dst, .load 198 x, ty, pos, after, gd⟩).run Try.prog w = .ok (.value (.agg (((row w (blk (ρ x))).getD #[]).extract (ofs (ρ x)) (ofs (ρ x) + 4)))) w := run_load_part _ 4 _ rst_under rfl rst_info h1 h2
theorem rst_quiet {C : World → Prop} {dst : Option Tmp} {x : Operand} {ty : TypeId} {pos : String} {after : Array Edge} {gd : Option (Nat × Bool)} {a : Act} {w : World} {g o : Nat} {cs : Array Value} (h1 : a.eval x = .pointer (some ⟨g, o, none⟩)) (h2 : row w g = some cs) (hs : roomy o 4 cs = true) : Oper.quietAt Try.prog ⟨dst, .load 198 x, ty, pos, after, gd⟩ a C w (.agg (cs.extract o (o + 4))) := quiet_load_part _ 4 _ rst_under rfl rst_info h1 h2 hs
attribute [go_sem ↓] rst_load rst_store rst_run_load
def stEq (s t : St) : Bool := (s.bal == t.bal) && ((s.eff == t.eff) && ((s.score == t.score) && (s.streak == t.streak)))
theorem stEq_self (s : St) : stEq s s = true := by simp [stEq]
theorem st_noguard : Try.prog.eqGuardType Try.prog.depth 195 = false := by kernel_rfl
theorem st_unheld : Try.prog.stoodInHeld 195 = false := by kernel_rfl
theorem run_eql_st (s t : St) (w : World) : (binOp .eql 195 (.agg s.cells) (.agg t.cells)).run Try.prog w = .ok (.bool (stEq s t)) w := by
  rw [run_eql_struct, run_equalIn_struct w _ _ _ _ st_under st_unheld]
  simp [Program.fieldsOf, Try.underlying195, Op.eqFields, part, go_sem, Int.natCast_inj]
  by_cases h1 : s.bal = t.bal <;> by_cases h2 : s.eff = t.eff <;> by_cases h3 : s.score = t.score <;> by_cases h4 : s.streak = t.streak <;> simp [stEq, h1, h2, h3, h4]
theorem run_neq_st (s t : St) (w : World) : (binOp .neq 195 (.agg s.cells) (.agg t.cells)).run Try.prog w = .ok (.bool (!stEq s t)) w := by
  rw [run_neq_struct, run_equalIn_struct w _ _ _ _ st_under st_unheld]
  simp [Program.fieldsOf, Try.underlying195, Op.eqFields, part, go_sem, Int.natCast_inj]
  by_cases h1 : s.bal = t.bal <;> by_cases h2 : s.eff = t.eff <;> by_cases h3 : s.score = t.score <;> by_cases h4 : s.streak = t.streak <;> simp [stEq, h1, h2, h3, h4]
theorem st_f0 (s : St) (w : World) : (Instr.field 195 (.agg s.cells) 0).run Try.prog w = .ok (.int .u64 s.bal) w := by kernel_rfl
theorem st_f1 (s : St) (w : World) : (Instr.field 195 (.agg s.cells) 1).run Try.prog w = .ok (.int .u64 s.eff) w := by kernel_rfl
theorem st_f2 (s : St) (w : World) : (Instr.field 195 (.agg s.cells) 2).run Try.prog w = .ok (.int .u64 s.score) w := by kernel_rfl
theorem st_f3 (s : St) (w : World) : (Instr.field 195 (.agg s.cells) 3).run Try.prog w = .ok (.int .i64 s.streak) w := by kernel_rfl
attribute [go_sem ↓] st_f0 st_f1 st_f2 st_f3
attribute [go_sem ↓] run_eql_st run_neq_st
attribute [go_sem] stEq_self st_noguard
theorem rst_noguard : Try.prog.eqGuardType Try.prog.depth 198 = false := by kernel_rfl
theorem rst_unheld : Try.prog.stoodInHeld 198 = false := by kernel_rfl
theorem run_eql_rst (s t : St) (w : World) : (binOp .eql 198 (.agg s.cells) (.agg t.cells)).run Try.prog w = .ok (.bool (stEq s t)) w := by
  rw [run_eql_struct, run_equalIn_struct w _ _ _ _ rst_under rst_unheld]
  simp [Program.fieldsOf, Try.underlying198, Op.eqFields, part, go_sem, Int.natCast_inj]
  by_cases h1 : s.bal = t.bal <;> by_cases h2 : s.eff = t.eff <;> by_cases h3 : s.score = t.score <;> by_cases h4 : s.streak = t.streak <;> simp [stEq, h1, h2, h3, h4]
theorem run_neq_rst (s t : St) (w : World) : (binOp .neq 198 (.agg s.cells) (.agg t.cells)).run Try.prog w = .ok (.bool (!stEq s t)) w := by
  rw [run_neq_struct, run_equalIn_struct w _ _ _ _ rst_under rst_unheld]
  simp [Program.fieldsOf, Try.underlying198, Op.eqFields, part, go_sem, Int.natCast_inj]
  by_cases h1 : s.bal = t.bal <;> by_cases h2 : s.eff = t.eff <;> by_cases h3 : s.score = t.score <;> by_cases h4 : s.streak = t.streak <;> simp [stEq, h1, h2, h3, h4]
attribute [go_sem ↓] run_eql_rst run_neq_rst
attribute [go_sem] rst_noguard
end Go.Proofs.Ytnakkjgnjffkpaa

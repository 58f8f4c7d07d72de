/-
  Two parameters held against each other with '=='.
-/
import Derived.Test.YtnakkjgnjffkpaaPar
import Derived.Laws.StructEq
namespace Go.Proofs.Ytnakkjgnjffkpaa
open Go.RowKit
set_option linter.unusedVariables false

/-- The fields of a struct of whole numbers are held against each other one by one. -/
theorem eqFields_step {P : Program} {w : World} {d : Nat} {xs ys : Array Value} {f : Field} {fs : List Field} {k : IntKind} {a b : Int} (hn : f.name ≠ "_") (hu : P.underlying f.type = some (.int k))
    (hx : (part f.type xs f.offset).run P w = .ok (.int k a) w) (hy : (part f.type ys f.offset).run P w = .ok (.int k b) w) {r : Bool} (h : (Op.eqFields (d + 1) xs ys fs).run P w = .ok r w) :
    (Op.eqFields (d + 1) xs ys (f :: fs)).run P w = .ok (decide (a = b) && r) w := by
  have e1 := run_equalIn_int (P := P) w d f.type k k a b hu
  simp only [Op.eqFields, if_pos hn, Sem.run_bind, hx, hy, Result.andThen_ok, e1, Sem.run_ite]
  by_cases hab : a = b
  · subst hab; simp [h]
  · have : (a == b) = false := beq_eq_false_iff_ne.2 hab
    simp [this, hab]
theorem eqFields_nil {P : Program} {w : World} {d : Nat} {xs ys : Array Value} : (Op.eqFields d xs ys []).run P w = .ok true w := rfl
deriving instance DecidableEq for Par
def parEq (p q : Par) : Bool := decide (p = q)
theorem parEq_self (p : Par) : parEq p p = true := decide_eq_true rfl
def parEqL (p q : Par) : Bool := (decide ((p.inc : Int) = q.inc) && (decide ((p.maxEff : Int) = q.maxEff) && (decide ((p.floor : Int) = q.floor) && (decide ((p.cap : Int) = q.cap) && (decide ((p.up : Int) = q.up) && (decide ((p.down : Int) = q.down) && (decide ((p.bias : Int) = q.bias) && (decide ((p.quot : Int) = q.quot) && (decide ((p.biasEm : Int) = q.biasEm) && (decide ((p.quotEm : Int) = q.quotEm) && (decide ((p.recover : Int) = q.recover) && (decide ((p.scoreCap : Int) = q.scoreCap) && (decide ((p.rate : Int) = q.rate) && (decide ((p.bond : Int) = q.bond) && (decide (p.delay = q.delay) && (decide (p.streak = q.streak) && (decide (p.boost = q.boost) && (decide (p.absent = q.absent) && (decide (p.burn = q.burn) && (decide (p.churn = q.churn) && (decide (p.wait = q.wait) && (decide (p.poll = q.poll) && (decide (p.enact = q.enact) && (decide (p.quorum = q.quorum) && true))))))))))))))))))))))))
theorem parEq_iff (p q : Par) : parEqL p q = parEq p q := by
  cases p; cases q
  simp only [parEq, parEqL, Par.mk.injEq, Int.natCast_inj, Bool.and_true, Bool.decide_and]
attribute [go_sem] parEq_self
theorem par_noguard : Try.prog.eqGuardType Try.prog.depth 76 = false := by kernel_rfl
theorem par_unheld : Try.prog.stoodInHeld 76 = false := by kernel_rfl
set_option maxRecDepth 100000 in
theorem par_eqFields (p q : Par) (w : World) : (Op.eqFields 9999 p.cells q.cells (Try.prog.fieldsOf 76).toList).run Try.prog w = .ok (parEq p q) w := by
  rw [← parEq_iff]
  simp only [Program.fieldsOf, Try.underlying76]
  unfold parEqL
  repeat (refine eqFields_step (by decide) (by kernel_rfl) rfl rfl ?_)
  exact eqFields_nil
theorem run_eql_par (p q : Par) (w : World) : (binOp .eql 76 (.agg p.cells) (.agg q.cells)).run Try.prog w = .ok (.bool (parEq p q)) w := by
  rw [run_eql_struct, run_equalIn_struct w _ _ _ _ par_under par_unheld, par_eqFields]; rfl
theorem run_neq_par (p q : Par) (w : World) : (binOp .neq 76 (.agg p.cells) (.agg q.cells)).run Try.prog w = .ok (.bool (!parEq p q)) w := by
  rw [run_neq_struct, run_equalIn_struct w _ _ _ _ par_under par_unheld, par_eqFields]; rfl
attribute [go_sem ↓] run_eql_par run_neq_par
attribute [go_sem] par_noguard
theorem rpar_under : Try.prog.underlying 88 = some (.struct (Try.prog.fieldsOf 88)) := by kernel_rfl
theorem rpar_info : (Try.prog.info? 88).map (·.size) = some 24 := by kernel_rfl
theorem rpar_load {dst : Option Tmp} {x : Operand} {ty : TypeId} {pos : String} {after : Array Edge} {gd : Option (Nat × Bool)} {a : Act} {w : World} {K : Act → World → Prop} {Q : Exit → Act → World → Prop}
    (h1 : a.eval x = .pointer (some ⟨blk (a.eval x), 0, none⟩)) (h2 : (row w (blk (a.eval x))).map (·.size) = some 24) :
    Oper.wp Try.prog ⟨dst, .load 88 x, ty, pos, after, gd⟩ a w K Q = K (a.put dst (.agg ((row w (blk (a.eval x))).getD #[]))) w := wp_load_agg _ 24 _ rpar_under rfl rpar_info h1 h2
attribute [go_sem ↓] rpar_load
theorem rpar_noguard : Try.prog.eqGuardType Try.prog.depth 88 = false := by kernel_rfl
theorem rpar_unheld : Try.prog.stoodInHeld 88 = false := by kernel_rfl
set_option maxRecDepth 100000 in
theorem rpar_eqFields (p q : Par) (w : World) : (Op.eqFields 9999 p.cells q.cells (Try.prog.fieldsOf 88).toList).run Try.prog w = .ok (parEq p q) w := by
  rw [← parEq_iff]
  simp only [Program.fieldsOf, Try.underlying88]
  unfold parEqL
  repeat (refine eqFields_step (by decide) (by kernel_rfl) rfl rfl ?_)
  exact eqFields_nil
theorem run_eql_rpar (p q : Par) (w : World) : (binOp .eql 88 (.agg p.cells) (.agg q.cells)).run Try.prog w = .ok (.bool (parEq p q)) w := by
  rw [run_eql_struct, run_equalIn_struct w _ _ _ _ rpar_under rpar_unheld, rpar_eqFields]; rfl
theorem run_neq_rpar (p q : Par) (w : World) : (binOp .neq 88 (.agg p.cells) (.agg q.cells)).run Try.prog w = .ok (.bool (!parEq p q)) w := by
  rw [run_neq_struct, run_equalIn_struct w _ _ _ _ rpar_under rpar_unheld, rpar_eqFields]; rfl
attribute [go_sem ↓] run_eql_rpar run_neq_rpar
attribute [go_sem] rpar_noguard
end Go.Proofs.Ytnakkjgnjffkpaa

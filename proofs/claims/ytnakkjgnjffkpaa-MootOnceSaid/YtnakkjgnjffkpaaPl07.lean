/-
  Parameters as the document has them (law07.Plain); the simple parameters are right.
-/
import Derived.Test.YtnakkjgnjffkpaaCheck
import Derived.Test.YtnakkjgnjffkpaaParEq
namespace Go.Proofs.Ytnakkjgnjffkpaa
open Go.RowKit
set_option linter.unusedVariables false

theorem rpar_store {dst : Option Tmp} {x y : Operand} {ty : TypeId} {pos : String} {after : Array Edge} {gd : Option (Nat × Bool)} {a : Act} {w : World} {K : Act → World → Prop} {Q : Exit → Act → World → Prop}
    (h1 : a.eval x = .pointer (some ⟨blk (a.eval x), 0, none⟩)) (h2 : (row w (blk (a.eval x))).map (·.size) = some 24)
    (h3 : a.eval y = .agg (aggOf (a.eval y))) (h4 : (aggOf (a.eval y)).size = 24) (h5 : allOne (aggOf (a.eval y)) = true) :
    Oper.wp Try.prog ⟨dst, .store 88 x y, ty, pos, after, gd⟩ a w K Q = K (a.put dst undef) (w.setRow (blk (a.eval x)) (aggOf (a.eval y))) := wp_store_agg _ 24 rpar_info h1 h2 h3 h4 h5
attribute [go_sem ↓] rpar_store
def zeroP : Par := { inc := 0, maxEff := 0, floor := 0, cap := 0, up := 0, down := 0, bias := 0, quot := 0, biasEm := 0, quotEm := 0, recover := 0, scoreCap := 0, rate := 0, bond := 0, delay := 0, streak := 0, boost := 0, absent := 0, burn := 0, churn := 0, wait := 0, poll := 0, enact := 0, quorum := 0 }
theorem par_build0 {dst : Option Tmp} {ty : TypeId} {pos : String} {after : Array Edge} {gd : Option (Nat × Bool)} {a : Act} {w : World} {K : Act → World → Prop} {Q : Exit → Act → World → Prop} :
    Oper.wp Try.prog ⟨dst, .build 76 #[], ty, pos, after, gd⟩ a w K Q = K (a.put dst (.agg zeroP.cells)) w := by
  have h : Try.prog.built 76 [] = some zeroP.cells := by kernel_rfl
  unfold Oper.wp execOp
  simp [run_build, h]
  rfl
attribute [go_sem ↓] par_build0
theorem row_new2 (w : World) (a : Array Value) (s t : TypeId) (o : Obj) (h : o = .cells a s) : (w.alloc o).heap.size = w.heap.size + 1 := by simp
set_option maxHeartbeats 1000000 in
theorem plain_any (P : Par) (w : World) : Calls Try.prog 35 #[.agg P.cells] w fun e w' => e = .returned (.agg P.cells) ∧ Below w.heap.size w w' := by
  go_enter Try.func35, Try.ntmps35
  go_wp2_with fail
  exact bodyPost_ret (v := .agg P.cells) (results_cell_row Try.results35 _ _ (w.heap.size + 1) 88 P.cells (0, 0) _ rfl (heap_at _ _ _ (by simp)) rpar_under rfl rpar_info) rfl ⟨rfl, (by (repeat (first | exact Below.refl _ _ | assumption | (refine Below.allocT ?_ _) | refine Below.drew ?_ | refine below_drewN ?_ _ | (refine Below.then ?_ (by assumption)) | (refine Below.setRow ?_ ?_ _; rotate_left; (focus (first | exact Nat.lt_succ_self _ | ((repeat rw [World.size_alloc]); omega) | (simp; done) | (simp; omega) | omega))) | (refine Below.setCell ?_ ?_ _; rotate_left; (focus (first | exact Nat.lt_succ_self _ | ((repeat rw [World.size_alloc]); omega) | (simp; done) | (simp; omega) | omega))) | (refine Below.then' ?_ (by assumption) ?_; rotate_left; (focus (first | exact Nat.lt_succ_self _ | ((repeat rw [World.size_alloc]); omega) | (simp; done) | (simp; omega) | omega))) | fail)); (first | done | fail))⟩
theorem leakT_simple : leakT simpleP = 12 := by
  show leakF (10 * 4) (2 * 100 * (40 - 10)) leakN 1 = 12
  exact (leakF_unique (K := 10 * 4) (A := 2 * 100 * (40 - 10)) (h := 12) (by omega) (by omega) (fun s h1 h2 => by have := leak_mono (10 * 4) (s := s) (t := 11) (by omega); omega) (fun _ => by decide)).symm
theorem right_simple : rightB simpleP = true := by
  have h1 : stakesB simpleP = true := by decide
  have h2 : scoresB simpleP = true := by decide
  have h3 : othersB simpleP = true := by decide
  unfold rightB
  rw [h1, h2, h3, leakT_simple]; decide
theorem right_zero : rightB zeroP = false := by
  have h1 : stakesB zeroP = false := by decide
  unfold rightB
  rw [h1]; rfl
end Go.Proofs.Ytnakkjgnjffkpaa

/-
  What the parameters' smaller functions answer: bullionlaw07.Plain, param.Least; the chapter's example.
-/
import Derived.Test.YtecdfphfgaeodaaCheck
import Derived.Test.YtecdfphfgaeodaaRatio2
namespace Go.Proofs.Ytecdfphfgaeodaa
open Go.RowKit
set_option linter.unusedVariables false

theorem rpar_store {dst : Option Tmp} {x y : Operand} {ty : TypeId} {pos : String} {after : Array Edge} {gd : Option (Nat × Bool)} {a : Act} {w : World} {K : Act → World → Prop} {Q : Exit → Act → World → Prop}
    (h1 : a.eval x = .pointer (some ⟨blk (a.eval x), 0, none⟩)) (h2 : (row w (blk (a.eval x))).map (·.size) = some 24)
    (h3 : a.eval y = .agg (aggOf (a.eval y))) (h4 : (aggOf (a.eval y)).size = 24) (h5 : allOne (aggOf (a.eval y)) = true) :
    Oper.wp Try.prog ⟨dst, .store 30 x y, ty, pos, after, gd⟩ a w K Q = K (a.put dst undef) (w.setRow (blk (a.eval x)) (aggOf (a.eval y))) := wp_store_agg _ 24 rpar_info h1 h2 h3 h4 h5
attribute [go_sem ↓] rpar_store
def zeroP : Par := { inc := 0, maxEff := 0, floor := 0, cap := 0, up := 0, down := 0, bias := 0, quot := 0, biasEm := 0, quotEm := 0, recover := 0, scoreCap := 0, rate := 0, bond := 0, delay := 0, streak := 0, boost := 0, absent := 0, burn := 0, churn := 0, wait := 0, poll := 0, enact := 0, quorum := 0 }
theorem par_build0 {dst : Option Tmp} {ty : TypeId} {pos : String} {after : Array Edge} {gd : Option (Nat × Bool)} {a : Act} {w : World} {K : Act → World → Prop} {Q : Exit → Act → World → Prop} :
    Oper.wp Try.prog ⟨dst, .build 24 #[], ty, pos, after, gd⟩ a w K Q = K (a.put dst (.agg zeroP.cells)) w := by
  have h : Try.prog.built 24 [] = some zeroP.cells := by kernel_rfl
  unfold Oper.wp execOp
  simp [run_build, h]
  rfl
attribute [go_sem ↓] par_build0
theorem row_new2 (w : World) (a : Array Value) (s t : TypeId) (o : Obj) (h : o = .cells a s) : (w.alloc o).heap.size = w.heap.size + 1 := by simp
set_option maxHeartbeats 1000000 in
theorem plain_any (P : Par) (w : World) : Calls Try.prog 15 #[.agg P.cells] w fun e w' => e = .returned (.agg P.cells) ∧ Below w.heap.size w w' := by
  go_enter Try.func15, Try.ntmps15
  go_wp2_with fail
  exact bodyPost_ret (v := .agg P.cells) (results_cell_row Try.results15 _ _ (w.heap.size + 1) 30 P.cells (0, 0) _ rfl (heap_at _ _ _ (by simp)) rpar_under rfl rpar_info) rfl ⟨rfl, (by (repeat (first | exact Below.refl _ _ | assumption | (refine Below.allocT ?_ _) | refine Below.drew ?_ | refine below_drewN ?_ _ | (refine Below.then ?_ (by assumption)) | (refine Below.setRow ?_ ?_ _; rotate_left; (focus (first | exact Nat.lt_succ_self _ | ((repeat rw [World.size_alloc]); omega) | (simp; done) | (simp; omega) | omega))) | (refine Below.setCell ?_ ?_ _; rotate_left; (focus (first | exact Nat.lt_succ_self _ | ((repeat rw [World.size_alloc]); omega) | (simp; done) | (simp; omega) | omega))) | (refine Below.then' ?_ (by assumption) ?_; rotate_left; (focus (first | exact Nat.lt_succ_self _ | ((repeat rw [World.size_alloc]); omega) | (simp; done) | (simp; omega) | omega))) | fail)); (first | done | fail))⟩
def leastN (P : Par) : Nat := upQ (P.inc * P.bias) P.quot
def leastV (P : Par) : Nat := if rightB P then leastN P else 0
theorem upQ_le (n c : Nat) : upQ n c ≤ n / c + 1 := by unfold upQ; split <;> omega
theorem upQ_mul {n c : Nat} (h : 0 < c) : n ≤ upQ n c * c := by
  have := Nat.div_add_mod n c
  unfold upQ
  split
  · rw [Nat.add_zero, Nat.mul_comm]; omega
  · have := Nat.mod_lt n h
    rw [Nat.add_mul, Nat.mul_comm]; omega
theorem up_fit {n c : Nat} (hc : 0 < c) (h : upQ n c ≤ 18446744073709551615) : upV n c = upQ n c ∧ upE n c = 0 := by
  unfold upV upE
  rw [if_neg (by omega), if_neg (by omega), fit_le h, told_le h]
  exact ⟨rfl, rfl⟩
theorem least_fit {P : Par} (h : LeakOk P) : upV (P.inc * P.bias) P.quot = leastN P ∧ upE (P.inc * P.bias) P.quot = 0 ∧ 1 ≤ leastN P ∧ leastN P ≤ 9223372036854775809 := by
  obtain ⟨h1, h2, h3, h4, h5, h6, h7, h8⟩ := h
  have hK : P.inc * P.bias ≤ 2147483648 * 4294967296 := Nat.mul_le_mul h2 h4
  have hu := upQ_le (P.inc * P.bias) P.quot
  have hd := Nat.div_le_self (P.inc * P.bias) P.quot
  have hm := upQ_mul (n := P.inc * P.bias) (c := P.quot) (by omega)
  have hp : 0 < P.inc * P.bias := Nat.mul_pos (by omega) (by omega)
  have := up_fit (n := P.inc * P.bias) (c := P.quot) (by omega) (by omega)
  refine ⟨this.1, this.2, ?_, by unfold leastN; omega⟩
  rcases Nat.eq_zero_or_pos (leastN P) with h0 | h0
  · unfold leastN at h0; rw [h0] at hm; omega
  · exact h0
set_option maxHeartbeats 1000000 in
theorem least_any (P : Par) (w : World) : Calls Try.prog 19 #[.agg P.cells] w fun e w' => e = .returned (.tuple #[.int .u64 ((leastV P : Nat) : Int), .int .i64 (checkE P)]) ∧ Below w.heap.size w w' := by
  have r1 : row (w.alloc (.cells P.cells 24)) w.heap.size = some P.cells := (by (repeat (first | assumption | (refine row_at _ _ _ _ ?_; first | rfl | (simp only [World.size_alloc]; done) | (simp only [World.size_alloc]; omega)) | (refine (row_past _ _ _ ?_).trans ?_; (focus (first | exact Nat.lt_succ_self _ | ((repeat rw [World.size_alloc]); omega) | (simp; done) | (simp; omega) | omega))) | rw [row_drewN] | rw [row_drew])); (first | done | fail))
  have hB0 : Below w.heap.size w (w.alloc (.cells P.cells 24)) := (by (repeat (first | exact Below.refl _ _ | assumption | (refine Below.allocT ?_ _) | refine Below.drew ?_ | refine below_drewN ?_ _ | (refine Below.then ?_ (by assumption)) | (refine Below.setRow ?_ ?_ _; rotate_left; (focus (first | exact Nat.lt_succ_self _ | ((repeat rw [World.size_alloc]); omega) | (simp; done) | (simp; omega) | omega))) | (refine Below.setCell ?_ ?_ _; rotate_left; (focus (first | exact Nat.lt_succ_self _ | ((repeat rw [World.size_alloc]); omega) | (simp; done) | (simp; omega) | omega))) | (refine Below.then' ?_ (by assumption) ?_; rotate_left; (focus (first | exact Nat.lt_succ_self _ | ((repeat rw [World.size_alloc]); omega) | (simp; done) | (simp; omega) | omega))) | fail)); (first | done | fail))
  have H1 := Lib.hid (fun W => check_any P W)
  cases hr : rightB P
  · have e1 : checkE P = 70 := by simp [checkE, hr]
    have e2 : leastV P = 0 := by simp [leastV, hr]
    rw [e1] at H1 ⊢
    rw [e2]
    clear e1 e2 hr
    go_enter Try.func19, Try.ntmps19
    go_wp2_with fail
    generalize w.alloc (.cells P.cells 24) = W at *
    refine (H1.out _).mono ?_
    rintro e w1 ⟨rfl, hb1⟩
    go_wp2_with fail
    go_ret2
    exact ⟨rfl, Below.then hB0 hb1⟩
  · have e1 : checkE P = 0 := by simp [checkE, hr]
    have e2 : leastV P = leastN P := by simp [leastV, hr]
    have hLk : LeakOk P := leakOk_of (right_facts hr).1 (right_facts hr).2.1
    obtain ⟨e3, e4, _, _⟩ := least_fit hLk
    obtain ⟨k1, k2, k3, k4, k5, k6, _, _⟩ := hLk
    have H2 := Lib.hid (fun W => up_any P.inc P.bias P.quot (by omega) (by omega) (by omega) W)
    rw [e3, e4] at H2
    rw [e1] at H1 ⊢
    rw [e2]
    clear e1 e2 e3 e4 hr
    go_enter Try.func19, Try.ntmps19
    go_wp2_with fail
    generalize w.alloc (.cells P.cells 24) = W at *
    refine (H1.out _).mono ?_
    rintro e w1 ⟨rfl, hb1⟩
    have s1 := (row_below hb1 (row_lt r1)).trans r1
    have hB1 := Below.then hB0 hb1
    have hc0 : ∀ i, w1.cell? ⟨w.heap.size, i, none⟩ = P.cells[i]? := fun i => row_cell s1 i
    clear r1 hB0 hb1
    go_wp2_with fail
    refine (H2.out _).mono ?_
    rintro e w2 ⟨rfl, hb2⟩
    go_wp2_with fail
    go_ret2
    exact ⟨rfl, Below.then hB1 hb2⟩
theorem leakT_simple : leakT simpleP = 12 := by
  show leakF (10 * 4) (2 * 100 * (40 - 10)) leakN 1 = 12
  exact (leakF_unique (K := 10 * 4) (A := 2 * 100 * (40 - 10)) (h := 12) (by omega) (by omega) (fun s h1 h2 => by have := leak_mono (10 * 4) (s := s) (t := 11) (by omega); omega) (fun _ => by decide)).symm
theorem right_simple : rightB simpleP = true := by
  have h1 : stakesB simpleP = true := by decide
  have h2 : scoresB simpleP = true := by decide
  have h3 : othersB simpleP = true := by decide
  unfold rightB
  rw [h1, h2, h3, leakT_simple]; decide
theorem right_zero : rightB zeroP = false := by
  have h1 : stakesB zeroP = false := by decide
  unfold rightB
  rw [h1]; rfl
set_option maxHeartbeats 1000000 in
theorem awake07_any (w : World) : Calls Try.prog 12 #[] w fun e w' => e = .returned (.bool true) ∧ Below w.heap.size w w' := by
  have H1 := Lib.hid (fun W => simple_any W)
  have H2 := Lib.hid (fun W => pleak_any simpleP W)
  have H3 := Lib.hid (fun W => least_any simpleP W)
  have H4 := Lib.hid (fun W => check_any zeroP W)
  have e1 : leakV simpleP = 12 := by rw [leakV, right_simple, leakT_simple]; rfl
  have e2 : checkE simpleP = 0 := by rw [checkE, right_simple]; rfl
  have e3 : leastV simpleP = 1 := by rw [leastV, right_simple]; decide
  have e4 : checkE zeroP = 70 := by rw [checkE, right_zero]; rfl
  rw [e1, e2] at H2
  rw [e3, e2] at H3
  rw [e4] at H4
  clear e1 e2 e3 e4
  go_enter Try.func12, Try.ntmps12
  go_wp2_with fail
  refine (H1.out _).mono ?_
  rintro e w1 ⟨rfl, hb1⟩
  go_wp2_with fail
  refine (H2.out _).mono ?_
  rintro e w2 ⟨rfl, hb2⟩
  go_wp2_with fail
  refine (H1.out _).mono ?_
  rintro e w3 ⟨rfl, hb3⟩
  go_wp2_with fail
  refine (H3.out _).mono ?_
  rintro e w4 ⟨rfl, hb4⟩
  go_wp2_with fail
  refine (H4.out _).mono ?_
  rintro e w5 ⟨rfl, hb5⟩
  go_wp2_with fail
  go_ret
  exact ⟨rfl, (by (repeat (first | exact Below.refl _ _ | assumption | (refine Below.allocT ?_ _) | refine Below.drew ?_ | refine below_drewN ?_ _ | (refine Below.then ?_ (by assumption)) | (refine Below.setRow ?_ ?_ _; rotate_left; (focus (first | exact Nat.lt_succ_self _ | ((repeat rw [World.size_alloc]); omega) | (simp; done) | (simp; omega) | omega))) | (refine Below.setCell ?_ ?_ _; rotate_left; (focus (first | exact Nat.lt_succ_self _ | ((repeat rw [World.size_alloc]); omega) | (simp; done) | (simp; omega) | omega))) | (refine Below.then' ?_ (by assumption) ?_; rotate_left; (focus (first | exact Nat.lt_succ_self _ | ((repeat rw [World.size_alloc]); omega) | (simp; done) | (simp; omega) | omega))) | fail)); (first | done | fail))⟩
end Go.Proofs.Ytecdfphfgaeodaa

/-
  What package grain's functions answer, and bullionref10's.
-/
import Derived.Test.YtkfbnaafpikgfaaCheck
import Derived.Test.YtkfbnaafpikgfaaMoney
import Derived.Test.YtkfbnaafpikgfaaAgg
namespace Go.Proofs.Ytkfbnaafpikgfaa
open Go.RowKit
set_option linter.unusedVariables false

def noP : Par := { inc := 0, maxEff := 0, floor := 0, cap := 0, up := 0, down := 0, bias := 0, quot := 0, biasEm := 0, quotEm := 0, recover := 0, scoreCap := 0, rate := 0, bond := 0, delay := 0, streak := 0, boost := 0, absent := 0, burn := 0, churn := 0, wait := 0, poll := 0, enact := 0, quorum := 0 }
def wholeN (P : Par) (b : Nat) : Nat := min (b - b % P.inc) P.maxEff
def farB (P : Par) (eff b : Nat) : Bool := decide (b + P.down < eff) || decide (eff + P.up < b)
def nextN (P : Par) (eff b : Nat) : Nat := if farB P eff b then wholeN P b else eff
def fitsB (P : Par) (eff b : Nat) : Bool := decide (P.inc ≤ eff) && (decide (eff ≤ P.maxEff) && (decide (eff % P.inc = 0) && decide (nextN P eff b = eff)))
theorem scale_under : Try.prog.underlying 144 = some (.struct (Try.prog.fieldsOf 144)) := by kernel_rfl
theorem scale_info : (Try.prog.info? 144).map (·.size) = some 24 := by kernel_rfl
theorem scale_load {dst : Option Tmp} {x : Operand} {ty : TypeId} {pos : String} {after : Array Edge} {gd : Option (Nat × Bool)} {a : Act} {w : World} {K : Act → World → Prop} {Q : Exit → Act → World → Prop}
    (h1 : a.eval x = .pointer (some ⟨blk (a.eval x), 0, none⟩)) (h2 : (row w (blk (a.eval x))).map (·.size) = some 24) :
    Oper.wp Try.prog ⟨dst, .load 144 x, ty, pos, after, gd⟩ a w K Q = K (a.put dst (.agg ((row w (blk (a.eval x))).getD #[]))) w := wp_load_agg _ 24 _ scale_under rfl scale_info h1 h2
theorem scale_store {dst : Option Tmp} {x y : Operand} {ty : TypeId} {pos : String} {after : Array Edge} {gd : Option (Nat × Bool)} {a : Act} {w : World} {K : Act → World → Prop} {Q : Exit → Act → World → Prop}
    (h1 : a.eval x = .pointer (some ⟨blk (a.eval x), 0, none⟩)) (h2 : (row w (blk (a.eval x))).map (·.size) = some 24)
    (h3 : a.eval y = .agg (aggOf (a.eval y))) (h4 : (aggOf (a.eval y)).size = 24) (h5 : allOne (aggOf (a.eval y)) = true) :
    Oper.wp Try.prog ⟨dst, .store 144 x y, ty, pos, after, gd⟩ a w K Q = K (a.put dst undef) (w.setRow (blk (a.eval x)) (aggOf (a.eval y))) := wp_store_agg _ 24 scale_info h1 h2 h3 h4 h5
theorem scale_built (P : Par) : Try.prog.built 144 [(0, .agg P.cells)] = some P.cells := by kernel_rfl
theorem scale_build {x : Operand} {dst : Option Tmp} {ty : TypeId} {pos : String} {after : Array Edge} {gd : Option (Nat × Bool)} {a : Act} {w : World} {K : Act → World → Prop} {Q : Exit → Act → World → Prop}
    (h : Try.prog.built 144 [(0, a.eval x)] = some (aggOf (a.eval x))) :
    Oper.wp Try.prog ⟨dst, .build 144 #[(0, x)], ty, pos, after, gd⟩ a w K Q = K (a.put dst (.agg (aggOf (a.eval x)))) w := by
  unfold Oper.wp execOp
  simp [run_build, h]
  rfl
attribute [go_sem ↓] scale_load scale_store scale_build
theorem scale_run_load {ρ : Operand → Value} {dst : Option Tmp} {x : Operand} {ty : TypeId} {pos : String} {after : Array Edge} {gd : Option (Nat × Bool)} {w : World}
    (h1 : ρ x = .pointer (some ⟨blk (ρ x), 0, none⟩)) (h2 : (row w (blk (ρ x))).map (·.size) = some 24) :
    (execOp ρ ⟨dst, .load 144 x, ty, pos, after, gd⟩).run Try.prog w = .ok (.value (.agg ((row w (blk (ρ x))).getD #[]))) w := run_load_agg _ 24 _ scale_under rfl scale_info h1 h2
theorem scale_run_build {x : Operand} {ρ : Operand → Value} {dst : Option Tmp} {ty : TypeId} {pos : String} {after : Array Edge} {gd : Option (Nat × Bool)} {w : World}
    (h : Try.prog.built 144 [(0, ρ x)] = some (aggOf (ρ x))) : (execOp ρ ⟨dst, .build 144 #[(0, x)], ty, pos, after, gd⟩).run Try.prog w = .ok (.value (.agg (aggOf (ρ x)))) w := run_build_agg _ h
attribute [go_sem ↓] scale_run_load scale_run_build
attribute [go_sem] scale_built
set_option maxHeartbeats 1000000 in
theorem scaled_any (P : Par) (w : World) : Calls Try.prog 91 #[.agg P.cells] w fun e w' => e = .returned (.tuple #[.agg P.cells, .bool (rightB P)]) ∧ Below w.heap.size w w' := by
  have r0 : row ((w.alloc (.cells P.cells 24)).alloc (.cells #[.int .u64 0, .int .u64 0, .int .u64 0, .int .u64 0, .int .u64 0, .int .u64 0, .int .u64 0, .int .u64 0, .int .u64 0, .int .u64 0, .int .u64 0, .int .u64 0, .int .u64 0, .int .u64 0, .int .i64 0, .int .i64 0, .int .i64 0, .int .i64 0, .int .i64 0, .int .i64 0, .int .i64 0, .int .i64 0, .int .i64 0, .int .i64 0] 144)) w.heap.size = some P.cells := (by (repeat (first | assumption | (refine row_at _ _ _ _ ?_; first | rfl | (simp only [World.size_alloc]; done) | (simp only [World.size_alloc]; omega)) | (refine (row_past _ _ _ ?_).trans ?_; (focus (first | exact Nat.lt_succ_self _ | ((repeat rw [World.size_alloc]); omega) | (simp; done) | (simp; omega) | omega))) | rw [row_drewN] | rw [row_drew])); (first | done | fail))
  have s0 : row ((w.alloc (.cells P.cells 24)).alloc (.cells #[.int .u64 0, .int .u64 0, .int .u64 0, .int .u64 0, .int .u64 0, .int .u64 0, .int .u64 0, .int .u64 0, .int .u64 0, .int .u64 0, .int .u64 0, .int .u64 0, .int .u64 0, .int .u64 0, .int .i64 0, .int .i64 0, .int .i64 0, .int .i64 0, .int .i64 0, .int .i64 0, .int .i64 0, .int .i64 0, .int .i64 0, .int .i64 0] 144)) (w.heap.size + 1) = some #[.int .u64 0, .int .u64 0, .int .u64 0, .int .u64 0, .int .u64 0, .int .u64 0, .int .u64 0, .int .u64 0, .int .u64 0, .int .u64 0, .int .u64 0, .int .u64 0, .int .u64 0, .int .u64 0, .int .i64 0, .int .i64 0, .int .i64 0, .int .i64 0, .int .i64 0, .int .i64 0, .int .i64 0, .int .i64 0, .int .i64 0, .int .i64 0] := (by (repeat (first | assumption | (refine row_at _ _ _ _ ?_; first | rfl | (simp only [World.size_alloc]; done) | (simp only [World.size_alloc]; omega)) | (refine (row_past _ _ _ ?_).trans ?_; (focus (first | exact Nat.lt_succ_self _ | ((repeat rw [World.size_alloc]); omega) | (simp; done) | (simp; omega) | omega))) | rw [row_drewN] | rw [row_drew])); (first | done | fail))
  have hB0 : Below w.heap.size w ((w.alloc (.cells P.cells 24)).alloc (.cells #[.int .u64 0, .int .u64 0, .int .u64 0, .int .u64 0, .int .u64 0, .int .u64 0, .int .u64 0, .int .u64 0, .int .u64 0, .int .u64 0, .int .u64 0, .int .u64 0, .int .u64 0, .int .u64 0, .int .i64 0, .int .i64 0, .int .i64 0, .int .i64 0, .int .i64 0, .int .i64 0, .int .i64 0, .int .i64 0, .int .i64 0, .int .i64 0] 144)) := (by (repeat (first | exact Below.refl _ _ | assumption | (refine Below.allocT ?_ _) | refine Below.drew ?_ | refine below_drewN ?_ _ | (refine Below.then ?_ (by assumption)) | (refine Below.setRow ?_ ?_ _; rotate_left; (focus (first | exact Nat.lt_succ_self _ | ((repeat rw [World.size_alloc]); omega) | (simp; done) | (simp; omega) | omega))) | (refine Below.setCell ?_ ?_ _; rotate_left; (focus (first | exact Nat.lt_succ_self _ | ((repeat rw [World.size_alloc]); omega) | (simp; done) | (simp; omega) | omega))) | (refine Below.then' ?_ (by assumption) ?_; rotate_left; (focus (first | exact Nat.lt_succ_self _ | ((repeat rw [World.size_alloc]); omega) | (simp; done) | (simp; omega) | omega))) | fail)); (first | done | fail))
  have HC := Lib.hid (fun W => check_any P W)
  cases hr : rightB P
  all_goals
    have e1 : checkE P = if rightB P then 0 else 70 := rfl
    rw [hr] at e1
    (try simp only [if_true] at e1)
    (try simp only [if_false, Bool.false_eq_true] at e1)
    rw [e1] at HC
    clear e1 hr
    go_enter Try.func91, Try.ntmps91
    go_wp2_with fail
    generalize (w.alloc (.cells P.cells 24)).alloc (.cells #[.int .u64 0, .int .u64 0, .int .u64 0, .int .u64 0, .int .u64 0, .int .u64 0, .int .u64 0, .int .u64 0, .int .u64 0, .int .u64 0, .int .u64 0, .int .u64 0, .int .u64 0, .int .u64 0, .int .i64 0, .int .i64 0, .int .i64 0, .int .i64 0, .int .i64 0, .int .i64 0, .int .i64 0, .int .i64 0, .int .i64 0, .int .i64 0] 144) = W at *
    have hz := row_lt s0
    have HM : Hid (∀ w', Below W.heap.size W w' → row w' w.heap.size = some P.cells) := Lib.hid fun w' h => (row_below h (by omega)).trans r0
    have HM2 : Hid (∀ w', Below W.heap.size W w' → row w' (w.heap.size + 1) = row W (w.heap.size + 1)) := Lib.hid fun w' h => row_below h hz
    go_region_held3 (fun w' => row w' w.heap.size = some P.cells) (first | exact (row_setRow_far (by omega)).trans (HM.out _ (by (repeat (first | exact Below.refl _ _ | assumption | (refine Below.allocT ?_ _) | refine Below.drew ?_ | refine below_drewN ?_ _ | (refine Below.then ?_ (by assumption)) | (refine Below.setRow ?_ ?_ _; rotate_left; (focus (first | exact Nat.lt_succ_self _ | ((repeat rw [World.size_alloc]); omega) | (simp; done) | (simp; omega) | omega))) | (refine Below.setCell ?_ ?_ _; rotate_left; (focus (first | exact Nat.lt_succ_self _ | ((repeat rw [World.size_alloc]); omega) | (simp; done) | (simp; omega) | omega))) | (refine Below.then' ?_ (by assumption) ?_; rotate_left; (focus (first | exact Nat.lt_succ_self _ | ((repeat rw [World.size_alloc]); omega) | (simp; done) | (simp; omega) | omega))) | fail)); (first | done | fail))) | exact HM.out _ (by (repeat (first | exact Below.refl _ _ | assumption | (refine Below.allocT ?_ _) | refine Below.drew ?_ | refine below_drewN ?_ _ | (refine Below.then ?_ (by assumption)) | (refine Below.setRow ?_ ?_ _; rotate_left; (focus (first | exact Nat.lt_succ_self _ | ((repeat rw [World.size_alloc]); omega) | (simp; done) | (simp; omega) | omega))) | (refine Below.setCell ?_ ?_ _; rotate_left; (focus (first | exact Nat.lt_succ_self _ | ((repeat rw [World.size_alloc]); omega) | (simp; done) | (simp; omega) | omega))) | (refine Below.then' ?_ (by assumption) ?_; rotate_left; (focus (first | exact Nat.lt_succ_self _ | ((repeat rw [World.size_alloc]); omega) | (simp; done) | (simp; omega) | omega))) | fail)); (first | done | fail)) | fail) ((go_at_call 40; refine (HC.out _).mono ?_; rintro e w1 ⟨rfl, hb1⟩; have s1 := (HM2.out w1 (by (repeat (first | exact Below.refl _ _ | assumption | (refine Below.allocT ?_ _) | refine Below.drew ?_ | refine below_drewN ?_ _ | (refine Below.then ?_ (by assumption)) | (refine Below.setRow ?_ ?_ _; rotate_left; (focus (first | exact Nat.lt_succ_self _ | ((repeat rw [World.size_alloc]); omega) | (simp; done) | (simp; omega) | omega))) | (refine Below.setCell ?_ ?_ _; rotate_left; (focus (first | exact Nat.lt_succ_self _ | ((repeat rw [World.size_alloc]); omega) | (simp; done) | (simp; omega) | omega))) | (refine Below.then' ?_ (by assumption) ?_; rotate_left; (focus (first | exact Nat.lt_succ_self _ | ((repeat rw [World.size_alloc]); omega) | (simp; done) | (simp; omega) | omega))) | fail)); (first | done | fail))).trans s0))
    all_goals
      have hB1 : Below w.heap.size w w1 := (by (repeat (first | exact Below.refl _ _ | assumption | (refine Below.allocT ?_ _) | refine Below.drew ?_ | refine below_drewN ?_ _ | (refine Below.then ?_ (by assumption)) | (refine Below.setRow ?_ ?_ _; rotate_left; (focus (first | exact Nat.lt_succ_self _ | ((repeat rw [World.size_alloc]); omega) | (simp; done) | (simp; omega) | omega))) | (refine Below.setCell ?_ ?_ _; rotate_left; (focus (first | exact Nat.lt_succ_self _ | ((repeat rw [World.size_alloc]); omega) | (simp; done) | (simp; omega) | omega))) | (refine Below.then' ?_ (by assumption) ?_; rotate_left; (focus (first | exact Nat.lt_succ_self _ | ((repeat rw [World.size_alloc]); omega) | (simp; done) | (simp; omega) | omega))) | fail)); (first | done | fail))
      go_wp2_with fail
      obtain ⟨t, ht⟩ := row_heap (row_setRow (new := P.cells) s1)
      exact bodyPost_ret (v := .tuple #[.agg P.cells, .bool _]) (results_cell_tmp Try.results91 _ _ (w.heap.size + 1) t P.cells (0, 0) _ rfl ht scale_under rfl scale_info) rfl ⟨rfl, Below.setRow hB1 (by omega) _⟩
set_option maxHeartbeats 1000000 in
theorem whole_any (P : Par) (b : Nat) (hb : b < 18446744073709551616) (h0 : 1 ≤ P.inc) (w : World) : Calls Try.prog 92 #[.agg P.cells, .int .u64 b] w fun e w' => e = .returned (.int .u64 ((wholeN P b : Nat) : Int)) ∧ Below w.heap.size w w' := by
  have r0 : row (w.alloc (.cells P.cells 144)) w.heap.size = some P.cells := (by (repeat (first | assumption | (refine row_at _ _ _ _ ?_; first | rfl | (simp only [World.size_alloc]; done) | (simp only [World.size_alloc]; omega)) | (refine (row_past _ _ _ ?_).trans ?_; (focus (first | exact Nat.lt_succ_self _ | ((repeat rw [World.size_alloc]); omega) | (simp; done) | (simp; omega) | omega))) | rw [row_drewN] | rw [row_drew])); (first | done | fail))
  have hB0 : Below w.heap.size w (w.alloc (.cells P.cells 144)) := (by (repeat (first | exact Below.refl _ _ | assumption | (refine Below.allocT ?_ _) | refine Below.drew ?_ | refine below_drewN ?_ _ | (refine Below.then ?_ (by assumption)) | (refine Below.setRow ?_ ?_ _; rotate_left; (focus (first | exact Nat.lt_succ_self _ | ((repeat rw [World.size_alloc]); omega) | (simp; done) | (simp; omega) | omega))) | (refine Below.setCell ?_ ?_ _; rotate_left; (focus (first | exact Nat.lt_succ_self _ | ((repeat rw [World.size_alloc]); omega) | (simp; done) | (simp; omega) | omega))) | (refine Below.then' ?_ (by assumption) ?_; rotate_left; (focus (first | exact Nat.lt_succ_self _ | ((repeat rw [World.size_alloc]); omega) | (simp; done) | (simp; omega) | omega))) | fail)); (first | done | fail))
  have i1 : ((P.inc : Int) == 0) = false := by simp; omega
  have i2 : 0 < (P.inc : Int) := by omega
  have hle := Nat.mod_le b P.inc
  obtain ⟨m, hm⟩ : ∃ m, m = b % P.inc := ⟨_, rfl⟩
  have E1 : (b : Int) % (P.inc : Int) = (m : Int) := by rw [hm, Int.natCast_emod]
  obtain ⟨d, hd⟩ : ∃ d, d = b - m := ⟨_, rfl⟩
  have E2 : IntKind.u64.wrap ((b : Int) - (m : Int)) = (d : Int) := by rw [show (b : Int) - (m : Int) = ((d : Nat) : Int) by omega]; exact Bits.wrapN _ (by omega)
  have HW : Hid (wholeN P b = min d P.maxEff) := Lib.hid (by rw [hd, hm]; rfl)
  clear hm hd hle
  rcases Nat.lt_trichotomy d P.maxEff with hlt | hlt | hlt
  all_goals
    have HLT := Lib.hid hlt
    first | (have l1 : ¬ P.maxEff < d := by omega) | (have l1 : P.maxEff < d := by omega)
    clear hlt
    go_enter Try.func92, Try.ntmps92
    go_wp2_with fail
    generalize w.alloc (.cells P.cells 144) = W at *
    have hc : ∀ nq i, (W.drewN nq).cell? ⟨w.heap.size, i, none⟩ = P.cells[i]? := fun nq i => row_cell r0 i
    go_quiet (fail)
    all_goals
      go_wp2_with fail
      go_ret
      exact ⟨ret_int (by have := HLT.out; rw [HW.out]; omega), (by (repeat (first | exact Below.refl _ _ | assumption | (refine Below.allocT ?_ _) | refine Below.drew ?_ | refine below_drewN ?_ _ | (refine Below.then ?_ (by assumption)) | (refine Below.setRow ?_ ?_ _; rotate_left; (focus (first | exact Nat.lt_succ_self _ | ((repeat rw [World.size_alloc]); omega) | (simp; done) | (simp; omega) | omega))) | (refine Below.setCell ?_ ?_ _; rotate_left; (focus (first | exact Nat.lt_succ_self _ | ((repeat rw [World.size_alloc]); omega) | (simp; done) | (simp; omega) | omega))) | (refine Below.then' ?_ (by assumption) ?_; rotate_left; (focus (first | exact Nat.lt_succ_self _ | ((repeat rw [World.size_alloc]); omega) | (simp; done) | (simp; omega) | omega))) | fail)); (first | done | fail))⟩
set_option maxHeartbeats 1000000 in
theorem far_any (P : Par) (eff b : Nat) (he : eff < 18446744073709551616) (hb : b < 18446744073709551616) (hd : P.down ≤ 1099511627776) (hu : P.up ≤ 1099511627776) (w : World) : Calls Try.prog 108 #[.agg P.cells, .int .u64 eff, .int .u64 b] w fun e w' => e = .returned (.bool (farB P eff b)) ∧ Below w.heap.size w w' := by
  have r0 : row (w.alloc (.cells P.cells 144)) w.heap.size = some P.cells := (by (repeat (first | assumption | (refine row_at _ _ _ _ ?_; first | rfl | (simp only [World.size_alloc]; done) | (simp only [World.size_alloc]; omega)) | (refine (row_past _ _ _ ?_).trans ?_; (focus (first | exact Nat.lt_succ_self _ | ((repeat rw [World.size_alloc]); omega) | (simp; done) | (simp; omega) | omega))) | rw [row_drewN] | rw [row_drew])); (first | done | fail))
  have hB0 : Below w.heap.size w (w.alloc (.cells P.cells 144)) := (by (repeat (first | exact Below.refl _ _ | assumption | (refine Below.allocT ?_ _) | refine Below.drew ?_ | refine below_drewN ?_ _ | (refine Below.then ?_ (by assumption)) | (refine Below.setRow ?_ ?_ _; rotate_left; (focus (first | exact Nat.lt_succ_self _ | ((repeat rw [World.size_alloc]); omega) | (simp; done) | (simp; omega) | omega))) | (refine Below.setCell ?_ ?_ _; rotate_left; (focus (first | exact Nat.lt_succ_self _ | ((repeat rw [World.size_alloc]); omega) | (simp; done) | (simp; omega) | omega))) | (refine Below.then' ?_ (by assumption) ?_; rotate_left; (focus (first | exact Nat.lt_succ_self _ | ((repeat rw [World.size_alloc]); omega) | (simp; done) | (simp; omega) | omega))) | fail)); (first | done | fail))
  have H1 := Lib.hid (fun W => madd_any b P.down hb (by omega) W)
  have H2 := Lib.hid (fun W => madd_any eff P.up he (by omega) W)
  have T1 : (fit (b + P.down) = b + P.down ∧ toldE (b + P.down) = 0) ∨ (eff ≤ b + P.down ∧ 1 ≤ toldE (b + P.down)) := by
    by_cases h : b + P.down ≤ 18446744073709551615
    · left; exact ⟨fit_le h, told_le h⟩
    · right; rw [told_gt h]; exact ⟨by omega, by omega⟩
  have T2 : (fit (eff + P.up) = eff + P.up ∧ toldE (eff + P.up) = 0) ∨ (b ≤ eff + P.up ∧ 1 ≤ toldE (eff + P.up)) := by
    by_cases h : eff + P.up ≤ 18446744073709551615
    · left; exact ⟨fit_le h, told_le h⟩
    · right; rw [told_gt h]; exact ⟨by omega, by omega⟩
  have HF : Hid (∀ z, (z = true ↔ b + P.down < eff ∨ eff + P.up < b) → farB P eff b = z) := Lib.hid fun z hz => by
    unfold farB; rw [Bool.eq_iff_iff, hz]; simp
  obtain ⟨p, hp⟩ : ∃ p, p = b + P.down := ⟨_, rfl⟩
  obtain ⟨q, hq⟩ : ∃ q, q = eff + P.up := ⟨_, rfl⟩
  rw [← hp] at H1 T1 HF
  rw [← hq] at H2 T2 HF
  clear hp hq
  rcases T1 with h1a | h1b
  all_goals rcases T2 with h2a | h2b
  all_goals
    try rw [h1a.1, h1a.2] at H1
    try clear h1a
    try rw [h2a.1, h2a.2] at H2
    try clear h2a
    try have t1 := h1b.1
    try have t2 := h1b.2
    try clear h1b
    try have t3 := h2b.1
    try have t4 := h2b.2
    try clear h2b
    generalize toldE p = ep at *
    generalize toldE q = eq at *
    generalize fit p = fp at *
    generalize fit q = fq at *
    try have u1 : (ep == 0) = false := beq_eq_false_iff_ne.2 (by omega)
    try have u2 : (eq == 0) = false := beq_eq_false_iff_ne.2 (by omega)
    by_cases h1 : p < eff
    all_goals by_cases h2 : q < b
    all_goals first
      | omega
      | (have HG := Lib.hid (HF.out true ⟨fun _ => by omega, fun _ => rfl⟩)
         go_enter Try.func108, Try.ntmps108
         go_wp2_with fail
         generalize w.alloc (.cells P.cells 144) = W at *
         have hc : ∀ i, W.cell? ⟨w.heap.size, i, none⟩ = P.cells[i]? := fun i => row_cell r0 i
         go_wp2_with fail
         refine (H1.out _).mono ?_
         rintro e w1 ⟨rfl, rfl⟩
         go_wp2_with fail
         refine (H2.out _).mono ?_
         rintro e w1 ⟨rfl, rfl⟩
         go_wp2_with fail
         go_ret
         exact ⟨by rw [HG.out]; rfl, hB0⟩)
      | (have HG := Lib.hid (HF.out false ⟨(fun h => by cases h), fun h => by omega⟩)
         go_enter Try.func108, Try.ntmps108
         go_wp2_with fail
         generalize w.alloc (.cells P.cells 144) = W at *
         have hc : ∀ i, W.cell? ⟨w.heap.size, i, none⟩ = P.cells[i]? := fun i => row_cell r0 i
         go_wp2_with fail
         refine (H1.out _).mono ?_
         rintro e w1 ⟨rfl, rfl⟩
         go_wp2_with fail
         refine (H2.out _).mono ?_
         rintro e w1 ⟨rfl, rfl⟩
         go_wp2_with fail
         go_ret
         exact ⟨by rw [HG.out]; rfl, hB0⟩)
      | fail
set_option maxHeartbeats 1000000 in
theorem next_any (P : Par) (eff b : Nat) (he : eff < 18446744073709551616) (hb : b < 18446744073709551616) (h0 : 1 ≤ P.inc) (hd : P.down ≤ 1099511627776) (hu : P.up ≤ 1099511627776) (w : World) : Calls Try.prog 104 #[.agg P.cells, .int .u64 eff, .int .u64 b] w fun e w' => e = .returned (.int .u64 ((nextN P eff b : Nat) : Int)) ∧ Below w.heap.size w w' := by
  have r0 : row (w.alloc (.cells P.cells 144)) w.heap.size = some P.cells := (by (repeat (first | assumption | (refine row_at _ _ _ _ ?_; first | rfl | (simp only [World.size_alloc]; done) | (simp only [World.size_alloc]; omega)) | (refine (row_past _ _ _ ?_).trans ?_; (focus (first | exact Nat.lt_succ_self _ | ((repeat rw [World.size_alloc]); omega) | (simp; done) | (simp; omega) | omega))) | rw [row_drewN] | rw [row_drew])); (first | done | fail))
  have hB0 : Below w.heap.size w (w.alloc (.cells P.cells 144)) := (by (repeat (first | exact Below.refl _ _ | assumption | (refine Below.allocT ?_ _) | refine Below.drew ?_ | refine below_drewN ?_ _ | (refine Below.then ?_ (by assumption)) | (refine Below.setRow ?_ ?_ _; rotate_left; (focus (first | exact Nat.lt_succ_self _ | ((repeat rw [World.size_alloc]); omega) | (simp; done) | (simp; omega) | omega))) | (refine Below.setCell ?_ ?_ _; rotate_left; (focus (first | exact Nat.lt_succ_self _ | ((repeat rw [World.size_alloc]); omega) | (simp; done) | (simp; omega) | omega))) | (refine Below.then' ?_ (by assumption) ?_; rotate_left; (focus (first | exact Nat.lt_succ_self _ | ((repeat rw [World.size_alloc]); omega) | (simp; done) | (simp; omega) | omega))) | fail)); (first | done | fail))
  have HF := Lib.hid (fun W => far_any P eff b he hb hd hu W)
  have HW := Lib.hid (fun W => whole_any P b hb h0 W)
  cases hf : farB P eff b
  all_goals
    have HN : Hid (nextN P eff b = if farB P eff b then wholeN P b else eff) := Lib.hid rfl
    rw [hf] at HF HN
    clear hf
    go_enter Try.func104, Try.ntmps104
    go_wp2_with fail
    generalize w.alloc (.cells P.cells 144) = W at *
    refine (HF.out _).mono ?_
    rintro e w1 ⟨rfl, hb1⟩
    have r1 := (row_below hb1 (row_lt r0)).trans r0
    have hB1 := Below.then hB0 hb1
    clear r0 hB0 hb1
    go_wp2_with fail
    first
      | (refine (HW.out _).mono ?_; rintro e w2 ⟨rfl, hb2⟩; go_wp2_with fail; go_ret; exact ⟨by rw [HN.out]; rfl, Below.then hB1 hb2⟩)
      | (go_ret; exact ⟨by rw [HN.out]; rfl, hB1⟩)
      | fail
/-- What package grain answers under parameters, right or not. -/
def wholeV (P : Par) (b : Nat) : Nat := if rightB P then wholeN P b else 0
def nextV (P : Par) (eff b : Nat) : Nat := if rightB P then nextN P eff b else 0
def fitsV (P : Par) (eff b : Nat) : Bool := rightB P && fitsB P eff b
def keptV (P : Par) (b : Nat) : Nat := if rightB P then min b P.cap else 0
theorem right_inc {P : Par} (h : rightB P = true) : 1 ≤ P.inc ∧ P.down ≤ 1099511627776 ∧ P.up ≤ 1099511627776 ∧ P.inc ≤ 2147483648 ∧ P.maxEff ≤ 1099511627776 ∧ P.cap ≤ 1099511627776 := by
  have := stakes_facts (right_facts h).1; omega
set_option maxHeartbeats 1000000 in
theorem gwhole_any (P : Par) (b : Nat) (hb : b < 18446744073709551616) (w : World) : Calls Try.prog 70 #[.agg P.cells, .int .u64 b] w fun e w' => e = .returned (.int .u64 ((wholeV P b : Nat) : Int)) ∧ Below w.heap.size w w' := by
  have r0 : row (w.alloc (.cells P.cells 24)) w.heap.size = some P.cells := (by (repeat (first | assumption | (refine row_at _ _ _ _ ?_; first | rfl | (simp only [World.size_alloc]; done) | (simp only [World.size_alloc]; omega)) | (refine (row_past _ _ _ ?_).trans ?_; (focus (first | exact Nat.lt_succ_self _ | ((repeat rw [World.size_alloc]); omega) | (simp; done) | (simp; omega) | omega))) | rw [row_drewN] | rw [row_drew])); (first | done | fail))
  have hB0 : Below w.heap.size w (w.alloc (.cells P.cells 24)) := (by (repeat (first | exact Below.refl _ _ | assumption | (refine Below.allocT ?_ _) | refine Below.drew ?_ | refine below_drewN ?_ _ | (refine Below.then ?_ (by assumption)) | (refine Below.setRow ?_ ?_ _; rotate_left; (focus (first | exact Nat.lt_succ_self _ | ((repeat rw [World.size_alloc]); omega) | (simp; done) | (simp; omega) | omega))) | (refine Below.setCell ?_ ?_ _; rotate_left; (focus (first | exact Nat.lt_succ_self _ | ((repeat rw [World.size_alloc]); omega) | (simp; done) | (simp; omega) | omega))) | (refine Below.then' ?_ (by assumption) ?_; rotate_left; (focus (first | exact Nat.lt_succ_self _ | ((repeat rw [World.size_alloc]); omega) | (simp; done) | (simp; omega) | omega))) | fail)); (first | done | fail))
  have HS := Lib.hid (fun W => scaled_any P W)
  cases hr : rightB P
  · have HV : Hid (wholeV P b = 0) := Lib.hid (by simp [wholeV, hr])
    rw [hr] at HS
    clear hr
    go_enter Try.func70, Try.ntmps70
    go_wp2_with fail
    generalize w.alloc (.cells P.cells 24) = W at *
    refine (HS.out _).mono ?_
    rintro e w1 ⟨rfl, hb1⟩
    have hB1 := Below.then hB0 hb1
    go_wp2_with fail
    go_ret
    exact ⟨by rw [HV.out]; rfl, (by (repeat (first | exact Below.refl _ _ | assumption | (refine Below.allocT ?_ _) | refine Below.drew ?_ | refine below_drewN ?_ _ | (refine Below.then ?_ (by assumption)) | (refine Below.setRow ?_ ?_ _; rotate_left; (focus (first | exact Nat.lt_succ_self _ | ((repeat rw [World.size_alloc]); omega) | (simp; done) | (simp; omega) | omega))) | (refine Below.setCell ?_ ?_ _; rotate_left; (focus (first | exact Nat.lt_succ_self _ | ((repeat rw [World.size_alloc]); omega) | (simp; done) | (simp; omega) | omega))) | (refine Below.then' ?_ (by assumption) ?_; rotate_left; (focus (first | exact Nat.lt_succ_self _ | ((repeat rw [World.size_alloc]); omega) | (simp; done) | (simp; omega) | omega))) | fail)); (first | done | fail))⟩
  · have HV : Hid (wholeV P b = wholeN P b) := Lib.hid (by simp [wholeV, hr])
    have HW := Lib.hid (fun W => whole_any P b hb (right_inc hr).1 W)
    rw [hr] at HS
    clear hr
    go_enter Try.func70, Try.ntmps70
    go_wp2_with fail
    generalize w.alloc (.cells P.cells 24) = W at *
    refine (HS.out _).mono ?_
    rintro e w1 ⟨rfl, hb1⟩
    have hB1 := Below.then hB0 hb1
    clear hB0 hb1 r0
    go_wp2_with fail
    refine (HW.out _).mono ?_
    rintro e w2 ⟨rfl, hb2⟩
    go_wp2_with fail
    go_ret
    exact ⟨by rw [HV.out]; rfl, (by (repeat (first | exact Below.refl _ _ | assumption | (refine Below.allocT ?_ _) | refine Below.drew ?_ | refine below_drewN ?_ _ | (refine Below.then ?_ (by assumption)) | (refine Below.setRow ?_ ?_ _; rotate_left; (focus (first | exact Nat.lt_succ_self _ | ((repeat rw [World.size_alloc]); omega) | (simp; done) | (simp; omega) | omega))) | (refine Below.setCell ?_ ?_ _; rotate_left; (focus (first | exact Nat.lt_succ_self _ | ((repeat rw [World.size_alloc]); omega) | (simp; done) | (simp; omega) | omega))) | (refine Below.then' ?_ (by assumption) ?_; rotate_left; (focus (first | exact Nat.lt_succ_self _ | ((repeat rw [World.size_alloc]); omega) | (simp; done) | (simp; omega) | omega))) | fail)); (first | done | fail))⟩
end Go.Proofs.Ytkfbnaafpikgfaa

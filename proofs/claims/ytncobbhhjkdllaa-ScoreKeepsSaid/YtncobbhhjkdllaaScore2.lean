/-
  What score.After, Trim and Leaks answer, and bullionref11's.
-/
import Derived.Test.YtncobbhhjkdllaaScore
namespace Go.Proofs.Ytncobbhhjkdllaa
open Go.RowKit
set_option linter.unusedVariables false

theorem St.cells_size (s : St) : s.cells.size = 4 := rfl
theorem St.cells_one (s : St) : allOne s.cells = true := by unfold allOne St.cells; simp [Value.oneCell']
theorem St.at_bal (s : St) : s.cells[0]? = some (.int .u64 s.bal) := rfl
theorem St.at_eff (s : St) : s.cells[1]? = some (.int .u64 s.eff) := rfl
theorem St.at_score (s : St) : s.cells[2]? = some (.int .u64 s.score) := rfl
theorem St.at_streak (s : St) : s.cells[3]? = some (.int .i64 s.streak) := rfl
theorem St.room (s : St) : roomy 0 4 s.cells = true := rfl
theorem St.ext (s : St) : s.cells.extract 0 4 = s.cells := rfl
theorem cardC_room (s : St) (P : Par) : roomy 0 4 (cardC s P) = true := rfl
theorem cardC_ext (s : St) (P : Par) : (cardC s P).extract 0 4 = s.cells := rfl
theorem cardC_app (s : St) (P : Par) : s.cells ++ P.cells = cardC s P := by kernel_rfl
attribute [go_sem] St.cells_size St.cells_one St.at_bal St.at_eff St.at_score St.at_streak St.room St.ext cardC_room cardC_ext cardC_app
structure St.Ok (s : St) : Prop where
  bal : s.bal < 18446744073709551616
  eff : s.eff < 18446744073709551616
  score : s.score < 18446744073709551616
  streak : i64ok s.streak
def afterS (P : Par) (s : St) (present : Bool) (mode : Int) : St := if present then thereS P s else awayS P s mode
def afterV (P : Par) (s : St) (present : Bool) (mode : Int) : St := if rightB P then afterS P s present mode else s
def trimV (P : Par) (s : St) : St := if rightB P then trimS P s else s
theorem right_scores {P : Par} (h : rightB P = true) : P.bias < 18446744073709551616 ∧ P.biasEm < 18446744073709551616 ∧ P.scoreCap < 18446744073709551616 ∧ P.recover < 18446744073709551616 ∧ 0 ≤ P.streak ∧ P.streak ≤ 64 := by
  have h1 := scores_facts (right_facts h).2.1
  have h2 := others_facts (right_facts h).2.2.1
  omega
theorem st_under : Try.prog.underlying 41 = some (.struct (Try.prog.fieldsOf 41)) := by kernel_rfl
theorem st_info : (Try.prog.info? 41).map (·.size) = some 4 := by kernel_rfl
theorem st_load {dst : Option Tmp} {x : Operand} {ty : TypeId} {pos : String} {after : Array Edge} {gd : Option (Nat × Bool)} {a : Act} {w : World} {K : Act → World → Prop} {Q : Exit → Act → World → Prop} (h1 : a.eval x = .pointer (some ⟨blk (a.eval x), ofs (a.eval x), none⟩)) (h2 : (row w (blk (a.eval x))).map (roomy (ofs (a.eval x)) 4) = some true) : Oper.wp Try.prog ⟨dst, .load 41 x, ty, pos, after, gd⟩ a w K Q = K (a.put dst (.agg (((row w (blk (a.eval x))).getD #[]).extract (ofs (a.eval x)) (ofs (a.eval x) + 4)))) w := wp_load_part _ 4 _ st_under rfl st_info h1 h2
theorem st_store {dst : Option Tmp} {x : Operand} {ty : TypeId} {pos : String} {after : Array Edge} {gd : Option (Nat × Bool)} {y : Operand} {a : Act} {w : World} {K : Act → World → Prop} {Q : Exit → Act → World → Prop} (h1 : a.eval x = .pointer (some ⟨blk (a.eval x), 0, none⟩)) (h2 : (row w (blk (a.eval x))).map (·.size) = some 4) (h3 : a.eval y = .agg (aggOf (a.eval y))) (h4 : (aggOf (a.eval y)).size = 4) (h5 : allOne (aggOf (a.eval y)) = true) : Oper.wp Try.prog ⟨dst, .store 41 x y, ty, pos, after, gd⟩ a w K Q = K (a.put dst undef) (w.setRow (blk (a.eval x)) (aggOf (a.eval y))) := wp_store_agg _ 4 st_info h1 h2 h3 h4 h5
theorem st_run_load {ρ : Operand → Value} {dst : Option Tmp} {x : Operand} {ty : TypeId} {pos : String} {after : Array Edge} {gd : Option (Nat × Bool)} {w : World} (h1 : ρ x = .pointer (some ⟨blk (ρ x), ofs (ρ x), none⟩)) (h2 : (row w (blk (ρ x))).map (roomy (ofs (ρ x)) 4) = some true) : (execOp ρ ⟨dst, .load 41 x, ty, pos, after, gd⟩).run Try.prog w = .ok (.value (.agg (((row w (blk (ρ x))).getD #[]).extract (ofs (ρ x)) (ofs (ρ x) + 4)))) w := run_load_part _ 4 _ st_under rfl st_info h1 h2
theorem st_quiet {C : World → Prop} {dst : Option Tmp} {x : Operand} {ty : TypeId} {pos : String} {after : Array Edge} {gd : Option (Nat × Bool)} {a : Act} {w : World} {g o : Nat} {cs : Array Value} (h1 : a.eval x = .pointer (some ⟨g, o, none⟩)) (h2 : row w g = some cs) (hs : roomy o 4 cs = true) : Oper.quietAt Try.prog ⟨dst, .load 41 x, ty, pos, after, gd⟩ a C w (.agg (cs.extract o (o + 4))) := quiet_load_part _ 4 _ st_under rfl st_info h1 h2 hs
attribute [go_sem ↓] st_load st_store st_run_load
theorem card_built (s : St) (P : Par) : Try.prog.built 89 [(0, .agg s.cells), (1, .agg P.cells)] = some (s.cells ++ P.cells) := by kernel_rfl
theorem card_build {x y : Operand} {dst : Option Tmp} {ty : TypeId} {pos : String} {after : Array Edge} {gd : Option (Nat × Bool)} {a : Act} {w : World} {K : Act → World → Prop} {Q : Exit → Act → World → Prop}
    (h : Try.prog.built 89 [(0, a.eval x), (1, a.eval y)] = some (aggOf (a.eval x) ++ aggOf (a.eval y))) :
    Oper.wp Try.prog ⟨dst, .build 89 #[(0, x), (1, y)], ty, pos, after, gd⟩ a w K Q = K (a.put dst (.agg (aggOf (a.eval x) ++ aggOf (a.eval y)))) w := wp_build_two _ h
attribute [go_sem ↓] card_build
attribute [go_sem] card_built
set_option maxHeartbeats 2000000 in
theorem safter_no (P : Par) (s : St) (present : Bool) (mode : Int) (hr : rightB P = false) (w : World) : Calls Try.prog 25 #[.agg P.cells, .agg s.cells, .bool present, .int .i64 mode] w fun e w' => e = .returned (.agg (s).cells) ∧ Below w.heap.size w w' := by
  have r0 : row (((w.alloc (.cells P.cells 24)).alloc (.cells s.cells 41)).alloc (.cells #[.int .u64 0, .int .u64 0, .int .u64 0, .int .i64 0] 41)) w.heap.size = some P.cells := (by (repeat (first | assumption | (refine row_at _ _ _ _ ?_; first | rfl | (simp only [World.size_alloc]; done) | (simp only [World.size_alloc]; omega)) | (refine (row_past _ _ _ ?_).trans ?_; (focus (first | exact Nat.lt_succ_self _ | ((repeat rw [World.size_alloc]); omega) | (simp; done) | (simp; omega) | omega))) | rw [row_drewN] | rw [row_drew])); (first | done | fail))
  have s0 : row (((w.alloc (.cells P.cells 24)).alloc (.cells s.cells 41)).alloc (.cells #[.int .u64 0, .int .u64 0, .int .u64 0, .int .i64 0] 41)) (w.heap.size + 1) = some s.cells := (by (repeat (first | assumption | (refine row_at _ _ _ _ ?_; first | rfl | (simp only [World.size_alloc]; done) | (simp only [World.size_alloc]; omega)) | (refine (row_past _ _ _ ?_).trans ?_; (focus (first | exact Nat.lt_succ_self _ | ((repeat rw [World.size_alloc]); omega) | (simp; done) | (simp; omega) | omega))) | rw [row_drewN] | rw [row_drew])); (first | done | fail))
  have z0 : row (((w.alloc (.cells P.cells 24)).alloc (.cells s.cells 41)).alloc (.cells #[.int .u64 0, .int .u64 0, .int .u64 0, .int .i64 0] 41)) (w.heap.size + 2) = some #[.int .u64 0, .int .u64 0, .int .u64 0, .int .i64 0] := (by (repeat (first | assumption | (refine row_at _ _ _ _ ?_; first | rfl | (simp only [World.size_alloc]; done) | (simp only [World.size_alloc]; omega)) | (refine (row_past _ _ _ ?_).trans ?_; (focus (first | exact Nat.lt_succ_self _ | ((repeat rw [World.size_alloc]); omega) | (simp; done) | (simp; omega) | omega))) | rw [row_drewN] | rw [row_drew])); (first | done | fail))
  have hB0 : Below w.heap.size w (((w.alloc (.cells P.cells 24)).alloc (.cells s.cells 41)).alloc (.cells #[.int .u64 0, .int .u64 0, .int .u64 0, .int .i64 0] 41)) := (by (repeat (first | exact Below.refl _ _ | assumption | (refine Below.allocT ?_ _) | refine Below.drew ?_ | refine below_drewN ?_ _ | (refine Below.then ?_ (by assumption)) | (refine Below.setRow ?_ ?_ _; rotate_left; (focus (first | exact Nat.lt_succ_self _ | ((repeat rw [World.size_alloc]); omega) | (simp; done) | (simp; omega) | omega))) | (refine Below.setCell ?_ ?_ _; rotate_left; (focus (first | exact Nat.lt_succ_self _ | ((repeat rw [World.size_alloc]); omega) | (simp; done) | (simp; omega) | omega))) | (refine Below.then' ?_ (by assumption) ?_; rotate_left; (focus (first | exact Nat.lt_succ_self _ | ((repeat rw [World.size_alloc]); omega) | (simp; done) | (simp; omega) | omega))) | fail)); (first | done | fail))
  have HC := Lib.hid (fun W => check_any P W)
  rw [show checkE P = 70 by simp [checkE, hr]] at HC
  clear hr
  go_enter Try.func25, Try.ntmps25
  go_wp2_with fail
  generalize ((w.alloc (.cells P.cells 24)).alloc (.cells s.cells 41)).alloc (.cells #[.int .u64 0, .int .u64 0, .int .u64 0, .int .i64 0] 41) = W0 at *
  refine (HC.out _).mono ?_
  rintro e w1 ⟨rfl, hb1⟩
  have r1 := (row_below hb1 (row_lt r0)).trans r0
  have s1 := (row_below hb1 (row_lt s0)).trans s0
  have z1 := (row_below hb1 (row_lt z0)).trans z0
  have hB1 := Below.then hB0 hb1
  clear r0 s0 z0 hB0 hb1
  go_wp2_with fail
  obtain ⟨t, ht⟩ := row_heap (row_setRow (new := s.cells) z1)
  exact bodyPost_ret (v := .agg s.cells) (results_cell_row Try.results25 _ _ (w.heap.size + 2) t s.cells (0, 0) _ rfl ht st_under rfl st_info) rfl ⟨rfl, Below.setRow hB1 (by omega) _⟩
set_option maxHeartbeats 2000000 in
theorem safter_there (P : Par) (s : St) (mode : Int) (hr : rightB P = true) (p5 : 0 ≤ P.streak) (p6 : P.streak ≤ 64) (hs : s.Ok) (p4 : P.recover < 18446744073709551616) (w : World) : Calls Try.prog 25 #[.agg P.cells, .agg s.cells, .bool true, .int .i64 mode] w fun e w' => e = .returned (.agg (thereS P s).cells) ∧ Below w.heap.size w w' := by
  have r0 : row (((w.alloc (.cells P.cells 24)).alloc (.cells s.cells 41)).alloc (.cells #[.int .u64 0, .int .u64 0, .int .u64 0, .int .i64 0] 41)) w.heap.size = some P.cells := (by (repeat (first | assumption | (refine row_at _ _ _ _ ?_; first | rfl | (simp only [World.size_alloc]; done) | (simp only [World.size_alloc]; omega)) | (refine (row_past _ _ _ ?_).trans ?_; (focus (first | exact Nat.lt_succ_self _ | ((repeat rw [World.size_alloc]); omega) | (simp; done) | (simp; omega) | omega))) | rw [row_drewN] | rw [row_drew])); (first | done | fail))
  have s0 : row (((w.alloc (.cells P.cells 24)).alloc (.cells s.cells 41)).alloc (.cells #[.int .u64 0, .int .u64 0, .int .u64 0, .int .i64 0] 41)) (w.heap.size + 1) = some s.cells := (by (repeat (first | assumption | (refine row_at _ _ _ _ ?_; first | rfl | (simp only [World.size_alloc]; done) | (simp only [World.size_alloc]; omega)) | (refine (row_past _ _ _ ?_).trans ?_; (focus (first | exact Nat.lt_succ_self _ | ((repeat rw [World.size_alloc]); omega) | (simp; done) | (simp; omega) | omega))) | rw [row_drewN] | rw [row_drew])); (first | done | fail))
  have z0 : row (((w.alloc (.cells P.cells 24)).alloc (.cells s.cells 41)).alloc (.cells #[.int .u64 0, .int .u64 0, .int .u64 0, .int .i64 0] 41)) (w.heap.size + 2) = some #[.int .u64 0, .int .u64 0, .int .u64 0, .int .i64 0] := (by (repeat (first | assumption | (refine row_at _ _ _ _ ?_; first | rfl | (simp only [World.size_alloc]; done) | (simp only [World.size_alloc]; omega)) | (refine (row_past _ _ _ ?_).trans ?_; (focus (first | exact Nat.lt_succ_self _ | ((repeat rw [World.size_alloc]); omega) | (simp; done) | (simp; omega) | omega))) | rw [row_drewN] | rw [row_drew])); (first | done | fail))
  have hB0 : Below w.heap.size w (((w.alloc (.cells P.cells 24)).alloc (.cells s.cells 41)).alloc (.cells #[.int .u64 0, .int .u64 0, .int .u64 0, .int .i64 0] 41)) := (by (repeat (first | exact Below.refl _ _ | assumption | (refine Below.allocT ?_ _) | refine Below.drew ?_ | refine below_drewN ?_ _ | (refine Below.then ?_ (by assumption)) | (refine Below.setRow ?_ ?_ _; rotate_left; (focus (first | exact Nat.lt_succ_self _ | ((repeat rw [World.size_alloc]); omega) | (simp; done) | (simp; omega) | omega))) | (refine Below.setCell ?_ ?_ _; rotate_left; (focus (first | exact Nat.lt_succ_self _ | ((repeat rw [World.size_alloc]); omega) | (simp; done) | (simp; omega) | omega))) | (refine Below.then' ?_ (by assumption) ?_; rotate_left; (focus (first | exact Nat.lt_succ_self _ | ((repeat rw [World.size_alloc]); omega) | (simp; done) | (simp; omega) | omega))) | fail)); (first | done | fail))
  have HC := Lib.hid (fun W => check_any P W)
  rw [show checkE P = 0 by simp [checkE, hr]] at HC
  clear hr
  have HX := Lib.hid (fun (g : Nat) W h => cthere_any P s g W p5 p6 hs.streak hs.score p4 h)
  clear p5 p6 p4 hs
  go_enter Try.func25, Try.ntmps25
  go_wp2_with fail
  generalize ((w.alloc (.cells P.cells 24)).alloc (.cells s.cells 41)).alloc (.cells #[.int .u64 0, .int .u64 0, .int .u64 0, .int .i64 0] 41) = W0 at *
  refine (HC.out _).mono ?_
  rintro e w1 ⟨rfl, hb1⟩
  have r1 := (row_below hb1 (row_lt r0)).trans r0
  have s1 := (row_below hb1 (row_lt s0)).trans s0
  have z1 := (row_below hb1 (row_lt z0)).trans z0
  have hB1 := Below.then hB0 hb1
  clear r0 s0 z0 hB0 hb1
  go_wp2_with fail
  have lz := row_lt z1
  have k1 : row (w1.alloc (.cells (cardC s P) 89)) w1.heap.size = some (cardC s P) := row_at _ _ _ _ rfl
  have zz1 : row (w1.alloc (.cells (cardC s P) 89)) (w.heap.size + 2) = some #[.int .u64 0, .int .u64 0, .int .u64 0, .int .i64 0] := (row_past _ _ _ lz).trans z1
  have hB2 : Below w.heap.size w (w1.alloc (.cells (cardC s P) 89)) := (by (repeat (first | exact Below.refl _ _ | assumption | (refine Below.allocT ?_ _) | refine Below.drew ?_ | refine below_drewN ?_ _ | (refine Below.then ?_ (by assumption)) | (refine Below.setRow ?_ ?_ _; rotate_left; (focus (first | exact Nat.lt_succ_self _ | ((repeat rw [World.size_alloc]); omega) | (simp; done) | (simp; omega) | omega))) | (refine Below.setCell ?_ ?_ _; rotate_left; (focus (first | exact Nat.lt_succ_self _ | ((repeat rw [World.size_alloc]); omega) | (simp; done) | (simp; omega) | omega))) | (refine Below.then' ?_ (by assumption) ?_; rotate_left; (focus (first | exact Nat.lt_succ_self _ | ((repeat rw [World.size_alloc]); omega) | (simp; done) | (simp; omega) | omega))) | fail)); (first | done | fail))
  generalize w1.alloc (.cells (cardC s P) 89) = V1 at *
  refine (HX.out _ _ k1).mono ?_
  rintro e w2 ⟨rfl, k2, hb2⟩
  have z2 := (row_below hb2 lz).trans zz1
  have hB3 : Below w.heap.size w w2 := hB2.trans (hb2.mono (by omega))
  clear z1 k1 zz1 hb2 hB2
  generalize hv : thereS P s = v at k2
  have HV := Lib.hid hv
  clear hv
  go_wp2_with fail
  obtain ⟨t, ht⟩ := row_heap (row_setRow (new := v.cells) z2)
  exact bodyPost_ret (v := .agg v.cells) (results_cell_row Try.results25 _ _ (w.heap.size + 2) t v.cells (0, 0) _ rfl ht st_under rfl st_info) rfl ⟨by rw [HV.out], Below.setRow hB3 (by omega) _⟩
set_option maxHeartbeats 2000000 in
theorem safter_away (P : Par) (s : St) (mode : Int) (hr : rightB P = true) (p1 : P.bias < 18446744073709551616) (p2 : P.biasEm < 18446744073709551616) (p3 : P.scoreCap < 18446744073709551616) (hs : s.Ok) (w : World) : Calls Try.prog 25 #[.agg P.cells, .agg s.cells, .bool false, .int .i64 mode] w fun e w' => e = .returned (.agg (awayS P s mode).cells) ∧ Below w.heap.size w w' := by
  have r0 : row (((w.alloc (.cells P.cells 24)).alloc (.cells s.cells 41)).alloc (.cells #[.int .u64 0, .int .u64 0, .int .u64 0, .int .i64 0] 41)) w.heap.size = some P.cells := (by (repeat (first | assumption | (refine row_at _ _ _ _ ?_; first | rfl | (simp only [World.size_alloc]; done) | (simp only [World.size_alloc]; omega)) | (refine (row_past _ _ _ ?_).trans ?_; (focus (first | exact Nat.lt_succ_self _ | ((repeat rw [World.size_alloc]); omega) | (simp; done) | (simp; omega) | omega))) | rw [row_drewN] | rw [row_drew])); (first | done | fail))
  have s0 : row (((w.alloc (.cells P.cells 24)).alloc (.cells s.cells 41)).alloc (.cells #[.int .u64 0, .int .u64 0, .int .u64 0, .int .i64 0] 41)) (w.heap.size + 1) = some s.cells := (by (repeat (first | assumption | (refine row_at _ _ _ _ ?_; first | rfl | (simp only [World.size_alloc]; done) | (simp only [World.size_alloc]; omega)) | (refine (row_past _ _ _ ?_).trans ?_; (focus (first | exact Nat.lt_succ_self _ | ((repeat rw [World.size_alloc]); omega) | (simp; done) | (simp; omega) | omega))) | rw [row_drewN] | rw [row_drew])); (first | done | fail))
  have z0 : row (((w.alloc (.cells P.cells 24)).alloc (.cells s.cells 41)).alloc (.cells #[.int .u64 0, .int .u64 0, .int .u64 0, .int .i64 0] 41)) (w.heap.size + 2) = some #[.int .u64 0, .int .u64 0, .int .u64 0, .int .i64 0] := (by (repeat (first | assumption | (refine row_at _ _ _ _ ?_; first | rfl | (simp only [World.size_alloc]; done) | (simp only [World.size_alloc]; omega)) | (refine (row_past _ _ _ ?_).trans ?_; (focus (first | exact Nat.lt_succ_self _ | ((repeat rw [World.size_alloc]); omega) | (simp; done) | (simp; omega) | omega))) | rw [row_drewN] | rw [row_drew])); (first | done | fail))
  have hB0 : Below w.heap.size w (((w.alloc (.cells P.cells 24)).alloc (.cells s.cells 41)).alloc (.cells #[.int .u64 0, .int .u64 0, .int .u64 0, .int .i64 0] 41)) := (by (repeat (first | exact Below.refl _ _ | assumption | (refine Below.allocT ?_ _) | refine Below.drew ?_ | refine below_drewN ?_ _ | (refine Below.then ?_ (by assumption)) | (refine Below.setRow ?_ ?_ _; rotate_left; (focus (first | exact Nat.lt_succ_self _ | ((repeat rw [World.size_alloc]); omega) | (simp; done) | (simp; omega) | omega))) | (refine Below.setCell ?_ ?_ _; rotate_left; (focus (first | exact Nat.lt_succ_self _ | ((repeat rw [World.size_alloc]); omega) | (simp; done) | (simp; omega) | omega))) | (refine Below.then' ?_ (by assumption) ?_; rotate_left; (focus (first | exact Nat.lt_succ_self _ | ((repeat rw [World.size_alloc]); omega) | (simp; done) | (simp; omega) | omega))) | fail)); (first | done | fail))
  have HC := Lib.hid (fun W => check_any P W)
  rw [show checkE P = 0 by simp [checkE, hr]] at HC
  clear hr
  have HX := Lib.hid (fun (g : Nat) W h => caway_any P s mode g W hs.score p1 p2 p3 h)
  clear p1 p2 p3 hs
  go_enter Try.func25, Try.ntmps25
  go_wp2_with fail
  generalize ((w.alloc (.cells P.cells 24)).alloc (.cells s.cells 41)).alloc (.cells #[.int .u64 0, .int .u64 0, .int .u64 0, .int .i64 0] 41) = W0 at *
  refine (HC.out _).mono ?_
  rintro e w1 ⟨rfl, hb1⟩
  have r1 := (row_below hb1 (row_lt r0)).trans r0
  have s1 := (row_below hb1 (row_lt s0)).trans s0
  have z1 := (row_below hb1 (row_lt z0)).trans z0
  have hB1 := Below.then hB0 hb1
  clear r0 s0 z0 hB0 hb1
  go_wp2_with fail
  have lz := row_lt z1
  have k1 : row (w1.alloc (.cells (cardC s P) 89)) w1.heap.size = some (cardC s P) := row_at _ _ _ _ rfl
  have zz1 : row (w1.alloc (.cells (cardC s P) 89)) (w.heap.size + 2) = some #[.int .u64 0, .int .u64 0, .int .u64 0, .int .i64 0] := (row_past _ _ _ lz).trans z1
  have hB2 : Below w.heap.size w (w1.alloc (.cells (cardC s P) 89)) := (by (repeat (first | exact Below.refl _ _ | assumption | (refine Below.allocT ?_ _) | refine Below.drew ?_ | refine below_drewN ?_ _ | (refine Below.then ?_ (by assumption)) | (refine Below.setRow ?_ ?_ _; rotate_left; (focus (first | exact Nat.lt_succ_self _ | ((repeat rw [World.size_alloc]); omega) | (simp; done) | (simp; omega) | omega))) | (refine Below.setCell ?_ ?_ _; rotate_left; (focus (first | exact Nat.lt_succ_self _ | ((repeat rw [World.size_alloc]); omega) | (simp; done) | (simp; omega) | omega))) | (refine Below.then' ?_ (by assumption) ?_; rotate_left; (focus (first | exact Nat.lt_succ_self _ | ((repeat rw [World.size_alloc]); omega) | (simp; done) | (simp; omega) | omega))) | fail)); (first | done | fail))
  generalize w1.alloc (.cells (cardC s P) 89) = V1 at *
  refine (HX.out _ _ k1).mono ?_
  rintro e w2 ⟨rfl, k2, hb2⟩
  have z2 := (row_below hb2 lz).trans zz1
  have hB3 : Below w.heap.size w w2 := hB2.trans (hb2.mono (by omega))
  clear z1 k1 zz1 hb2 hB2
  generalize hv : awayS P s mode = v at k2
  have HV := Lib.hid hv
  clear hv
  go_wp2_with fail
  obtain ⟨t, ht⟩ := row_heap (row_setRow (new := v.cells) z2)
  exact bodyPost_ret (v := .agg v.cells) (results_cell_row Try.results25 _ _ (w.heap.size + 2) t v.cells (0, 0) _ rfl ht st_under rfl st_info) rfl ⟨by rw [HV.out], Below.setRow hB3 (by omega) _⟩
theorem safter_any (P : Par) (s : St) (present : Bool) (mode : Int) (hs : s.Ok) (w : World) : Calls Try.prog 25 #[.agg P.cells, .agg s.cells, .bool present, .int .i64 mode] w fun e w' => e = .returned (.agg (afterV P s present mode).cells) ∧ Below w.heap.size w w' := by
  unfold afterV afterS
  cases hr : rightB P
  · exact safter_no P s present mode hr w
  · obtain ⟨p1, p2, p3, p4, p5, p6⟩ := right_scores hr
    cases present
    · exact safter_away P s mode hr p1 p2 p3 hs w
    · exact safter_there P s mode hr p5 p6 hs p4 w
set_option maxHeartbeats 2000000 in
theorem strim_no (P : Par) (s : St) (hr : rightB P = false) (w : World) : Calls Try.prog 26 #[.agg P.cells, .agg s.cells] w fun e w' => e = .returned (.agg (s).cells) ∧ Below w.heap.size w w' := by
  have r0 : row (((w.alloc (.cells P.cells 24)).alloc (.cells s.cells 41)).alloc (.cells #[.int .u64 0, .int .u64 0, .int .u64 0, .int .i64 0] 41)) w.heap.size = some P.cells := (by (repeat (first | assumption | (refine row_at _ _ _ _ ?_; first | rfl | (simp only [World.size_alloc]; done) | (simp only [World.size_alloc]; omega)) | (refine (row_past _ _ _ ?_).trans ?_; (focus (first | exact Nat.lt_succ_self _ | ((repeat rw [World.size_alloc]); omega) | (simp; done) | (simp; omega) | omega))) | rw [row_drewN] | rw [row_drew])); (first | done | fail))
  have s0 : row (((w.alloc (.cells P.cells 24)).alloc (.cells s.cells 41)).alloc (.cells #[.int .u64 0, .int .u64 0, .int .u64 0, .int .i64 0] 41)) (w.heap.size + 1) = some s.cells := (by (repeat (first | assumption | (refine row_at _ _ _ _ ?_; first | rfl | (simp only [World.size_alloc]; done) | (simp only [World.size_alloc]; omega)) | (refine (row_past _ _ _ ?_).trans ?_; (focus (first | exact Nat.lt_succ_self _ | ((repeat rw [World.size_alloc]); omega) | (simp; done) | (simp; omega) | omega))) | rw [row_drewN] | rw [row_drew])); (first | done | fail))
  have z0 : row (((w.alloc (.cells P.cells 24)).alloc (.cells s.cells 41)).alloc (.cells #[.int .u64 0, .int .u64 0, .int .u64 0, .int .i64 0] 41)) (w.heap.size + 2) = some #[.int .u64 0, .int .u64 0, .int .u64 0, .int .i64 0] := (by (repeat (first | assumption | (refine row_at _ _ _ _ ?_; first | rfl | (simp only [World.size_alloc]; done) | (simp only [World.size_alloc]; omega)) | (refine (row_past _ _ _ ?_).trans ?_; (focus (first | exact Nat.lt_succ_self _ | ((repeat rw [World.size_alloc]); omega) | (simp; done) | (simp; omega) | omega))) | rw [row_drewN] | rw [row_drew])); (first | done | fail))
  have hB0 : Below w.heap.size w (((w.alloc (.cells P.cells 24)).alloc (.cells s.cells 41)).alloc (.cells #[.int .u64 0, .int .u64 0, .int .u64 0, .int .i64 0] 41)) := (by (repeat (first | exact Below.refl _ _ | assumption | (refine Below.allocT ?_ _) | refine Below.drew ?_ | refine below_drewN ?_ _ | (refine Below.then ?_ (by assumption)) | (refine Below.setRow ?_ ?_ _; rotate_left; (focus (first | exact Nat.lt_succ_self _ | ((repeat rw [World.size_alloc]); omega) | (simp; done) | (simp; omega) | omega))) | (refine Below.setCell ?_ ?_ _; rotate_left; (focus (first | exact Nat.lt_succ_self _ | ((repeat rw [World.size_alloc]); omega) | (simp; done) | (simp; omega) | omega))) | (refine Below.then' ?_ (by assumption) ?_; rotate_left; (focus (first | exact Nat.lt_succ_self _ | ((repeat rw [World.size_alloc]); omega) | (simp; done) | (simp; omega) | omega))) | fail)); (first | done | fail))
  have HC := Lib.hid (fun W => check_any P W)
  rw [show checkE P = 70 by simp [checkE, hr]] at HC
  clear hr
  go_enter Try.func26, Try.ntmps26
  go_wp2_with fail
  generalize ((w.alloc (.cells P.cells 24)).alloc (.cells s.cells 41)).alloc (.cells #[.int .u64 0, .int .u64 0, .int .u64 0, .int .i64 0] 41) = W0 at *
  refine (HC.out _).mono ?_
  rintro e w1 ⟨rfl, hb1⟩
  have r1 := (row_below hb1 (row_lt r0)).trans r0
  have s1 := (row_below hb1 (row_lt s0)).trans s0
  have z1 := (row_below hb1 (row_lt z0)).trans z0
  have hB1 := Below.then hB0 hb1
  clear r0 s0 z0 hB0 hb1
  go_wp2_with fail
  obtain ⟨t, ht⟩ := row_heap (row_setRow (new := s.cells) z1)
  exact bodyPost_ret (v := .agg s.cells) (results_cell_row Try.results26 _ _ (w.heap.size + 2) t s.cells (0, 0) _ rfl ht st_under rfl st_info) rfl ⟨rfl, Below.setRow hB1 (by omega) _⟩
set_option maxHeartbeats 2000000 in
theorem strim_yes (P : Par) (s : St) (hr : rightB P = true) (p5 : 0 ≤ P.streak) (w : World) : Calls Try.prog 26 #[.agg P.cells, .agg s.cells] w fun e w' => e = .returned (.agg (trimS P s).cells) ∧ Below w.heap.size w w' := by
  have r0 : row (((w.alloc (.cells P.cells 24)).alloc (.cells s.cells 41)).alloc (.cells #[.int .u64 0, .int .u64 0, .int .u64 0, .int .i64 0] 41)) w.heap.size = some P.cells := (by (repeat (first | assumption | (refine row_at _ _ _ _ ?_; first | rfl | (simp only [World.size_alloc]; done) | (simp only [World.size_alloc]; omega)) | (refine (row_past _ _ _ ?_).trans ?_; (focus (first | exact Nat.lt_succ_self _ | ((repeat rw [World.size_alloc]); omega) | (simp; done) | (simp; omega) | omega))) | rw [row_drewN] | rw [row_drew])); (first | done | fail))
  have s0 : row (((w.alloc (.cells P.cells 24)).alloc (.cells s.cells 41)).alloc (.cells #[.int .u64 0, .int .u64 0, .int .u64 0, .int .i64 0] 41)) (w.heap.size + 1) = some s.cells := (by (repeat (first | assumption | (refine row_at _ _ _ _ ?_; first | rfl | (simp only [World.size_alloc]; done) | (simp only [World.size_alloc]; omega)) | (refine (row_past _ _ _ ?_).trans ?_; (focus (first | exact Nat.lt_succ_self _ | ((repeat rw [World.size_alloc]); omega) | (simp; done) | (simp; omega) | omega))) | rw [row_drewN] | rw [row_drew])); (first | done | fail))
  have z0 : row (((w.alloc (.cells P.cells 24)).alloc (.cells s.cells 41)).alloc (.cells #[.int .u64 0, .int .u64 0, .int .u64 0, .int .i64 0] 41)) (w.heap.size + 2) = some #[.int .u64 0, .int .u64 0, .int .u64 0, .int .i64 0] := (by (repeat (first | assumption | (refine row_at _ _ _ _ ?_; first | rfl | (simp only [World.size_alloc]; done) | (simp only [World.size_alloc]; omega)) | (refine (row_past _ _ _ ?_).trans ?_; (focus (first | exact Nat.lt_succ_self _ | ((repeat rw [World.size_alloc]); omega) | (simp; done) | (simp; omega) | omega))) | rw [row_drewN] | rw [row_drew])); (first | done | fail))
  have hB0 : Below w.heap.size w (((w.alloc (.cells P.cells 24)).alloc (.cells s.cells 41)).alloc (.cells #[.int .u64 0, .int .u64 0, .int .u64 0, .int .i64 0] 41)) := (by (repeat (first | exact Below.refl _ _ | assumption | (refine Below.allocT ?_ _) | refine Below.drew ?_ | refine below_drewN ?_ _ | (refine Below.then ?_ (by assumption)) | (refine Below.setRow ?_ ?_ _; rotate_left; (focus (first | exact Nat.lt_succ_self _ | ((repeat rw [World.size_alloc]); omega) | (simp; done) | (simp; omega) | omega))) | (refine Below.setCell ?_ ?_ _; rotate_left; (focus (first | exact Nat.lt_succ_self _ | ((repeat rw [World.size_alloc]); omega) | (simp; done) | (simp; omega) | omega))) | (refine Below.then' ?_ (by assumption) ?_; rotate_left; (focus (first | exact Nat.lt_succ_self _ | ((repeat rw [World.size_alloc]); omega) | (simp; done) | (simp; omega) | omega))) | fail)); (first | done | fail))
  have HC := Lib.hid (fun W => check_any P W)
  rw [show checkE P = 0 by simp [checkE, hr]] at HC
  clear hr
  have HX := Lib.hid (fun (g : Nat) W h => ctrim_any P s g W p5 h)
  clear p5
  go_enter Try.func26, Try.ntmps26
  go_wp2_with fail
  generalize ((w.alloc (.cells P.cells 24)).alloc (.cells s.cells 41)).alloc (.cells #[.int .u64 0, .int .u64 0, .int .u64 0, .int .i64 0] 41) = W0 at *
  refine (HC.out _).mono ?_
  rintro e w1 ⟨rfl, hb1⟩
  have r1 := (row_below hb1 (row_lt r0)).trans r0
  have s1 := (row_below hb1 (row_lt s0)).trans s0
  have z1 := (row_below hb1 (row_lt z0)).trans z0
  have hB1 := Below.then hB0 hb1
  clear r0 s0 z0 hB0 hb1
  go_wp2_with fail
  have lz := row_lt z1
  have k1 : row (w1.alloc (.cells (cardC s P) 89)) w1.heap.size = some (cardC s P) := row_at _ _ _ _ rfl
  have zz1 : row (w1.alloc (.cells (cardC s P) 89)) (w.heap.size + 2) = some #[.int .u64 0, .int .u64 0, .int .u64 0, .int .i64 0] := (row_past _ _ _ lz).trans z1
  have hB2 : Below w.heap.size w (w1.alloc (.cells (cardC s P) 89)) := (by (repeat (first | exact Below.refl _ _ | assumption | (refine Below.allocT ?_ _) | refine Below.drew ?_ | refine below_drewN ?_ _ | (refine Below.then ?_ (by assumption)) | (refine Below.setRow ?_ ?_ _; rotate_left; (focus (first | exact Nat.lt_succ_self _ | ((repeat rw [World.size_alloc]); omega) | (simp; done) | (simp; omega) | omega))) | (refine Below.setCell ?_ ?_ _; rotate_left; (focus (first | exact Nat.lt_succ_self _ | ((repeat rw [World.size_alloc]); omega) | (simp; done) | (simp; omega) | omega))) | (refine Below.then' ?_ (by assumption) ?_; rotate_left; (focus (first | exact Nat.lt_succ_self _ | ((repeat rw [World.size_alloc]); omega) | (simp; done) | (simp; omega) | omega))) | fail)); (first | done | fail))
  generalize w1.alloc (.cells (cardC s P) 89) = V1 at *
  refine (HX.out _ _ k1).mono ?_
  rintro e w2 ⟨rfl, k2, hb2⟩
  have z2 := (row_below hb2 lz).trans zz1
  have hB3 : Below w.heap.size w w2 := hB2.trans (hb2.mono (by omega))
  clear z1 k1 zz1 hb2 hB2
  generalize hv : trimS P s = v at k2
  have HV := Lib.hid hv
  clear hv
  go_wp2_with fail
  obtain ⟨t, ht⟩ := row_heap (row_setRow (new := v.cells) z2)
  exact bodyPost_ret (v := .agg v.cells) (results_cell_row Try.results26 _ _ (w.heap.size + 2) t v.cells (0, 0) _ rfl ht st_under rfl st_info) rfl ⟨by rw [HV.out], Below.setRow hB3 (by omega) _⟩
theorem strim_any (P : Par) (s : St) (w : World) : Calls Try.prog 26 #[.agg P.cells, .agg s.cells] w fun e w' => e = .returned (.agg (trimV P s).cells) ∧ Below w.heap.size w w' := by
  unfold trimV
  cases hr : rightB P
  · exact strim_no P s hr w
  · obtain ⟨p1, p2, p3, p4, p5, p6⟩ := right_scores hr
    exact strim_yes P s hr p5 w
def leaksB (mode : Int) : Bool := decide (mode = 3) || decide (mode = 4)
theorem sleaks_any (mode : Int) (w : World) : Calls Try.prog 27 #[.int .i64 mode] w fun e w' => e = .returned (.bool (leaksB mode)) ∧ w = w' := by
  by_cases h3 : mode = 3
  · subst h3
    go_enter Try.func27, Try.ntmps27
    go_wp2
    go_ret
    exact ⟨rfl, rfl⟩
  · by_cases h4 : mode = 4
    · subst h4
      go_enter Try.func27, Try.ntmps27
      go_wp2
      go_ret
      exact ⟨rfl, rfl⟩
    · have n3 : (mode == 3) = false := beq_eq_false_iff_ne.2 h3
      have n4 : (mode == 4) = false := beq_eq_false_iff_ne.2 h4
      have HL : Hid (leaksB mode = false) := Lib.hid (by simp [leaksB, h3, h4])
      clear h3 h4
      go_enter Try.func27, Try.ntmps27
      go_wp2
      go_ret
      exact ⟨by rw [HL.out]; rfl, rfl⟩
theorem rleaks_any (mode : Int) (w : World) : Calls Try.prog 28 #[.int .i64 mode] w fun e w' => e = .returned (.bool (leaksB mode)) ∧ w = w' := by
  by_cases h3 : mode = 3
  · subst h3
    go_enter Try.func28, Try.ntmps28
    go_wp2
    go_ret
    exact ⟨rfl, rfl⟩
  · by_cases h4 : mode = 4
    · subst h4
      go_enter Try.func28, Try.ntmps28
      go_wp2
      go_ret
      exact ⟨rfl, rfl⟩
    · have n3 : (mode == 3) = false := beq_eq_false_iff_ne.2 h3
      have n4 : (mode == 4) = false := beq_eq_false_iff_ne.2 h4
      have HL : Hid (leaksB mode = false) := Lib.hid (by simp [leaksB, h3, h4])
      clear h3 h4
      go_enter Try.func28, Try.ntmps28
      go_wp2
      go_ret
      exact ⟨by rw [HL.out]; rfl, rfl⟩
theorem rrise_any (a b m : Nat) (ha : a < 18446744073709551616) (hb : b < 18446744073709551616) (hm : m < 18446744073709551616) (w : World) :
    Calls Try.prog 55 #[.int .u64 a, .int .u64 b, .int .u64 m] w fun e w' => e = .returned (.int .u64 ((min (a + b) m : Nat) : Int)) ∧ w = w' := by
  obtain ⟨z, hz⟩ : ∃ z, z = min (a + b) m := ⟨_, rfl⟩
  rw [← hz]
  by_cases h1 : m ≤ a
  · have hz' : z = m := by omega
    subst hz'
    clear hz
    go_enter Try.func55, Try.ntmps55
    go_wp2
    go_ret
    exact ⟨rfl, rfl⟩
  · obtain ⟨d, hd⟩ : ∃ d, d = m - a := ⟨_, rfl⟩
    have E1 : IntKind.u64.wrap ((m : Int) - (a : Int)) = (d : Int) := by rw [show (m : Int) - (a : Int) = ((d : Nat) : Int) by omega]; exact Bits.wrapN _ (by omega)
    by_cases h2 : d ≤ b
    · have hz' : z = m := by omega
      subst hz'
      clear hz hd
      go_enter Try.func55, Try.ntmps55
      go_wp2
      go_ret
      exact ⟨rfl, rfl⟩
    · have E2 : IntKind.u64.wrap ((a : Int) + (b : Int)) = (z : Int) := by rw [show (a : Int) + (b : Int) = ((z : Nat) : Int) by omega]; exact Bits.wrapN _ (by omega)
      have HZ := Lib.hid hz
      clear hz hd
      go_enter Try.func55, Try.ntmps55
      go_wp2
      go_ret
      exact ⟨ret_int (by have := HZ.out; omega), rfl⟩
end Go.Proofs.Ytncobbhhjkdllaa

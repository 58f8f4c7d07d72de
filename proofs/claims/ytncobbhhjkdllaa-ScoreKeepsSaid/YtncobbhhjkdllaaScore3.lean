/-
  What bullionref11's After and Trim answer, of right parameters.
-/
import Derived.Test.YtncobbhhjkdllaaScore2
namespace Go.Proofs.Ytncobbhhjkdllaa
open Go.RowKit
set_option linter.unusedVariables false

theorem row_setCell {w : World} {g : Nat} (i : Nat) (u : Value) : row (w.setCell ⟨g, i, none⟩ u) g = (row w g).map (·.setIfInBounds i u) := by
  cases h : row w g with
  | some cs => exact row_set h i u
  | none =>
    unfold row World.setCell at *
    simp only [Array.getElem?_modify, if_true]
    cases hw : w.heap[g]? with
    | none => rfl
    | some o =>
      rw [hw] at h
      cases o <;> simp_all
theorem St.set_score (s : St) (n : Nat) : s.cells.setIfInBounds 2 (.int .u64 (n : Int)) = St.cells ⟨s.bal, s.eff, n, s.streak⟩ := rfl
theorem St.set_score0 (s : St) : s.cells.setIfInBounds 2 (.int .u64 0) = St.cells ⟨s.bal, s.eff, 0, s.streak⟩ := rfl
theorem St.set_streak (s : St) (n : Int) : s.cells.setIfInBounds 3 (.int .i64 n) = St.cells ⟨s.bal, s.eff, s.score, n⟩ := rfl
attribute [go_sem] St.set_score St.set_score0 St.set_streak
theorem rst_under : Try.prog.underlying 50 = some (.struct (Try.prog.fieldsOf 50)) := by kernel_rfl
theorem rst_info : (Try.prog.info? 50).map (·.size) = some 4 := by kernel_rfl
theorem rst_load {dst : Option Tmp} {x : Operand} {ty : TypeId} {pos : String} {after : Array Edge} {gd : Option (Nat × Bool)} {a : Act} {w : World} {K : Act → World → Prop} {Q : Exit → Act → World → Prop} (h1 : a.eval x = .pointer (some ⟨blk (a.eval x), ofs (a.eval x), none⟩)) (h2 : (row w (blk (a.eval x))).map (roomy (ofs (a.eval x)) 4) = some true) : Oper.wp Try.prog ⟨dst, .load 50 x, ty, pos, after, gd⟩ a w K Q = K (a.put dst (.agg (((row w (blk (a.eval x))).getD #[]).extract (ofs (a.eval x)) (ofs (a.eval x) + 4)))) w := wp_load_part _ 4 _ rst_under rfl rst_info h1 h2
theorem rst_store {dst : Option Tmp} {x : Operand} {ty : TypeId} {pos : String} {after : Array Edge} {gd : Option (Nat × Bool)} {y : Operand} {a : Act} {w : World} {K : Act → World → Prop} {Q : Exit → Act → World → Prop} (h1 : a.eval x = .pointer (some ⟨blk (a.eval x), 0, none⟩)) (h2 : (row w (blk (a.eval x))).map (·.size) = some 4) (h3 : a.eval y = .agg (aggOf (a.eval y))) (h4 : (aggOf (a.eval y)).size = 4) (h5 : allOne (aggOf (a.eval y)) = true) : Oper.wp Try.prog ⟨dst, .store 50 x y, ty, pos, after, gd⟩ a w K Q = K (a.put dst undef) (w.setRow (blk (a.eval x)) (aggOf (a.eval y))) := wp_store_agg _ 4 rst_info h1 h2 h3 h4 h5
theorem rst_run_load {ρ : Operand → Value} {dst : Option Tmp} {x : Operand} {ty : TypeId} {pos : String} {after : Array Edge} {gd : Option (Nat × Bool)} {w : World} (h1 : ρ x = .pointer (some ⟨blk (ρ x), ofs (ρ x), none⟩)) (h2 : (row w (blk (ρ x))).map (roomy (ofs (ρ x)) 4) = some true) : (execOp ρ ⟨dst, .load 50 x, ty, pos, after, gd⟩).run Try.prog w = .ok (.value (.agg (((row w (blk (ρ x))).getD #[]).extract (ofs (ρ x)) (ofs (ρ x) + 4)))) w := run_load_part _ 4 _ rst_under rfl rst_info h1 h2
theorem rst_quiet {C : World → Prop} {dst : Option Tmp} {x : Operand} {ty : TypeId} {pos : String} {after : Array Edge} {gd : Option (Nat × Bool)} {a : Act} {w : World} {g o : Nat} {cs : Array Value} (h1 : a.eval x = .pointer (some ⟨g, o, none⟩)) (h2 : row w g = some cs) (hs : roomy o 4 cs = true) : Oper.quietAt Try.prog ⟨dst, .load 50 x, ty, pos, after, gd⟩ a C w (.agg (cs.extract o (o + 4))) := quiet_load_part _ 4 _ rst_under rfl rst_info h1 h2 hs
attribute [go_sem ↓] rst_load rst_store rst_run_load
set_option maxHeartbeats 2000000 in
theorem rtrim_any (P : Par) (s : St) (hp : 0 ≤ P.streak) (w : World) : Calls Try.prog 31 #[.agg P.cells, .agg s.cells] w fun e w' => e = .returned (.agg (trimS P s).cells) ∧ Below w.heap.size w w' := by
  obtain ⟨a, ha⟩ : ∃ a : Nat, a = min s.score P.scoreCap := ⟨_, rfl⟩
  obtain ⟨z, hz⟩ : ∃ z : Int, z = min (max s.streak 0) P.streak := ⟨_, rfl⟩
  have HT : Hid (trimS P s = ⟨s.bal, s.eff, a, z⟩) := Lib.hid (by rw [ha, hz]; rfl)
  have ha' : (a = P.scoreCap ∧ P.scoreCap < s.score) ∨ (a = s.score ∧ ¬ P.scoreCap < s.score) := by omega
  have hz' : (z = 0 ∧ s.streak < 0) ∨ (z = P.streak ∧ ¬ s.streak < 0 ∧ P.streak < s.streak) ∨ (z = s.streak ∧ ¬ s.streak < 0 ∧ ¬ P.streak < s.streak) := by omega
  have h4 : ¬ P.streak < 0 := by omega
  clear ha hz
  rcases ha' with ⟨rfl, h1⟩ | ⟨rfl, h1⟩
  all_goals rcases hz' with ⟨rfl, h2⟩ | ⟨rfl, h2, h3⟩ | ⟨rfl, h2, h3⟩
  all_goals
    go_enter Try.func31, Try.ntmps31
    go_wp2_with fail
    exact bodyPost_ret (v := .agg (St.cells _)) (results_cell_row Try.results31 _ _ (w.heap.size + 2) _ (St.cells _) (0, 0) _ rfl (heap_at _ _ _ (by simp)) rst_under rfl rst_info) rfl ⟨by rw [HT.out], (by (repeat (first | exact Below.refl _ _ | assumption | (refine Below.allocT ?_ _) | refine Below.drew ?_ | refine below_drewN ?_ _ | (refine Below.then ?_ (by assumption)) | (refine Below.setRow ?_ ?_ _; rotate_left; (focus (first | exact Nat.lt_succ_self _ | ((repeat rw [World.size_alloc]); omega) | (simp; done) | (simp; omega) | omega))) | (refine Below.setCell ?_ ?_ _; rotate_left; (focus (first | exact Nat.lt_succ_self _ | ((repeat rw [World.size_alloc]); omega) | (simp; done) | (simp; omega) | omega))) | (refine Below.then' ?_ (by assumption) ?_; rotate_left; (focus (first | exact Nat.lt_succ_self _ | ((repeat rw [World.size_alloc]); omega) | (simp; done) | (simp; omega) | omega))) | fail)); (first | done | fail))⟩
set_option maxHeartbeats 4000000 in
set_option maxRecDepth 100000 in
theorem rafter_there (P : Par) (s : St) (mode : Int) (hp : 0 ≤ P.streak) (hp' : P.streak ≤ 64) (hs : s.Ok) (w : World) : Calls Try.prog 30 #[.agg P.cells, .agg s.cells, .bool true, .int .i64 mode] w fun e w' => e = .returned (.agg (thereS P s).cells) ∧ Below w.heap.size w w' := by
  have hk := hs.streak
  have hsc := hs.score
  unfold i64ok at hk
  obtain ⟨a, ha⟩ : ∃ a : Nat, a = s.score - P.recover := ⟨_, rfl⟩
  obtain ⟨z, hz⟩ : ∃ z : Int, z = min (max s.streak 0 + 1) P.streak := ⟨_, rfl⟩
  have HT : Hid (thereS P s = ⟨s.bal, s.eff, a, z⟩) := Lib.hid (by rw [ha, hz]; rfl)
  have ha' : (a = 0 ∧ ¬ P.recover < s.score) ∨ (P.recover < s.score ∧ IntKind.u64.wrap ((s.score : Int) - (P.recover : Int)) = (a : Int)) := by
    by_cases h : P.recover < s.score
    · exact .inr ⟨h, by rw [show (s.score : Int) - (P.recover : Int) = ((a : Nat) : Int) by omega]; exact Bits.wrapN _ (by omega)⟩
    · exact .inl ⟨by omega, h⟩
  have hz' : (¬ 0 < s.streak ∧ 0 < P.streak ∧ z = 1) ∨ (¬ 0 < s.streak ∧ ¬ 0 < P.streak ∧ z = P.streak) ∨ (0 < s.streak ∧ s.streak < P.streak ∧ IntKind.i64.wrap (s.streak + 1) = z ∧ z = z) ∨ (0 < s.streak ∧ ¬ s.streak < P.streak ∧ z = P.streak) := by
    by_cases h1 : 0 < s.streak
    · by_cases h2 : s.streak < P.streak
      · exact .inr (.inr (.inl ⟨h1, h2, (IntWalk.i64_in _ (by omega)).trans (by omega), rfl⟩))
      · exact .inr (.inr (.inr ⟨h1, h2, by omega⟩))
    · by_cases h2 : 0 < P.streak
      · exact .inl ⟨h1, h2, by omega⟩
      · exact .inr (.inl ⟨h1, h2, by omega⟩)
  clear ha hz hk hsc
  rcases ha' with ⟨rfl, h1⟩ | ⟨h1, h1'⟩
  all_goals rcases hz' with ⟨h2, h3, rfl⟩ | ⟨h2, h3, rfl⟩ | ⟨h2, h3, h4, _⟩ | ⟨h2, h3, rfl⟩
  all_goals
    go_enter Try.func30, Try.ntmps30
    go_wp2_with fail
    exact bodyPost_ret (v := .agg (St.cells _)) (results_cell_row Try.results30 _ _ (w.heap.size + 2) _ (St.cells _) (0, 0) _ rfl (heap_at _ _ _ (by simp)) rst_under rfl rst_info) rfl ⟨by rw [HT.out], (by (repeat (first | exact Below.refl _ _ | assumption | (refine Below.allocT ?_ _) | refine Below.drew ?_ | refine below_drewN ?_ _ | (refine Below.then ?_ (by assumption)) | (refine Below.setRow ?_ ?_ _; rotate_left; (focus (first | exact Nat.lt_succ_self _ | ((repeat rw [World.size_alloc]); omega) | (simp; done) | (simp; omega) | omega))) | (refine Below.setCell ?_ ?_ _; rotate_left; (focus (first | exact Nat.lt_succ_self _ | ((repeat rw [World.size_alloc]); omega) | (simp; done) | (simp; omega) | omega))) | (refine Below.then' ?_ (by assumption) ?_; rotate_left; (focus (first | exact Nat.lt_succ_self _ | ((repeat rw [World.size_alloc]); omega) | (simp; done) | (simp; omega) | omega))) | fail)); (first | done | fail))⟩
set_option maxHeartbeats 4000000 in
set_option maxRecDepth 100000 in
theorem rafter_away (P : Par) (s : St) (mode : Int) (h1 : P.bias < 18446744073709551616) (h2 : P.biasEm < 18446744073709551616) (h3 : P.scoreCap < 18446744073709551616) (hs : s.Ok) (w : World) : Calls Try.prog 30 #[.agg P.cells, .agg s.cells, .bool false, .int .i64 mode] w fun e w' => e = .returned (.agg (awayS P s mode).cells) ∧ Below w.heap.size w w' := by
  have HR1 := Lib.hid (fun W => rrise_any s.score P.bias P.scoreCap hs.score h1 h3 W)
  have HR2 := Lib.hid (fun W => rrise_any s.score P.biasEm P.scoreCap hs.score h2 h3 W)
  clear h1 h2 h3 hs
  by_cases m3 : mode = 3
  · subst m3
    obtain ⟨a, ha⟩ : ∃ a, a = min (s.score + P.bias) P.scoreCap := ⟨_, rfl⟩
    have HT : Hid (awayS P s 3 = ⟨s.bal, s.eff, a, 0⟩) := Lib.hid (by simp [awayS, ha])
    rw [← ha] at HR1
    clear ha
    go_enter Try.func30, Try.ntmps30
    go_wp2_with (go_at_call 55; refine (HR1.out _).mono ?_; rintro e w' ⟨rfl, rfl⟩)
    exact bodyPost_ret (v := .agg (St.cells _)) (results_cell_row Try.results30 _ _ (w.heap.size + 2) _ (St.cells _) (0, 0) _ rfl (heap_at _ _ _ (by simp)) rst_under rfl rst_info) rfl ⟨by rw [HT.out], (by (repeat (first | exact Below.refl _ _ | assumption | (refine Below.allocT ?_ _) | refine Below.drew ?_ | refine below_drewN ?_ _ | (refine Below.then ?_ (by assumption)) | (refine Below.setRow ?_ ?_ _; rotate_left; (focus (first | exact Nat.lt_succ_self _ | ((repeat rw [World.size_alloc]); omega) | (simp; done) | (simp; omega) | omega))) | (refine Below.setCell ?_ ?_ _; rotate_left; (focus (first | exact Nat.lt_succ_self _ | ((repeat rw [World.size_alloc]); omega) | (simp; done) | (simp; omega) | omega))) | (refine Below.then' ?_ (by assumption) ?_; rotate_left; (focus (first | exact Nat.lt_succ_self _ | ((repeat rw [World.size_alloc]); omega) | (simp; done) | (simp; omega) | omega))) | fail)); (first | done | fail))⟩
  · have n3 : (mode == 3) = false := beq_eq_false_iff_ne.2 m3
    by_cases m4 : mode = 4
    · subst m4
      obtain ⟨a, ha⟩ : ∃ a, a = min (s.score + P.biasEm) P.scoreCap := ⟨_, rfl⟩
      have HT : Hid (awayS P s 4 = ⟨s.bal, s.eff, a, 0⟩) := Lib.hid (by simp [awayS, ha])
      rw [← ha] at HR2
      clear m3 n3 ha
      go_enter Try.func30, Try.ntmps30
      go_wp2_with (go_at_call 55; refine (HR2.out _).mono ?_; rintro e w' ⟨rfl, rfl⟩)
      exact bodyPost_ret (v := .agg (St.cells _)) (results_cell_row Try.results30 _ _ (w.heap.size + 2) _ (St.cells _) (0, 0) _ rfl (heap_at _ _ _ (by simp)) rst_under rfl rst_info) rfl ⟨by rw [HT.out], (by (repeat (first | exact Below.refl _ _ | assumption | (refine Below.allocT ?_ _) | refine Below.drew ?_ | refine below_drewN ?_ _ | (refine Below.then ?_ (by assumption)) | (refine Below.setRow ?_ ?_ _; rotate_left; (focus (first | exact Nat.lt_succ_self _ | ((repeat rw [World.size_alloc]); omega) | (simp; done) | (simp; omega) | omega))) | (refine Below.setCell ?_ ?_ _; rotate_left; (focus (first | exact Nat.lt_succ_self _ | ((repeat rw [World.size_alloc]); omega) | (simp; done) | (simp; omega) | omega))) | (refine Below.then' ?_ (by assumption) ?_; rotate_left; (focus (first | exact Nat.lt_succ_self _ | ((repeat rw [World.size_alloc]); omega) | (simp; done) | (simp; omega) | omega))) | fail)); (first | done | fail))⟩
    · have n4 : (mode == 4) = false := beq_eq_false_iff_ne.2 m4
      have HT : Hid (awayS P s mode = ⟨s.bal, s.eff, s.score, 0⟩) := Lib.hid (by simp [awayS, m3, m4])
      clear m3 m4
      go_enter Try.func30, Try.ntmps30
      go_wp2_with fail
      exact bodyPost_ret (v := .agg (St.cells _)) (results_cell_row Try.results30 _ _ (w.heap.size + 2) _ (St.cells _) (0, 0) _ rfl (heap_at _ _ _ (by simp)) rst_under rfl rst_info) rfl ⟨by rw [HT.out], (by (repeat (first | exact Below.refl _ _ | assumption | (refine Below.allocT ?_ _) | refine Below.drew ?_ | refine below_drewN ?_ _ | (refine Below.then ?_ (by assumption)) | (refine Below.setRow ?_ ?_ _; rotate_left; (focus (first | exact Nat.lt_succ_self _ | ((repeat rw [World.size_alloc]); omega) | (simp; done) | (simp; omega) | omega))) | (refine Below.setCell ?_ ?_ _; rotate_left; (focus (first | exact Nat.lt_succ_self _ | ((repeat rw [World.size_alloc]); omega) | (simp; done) | (simp; omega) | omega))) | (refine Below.then' ?_ (by assumption) ?_; rotate_left; (focus (first | exact Nat.lt_succ_self _ | ((repeat rw [World.size_alloc]); omega) | (simp; done) | (simp; omega) | omega))) | fail)); (first | done | fail))⟩
theorem rafter_any (P : Par) (s : St) (present : Bool) (mode : Int) (hr : rightB P = true) (hs : s.Ok) (w : World) : Calls Try.prog 30 #[.agg P.cells, .agg s.cells, .bool present, .int .i64 mode] w fun e w' => e = .returned (.agg (afterS P s present mode).cells) ∧ Below w.heap.size w w' := by
  obtain ⟨p1, p2, p3, p4, p5, p6⟩ := right_scores hr
  unfold afterS
  cases present
  · exact rafter_away P s mode p1 p2 p3 hs w
  · exact rafter_there P s mode p5 p6 hs w
end Go.Proofs.Ytncobbhhjkdllaa

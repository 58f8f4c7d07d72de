/-
  Members: shape, Fits, Start and Credit.
-/
import Derived.Test.YtkfbnaafpikgfaaMember
namespace Go.Proofs.Ytkfbnaafpikgfaa
open Go.RowKit
set_option linter.unusedVariables false

def shapeV (P : Par) (m : Mb) : Bool :=
  if countsB m.status then decide (P.floor < m.s.bal) && (decide (m.s.bal ≤ P.cap) && fitsV P m.s.eff m.s.bal)
  else if m.status = 1 then decide (1 ≤ m.s.bal) && (decide (m.s.bal ≤ P.cap) && decide (m.s.eff = 0))
  else if m.status = 4 ∨ m.status = 5 then decide (m.s.bal = 0) && decide (m.s.eff = 0)
  else false
def fitsM (P : Par) (m : Mb) : Bool := rightB P && (decide (0 ≤ m.owner) && (decide (m.owner < 64) && (stEq (trimV P m.s) m.s && shapeV P m)))
theorem pn_under : Try.prog.underlying 115 = some (.struct (Try.prog.fieldsOf 115)) := by kernel_rfl
theorem pn_info : (Try.prog.info? 115).map (·.size) = some 6 := by kernel_rfl
theorem pn_load {dst : Option Tmp} {x : Operand} {ty : TypeId} {pos : String} {after : Array Edge} {gd : Option (Nat × Bool)} {a : Act} {w : World} {K : Act → World → Prop} {Q : Exit → Act → World → Prop} (h1 : a.eval x = .pointer (some ⟨blk (a.eval x), ofs (a.eval x), none⟩)) (h2 : (row w (blk (a.eval x))).map (roomy (ofs (a.eval x)) 6) = some true) : Oper.wp Try.prog ⟨dst, .load 115 x, ty, pos, after, gd⟩ a w K Q = K (a.put dst (.agg (((row w (blk (a.eval x))).getD #[]).extract (ofs (a.eval x)) (ofs (a.eval x) + 6)))) w := wp_load_part _ 6 _ pn_under rfl pn_info h1 h2
theorem pn_store {dst : Option Tmp} {x : Operand} {ty : TypeId} {pos : String} {after : Array Edge} {gd : Option (Nat × Bool)} {y : Operand} {a : Act} {w : World} {K : Act → World → Prop} {Q : Exit → Act → World → Prop} (h1 : a.eval x = .pointer (some ⟨blk (a.eval x), 0, none⟩)) (h2 : (row w (blk (a.eval x))).map (·.size) = some 6) (h3 : a.eval y = .agg (aggOf (a.eval y))) (h4 : (aggOf (a.eval y)).size = 6) (h5 : allOne (aggOf (a.eval y)) = true) : Oper.wp Try.prog ⟨dst, .store 115 x y, ty, pos, after, gd⟩ a w K Q = K (a.put dst undef) (w.setRow (blk (a.eval x)) (aggOf (a.eval y))) := wp_store_agg _ 6 pn_info h1 h2 h3 h4 h5
theorem pn_run_load {ρ : Operand → Value} {dst : Option Tmp} {x : Operand} {ty : TypeId} {pos : String} {after : Array Edge} {gd : Option (Nat × Bool)} {w : World} (h1 : ρ x = .pointer (some ⟨blk (ρ x), ofs (ρ x), none⟩)) (h2 : (row w (blk (ρ x))).map (roomy (ofs (ρ x)) 6) = some true) : (execOp ρ ⟨dst, .load 115 x, ty, pos, after, gd⟩).run Try.prog w = .ok (.value (.agg (((row w (blk (ρ x))).getD #[]).extract (ofs (ρ x)) (ofs (ρ x) + 6)))) w := run_load_part _ 6 _ pn_under rfl pn_info h1 h2
theorem pn_quiet {C : World → Prop} {dst : Option Tmp} {x : Operand} {ty : TypeId} {pos : String} {after : Array Edge} {gd : Option (Nat × Bool)} {a : Act} {w : World} {g o : Nat} {cs : Array Value} (h1 : a.eval x = .pointer (some ⟨g, o, none⟩)) (h2 : row w g = some cs) (hs : roomy o 6 cs = true) : Oper.quietAt Try.prog ⟨dst, .load 115 x, ty, pos, after, gd⟩ a C w (.agg (cs.extract o (o + 6))) := quiet_load_part _ 6 _ pn_under rfl pn_info h1 h2 hs
attribute [go_sem ↓] pn_load pn_store pn_run_load
theorem pn_built (m : Mb) : Try.prog.built 115 [(0, .agg m.cells)] = some m.cells := by kernel_rfl
theorem pn_run_build {x : Operand} {ρ : Operand → Value} {dst : Option Tmp} {ty : TypeId} {pos : String} {after : Array Edge} {gd : Option (Nat × Bool)} {w : World}
    (h : Try.prog.built 115 [(0, ρ x)] = some (aggOf (ρ x))) : (execOp ρ ⟨dst, .build 115 #[(0, x)], ty, pos, after, gd⟩).run Try.prog w = .ok (.value (.agg (aggOf (ρ x)))) w := run_build_agg _ h
attribute [go_sem ↓] pn_run_build
attribute [go_sem] pn_built
theorem mst_quiet {C : World → Prop} {dst : Option Tmp} {x : Operand} {ty : TypeId} {pos : String} {after : Array Edge} {gd : Option (Nat × Bool)} {a : Act} {w : World} {g : Nat} {m : Mb}
    (h1 : a.eval x = .pointer (some ⟨g, 0, none⟩)) (h2 : row w g = some m.cells) : Oper.quietAt Try.prog ⟨dst, .load 48 x, ty, pos, after, gd⟩ a C w (.agg m.s.cells) := st_quiet h1 h2 rfl
theorem mbm_quiet {C : World → Prop} {dst : Option Tmp} {x : Operand} {ty : TypeId} {pos : String} {after : Array Edge} {gd : Option (Nat × Bool)} {a : Act} {w : World} {g : Nat} {m : Mb}
    (h1 : a.eval x = .pointer (some ⟨g, 0, none⟩)) (h2 : row w g = some m.cells) : Oper.quietAt Try.prog ⟨dst, .load 67 x, ty, pos, after, gd⟩ a C w (.agg m.cells) := mb_quiet h1 h2 rfl
set_option maxHeartbeats 4000000 in
theorem mshape_any (P : Par) (m : Mb) (hm : m.Ok) (w : World) : Calls Try.prog 69 #[.agg m.cells, .agg P.cells] w fun e w' => e = .returned (.bool (shapeV P m)) ∧ Below w.heap.size w w' := by
  have m0 : row ((w.alloc (.cells m.cells 115)).alloc (.cells P.cells 24)) w.heap.size = some m.cells := (by (repeat (first | assumption | (refine row_at _ _ _ _ ?_; first | rfl | (simp only [World.size_alloc]; done) | (simp only [World.size_alloc]; omega)) | (refine (row_past _ _ _ ?_).trans ?_; (focus (first | exact Nat.lt_succ_self _ | ((repeat rw [World.size_alloc]); omega) | (simp; done) | (simp; omega) | omega))) | rw [row_drewN] | rw [row_drew])); (first | done | fail))
  have p0 : row ((w.alloc (.cells m.cells 115)).alloc (.cells P.cells 24)) (w.heap.size + 1) = some P.cells := (by (repeat (first | assumption | (refine row_at _ _ _ _ ?_; first | rfl | (simp only [World.size_alloc]; done) | (simp only [World.size_alloc]; omega)) | (refine (row_past _ _ _ ?_).trans ?_; (focus (first | exact Nat.lt_succ_self _ | ((repeat rw [World.size_alloc]); omega) | (simp; done) | (simp; omega) | omega))) | rw [row_drewN] | rw [row_drew])); (first | done | fail))
  have hB0 : Below w.heap.size w ((w.alloc (.cells m.cells 115)).alloc (.cells P.cells 24)) := (by (repeat (first | exact Below.refl _ _ | assumption | (refine Below.allocT ?_ _) | refine Below.drew ?_ | refine below_drewN ?_ _ | (refine Below.then ?_ (by assumption)) | (refine Below.setRow ?_ ?_ _; rotate_left; (focus (first | exact Nat.lt_succ_self _ | ((repeat rw [World.size_alloc]); omega) | (simp; done) | (simp; omega) | omega))) | (refine Below.setCell ?_ ?_ _; rotate_left; (focus (first | exact Nat.lt_succ_self _ | ((repeat rw [World.size_alloc]); omega) | (simp; done) | (simp; omega) | omega))) | (refine Below.then' ?_ (by assumption) ?_; rotate_left; (focus (first | exact Nat.lt_succ_self _ | ((repeat rw [World.size_alloc]); omega) | (simp; done) | (simp; omega) | omega))) | fail)); (first | done | fail))
  have HF := Lib.hid (fun W => gfits_any P m.s.eff m.s.bal hm.s.eff hm.s.bal W)
  have c0 : ∀ i, ((w.alloc (.cells m.cells 115)).alloc (.cells P.cells 24)).cell? ⟨w.heap.size, i, none⟩ = m.cells[i]? := fun i => row_cell m0 i
  have d0 : ∀ i, ((w.alloc (.cells m.cells 115)).alloc (.cells P.cells 24)).cell? ⟨w.heap.size + 1, i, none⟩ = P.cells[i]? := fun i => row_cell p0 i
  have HV : Hid (shapeV P m = if countsB m.status then decide (P.floor < m.s.bal) && (decide (m.s.bal ≤ P.cap) && fitsV P m.s.eff m.s.bal) else if m.status = 1 then decide (1 ≤ m.s.bal) && (decide (m.s.bal ≤ P.cap) && decide (m.s.eff = 0)) else if m.status = 4 ∨ m.status = 5 then decide (m.s.bal = 0) && decide (m.s.eff = 0) else false) := Lib.hid rfl
  generalize fitsV P m.s.eff m.s.bal = fv at *
  generalize shapeV P m = sv at *
  have HV2 := HV.out
  unfold countsB at HV2
  clear HV hm
  by_cases h2 : m.status = 2 ∨ m.status = 3
  · have ks : (m.status == 2) = true ∨ ((m.status == 2) = false ∧ (m.status == 3) = true) := by
      rcases h2 with h | h
      · exact .inl (by rw [h]; rfl)
      · exact .inr ⟨by rw [h]; rfl, by rw [h]; rfl⟩
    have HX : sv = (decide (P.floor < m.s.bal) && (decide (m.s.bal ≤ P.cap) && fv)) := by
      rw [HV2]; rcases h2 with h | h <;> simp [h]
    clear h2 HV2
    by_cases h1 : P.floor < m.s.bal
    · by_cases h3 : m.s.bal ≤ P.cap
      · simp only [h1, h3, decide_true, Bool.true_and] at HX
        have HY := Lib.hid HX
        clear HX
        rcases ks with k2 | ⟨k2, k3⟩
        all_goals
          go_enter Try.func69, Try.ntmps69
          go_wp2_with fail
          generalize (w.alloc (.cells m.cells 115)).alloc (.cells P.cells 24) = w0 at *
          go_wp2_with (go_at_call 90; refine (HF.out _).mono ?_; rintro e w1 ⟨rfl, hb1⟩)
          have hB1 := Below.then hB0 hb1
          go_ret
          exact ⟨by rw [HY.out]; rfl, (by (repeat (first | exact Below.refl _ _ | assumption | (refine Below.allocT ?_ _) | refine Below.drew ?_ | refine below_drewN ?_ _ | (refine Below.then ?_ (by assumption)) | (refine Below.setRow ?_ ?_ _; rotate_left; (focus (first | exact Nat.lt_succ_self _ | ((repeat rw [World.size_alloc]); omega) | (simp; done) | (simp; omega) | omega))) | (refine Below.setCell ?_ ?_ _; rotate_left; (focus (first | exact Nat.lt_succ_self _ | ((repeat rw [World.size_alloc]); omega) | (simp; done) | (simp; omega) | omega))) | (refine Below.then' ?_ (by assumption) ?_; rotate_left; (focus (first | exact Nat.lt_succ_self _ | ((repeat rw [World.size_alloc]); omega) | (simp; done) | (simp; omega) | omega))) | fail)); (first | done | fail))⟩
      · simp only [h1, h3, decide_true, decide_false, Bool.true_and, Bool.false_and] at HX
        have HY := Lib.hid HX
        clear HX
        rcases ks with k2 | ⟨k2, k3⟩
        all_goals
          go_enter Try.func69, Try.ntmps69
          go_wp2_with fail
          generalize (w.alloc (.cells m.cells 115)).alloc (.cells P.cells 24) = w0 at *
          go_wp2_with fail
          go_ret
          exact ⟨by rw [HY.out]; rfl, (by (repeat (first | exact Below.refl _ _ | assumption | (refine Below.allocT ?_ _) | refine Below.drew ?_ | refine below_drewN ?_ _ | (refine Below.then ?_ (by assumption)) | (refine Below.setRow ?_ ?_ _; rotate_left; (focus (first | exact Nat.lt_succ_self _ | ((repeat rw [World.size_alloc]); omega) | (simp; done) | (simp; omega) | omega))) | (refine Below.setCell ?_ ?_ _; rotate_left; (focus (first | exact Nat.lt_succ_self _ | ((repeat rw [World.size_alloc]); omega) | (simp; done) | (simp; omega) | omega))) | (refine Below.then' ?_ (by assumption) ?_; rotate_left; (focus (first | exact Nat.lt_succ_self _ | ((repeat rw [World.size_alloc]); omega) | (simp; done) | (simp; omega) | omega))) | fail)); (first | done | fail))⟩
    · simp only [h1, decide_false, Bool.false_and] at HX
      have HY := Lib.hid HX
      clear HX
      rcases ks with k2 | ⟨k2, k3⟩
      all_goals
        go_enter Try.func69, Try.ntmps69
        go_wp2_with fail
        generalize (w.alloc (.cells m.cells 115)).alloc (.cells P.cells 24) = w0 at *
        go_wp2_with fail
        go_ret
        exact ⟨by rw [HY.out]; rfl, (by (repeat (first | exact Below.refl _ _ | assumption | (refine Below.allocT ?_ _) | refine Below.drew ?_ | refine below_drewN ?_ _ | (refine Below.then ?_ (by assumption)) | (refine Below.setRow ?_ ?_ _; rotate_left; (focus (first | exact Nat.lt_succ_self _ | ((repeat rw [World.size_alloc]); omega) | (simp; done) | (simp; omega) | omega))) | (refine Below.setCell ?_ ?_ _; rotate_left; (focus (first | exact Nat.lt_succ_self _ | ((repeat rw [World.size_alloc]); omega) | (simp; done) | (simp; omega) | omega))) | (refine Below.then' ?_ (by assumption) ?_; rotate_left; (focus (first | exact Nat.lt_succ_self _ | ((repeat rw [World.size_alloc]); omega) | (simp; done) | (simp; omega) | omega))) | fail)); (first | done | fail))⟩
  · have k2 : (m.status == 2) = false := beq_eq_false_iff_ne.2 (by omega)
    have k3 : (m.status == 3) = false := beq_eq_false_iff_ne.2 (by omega)
    have n2 : ¬ m.status = 2 := by omega
    have n3 : ¬ m.status = 3 := by omega
    by_cases h1 : m.status = 1
    · have k1 : (m.status == 1) = true := by rw [h1]; rfl
      have HX : sv = (decide (1 ≤ m.s.bal) && (decide (m.s.bal ≤ P.cap) && decide (m.s.eff = 0))) := by rw [HV2]; simp [h1]
      clear h1 h2 n2 n3 HV2
      by_cases h3 : 1 ≤ m.s.bal
      all_goals by_cases h4 : m.s.bal ≤ P.cap
      all_goals by_cases h5 : m.s.eff = 0
      all_goals (try (exfalso; omega))
      all_goals
        simp only [h3, h4, h5, decide_true, decide_false, Bool.and_true, Bool.and_false] at HX
        have HY := Lib.hid HX
        clear HX
        first | have k5 := u64_bool_eq h5 | have k5 := u64_bool_ne h5
        first | (have h6 : (1 : Int) ≤ (m.s.bal : Int) := by omega) | (have h6 : ¬ (1 : Int) ≤ (m.s.bal : Int) := by omega)
        clear h5
        go_enter Try.func69, Try.ntmps69
        go_wp2_with fail
        generalize (w.alloc (.cells m.cells 115)).alloc (.cells P.cells 24) = w0 at *
        go_wp2_with fail
        go_ret
        exact ⟨by rw [HY.out]; rfl, (by (repeat (first | exact Below.refl _ _ | assumption | (refine Below.allocT ?_ _) | refine Below.drew ?_ | refine below_drewN ?_ _ | (refine Below.then ?_ (by assumption)) | (refine Below.setRow ?_ ?_ _; rotate_left; (focus (first | exact Nat.lt_succ_self _ | ((repeat rw [World.size_alloc]); omega) | (simp; done) | (simp; omega) | omega))) | (refine Below.setCell ?_ ?_ _; rotate_left; (focus (first | exact Nat.lt_succ_self _ | ((repeat rw [World.size_alloc]); omega) | (simp; done) | (simp; omega) | omega))) | (refine Below.then' ?_ (by assumption) ?_; rotate_left; (focus (first | exact Nat.lt_succ_self _ | ((repeat rw [World.size_alloc]); omega) | (simp; done) | (simp; omega) | omega))) | fail)); (first | done | fail))⟩
    · have k1 : (m.status == 1) = false := beq_eq_false_iff_ne.2 h1
      by_cases h4 : m.status = 4 ∨ m.status = 5
      · have ks : (m.status == 4) = true ∨ ((m.status == 4) = false ∧ (m.status == 5) = true) := by
          rcases h4 with h | h
          · exact .inl (by rw [h]; rfl)
          · exact .inr ⟨by rw [h]; rfl, by rw [h]; rfl⟩
        have HX : sv = (decide (m.s.bal = 0) && decide (m.s.eff = 0)) := by rw [HV2]; simp [h1, n2, n3, h4]
        clear h1 h2 n2 n3 h4 HV2
        by_cases h3 : m.s.bal = 0
        all_goals by_cases h5 : m.s.eff = 0
        all_goals
          simp only [h3, h5, decide_true, decide_false, Bool.and_true, Bool.and_false] at HX
          have HY := Lib.hid HX
          clear HX
          first | have k5 := u64_bool_eq h5 | have k5 := u64_bool_ne h5
          first | have k6 := u64_bool_eq h3 | have k6 := u64_bool_ne h3
          clear h5 h3
          rcases ks with k2 | ⟨k7, k8⟩
          all_goals
            go_enter Try.func69, Try.ntmps69
            go_wp2_with fail
            generalize (w.alloc (.cells m.cells 115)).alloc (.cells P.cells 24) = w0 at *
            go_wp2_with fail
            go_ret
            exact ⟨by rw [HY.out]; rfl, (by (repeat (first | exact Below.refl _ _ | assumption | (refine Below.allocT ?_ _) | refine Below.drew ?_ | refine below_drewN ?_ _ | (refine Below.then ?_ (by assumption)) | (refine Below.setRow ?_ ?_ _; rotate_left; (focus (first | exact Nat.lt_succ_self _ | ((repeat rw [World.size_alloc]); omega) | (simp; done) | (simp; omega) | omega))) | (refine Below.setCell ?_ ?_ _; rotate_left; (focus (first | exact Nat.lt_succ_self _ | ((repeat rw [World.size_alloc]); omega) | (simp; done) | (simp; omega) | omega))) | (refine Below.then' ?_ (by assumption) ?_; rotate_left; (focus (first | exact Nat.lt_succ_self _ | ((repeat rw [World.size_alloc]); omega) | (simp; done) | (simp; omega) | omega))) | fail)); (first | done | fail))⟩
      · have k4 : (m.status == 4) = false := beq_eq_false_iff_ne.2 (by omega)
        have k5 : (m.status == 5) = false := beq_eq_false_iff_ne.2 (by omega)
        have HX : sv = false := by rw [HV2]; simp [h1, n2, n3, h4]
        have HY := Lib.hid HX
        clear HX h1 h2 n2 n3 h4 HV2
        go_enter Try.func69, Try.ntmps69
        go_wp2_with fail
        generalize (w.alloc (.cells m.cells 115)).alloc (.cells P.cells 24) = w0 at *
        go_wp2_with fail
        go_ret
        exact ⟨by rw [HY.out]; rfl, (by (repeat (first | exact Below.refl _ _ | assumption | (refine Below.allocT ?_ _) | refine Below.drew ?_ | refine below_drewN ?_ _ | (refine Below.then ?_ (by assumption)) | (refine Below.setRow ?_ ?_ _; rotate_left; (focus (first | exact Nat.lt_succ_self _ | ((repeat rw [World.size_alloc]); omega) | (simp; done) | (simp; omega) | omega))) | (refine Below.setCell ?_ ?_ _; rotate_left; (focus (first | exact Nat.lt_succ_self _ | ((repeat rw [World.size_alloc]); omega) | (simp; done) | (simp; omega) | omega))) | (refine Below.then' ?_ (by assumption) ?_; rotate_left; (focus (first | exact Nat.lt_succ_self _ | ((repeat rw [World.size_alloc]); omega) | (simp; done) | (simp; omega) | omega))) | fail)); (first | done | fail))⟩
set_option maxHeartbeats 4000000 in
theorem mstart_any (P : Par) (m : Mb) (hm : m.Ok) (w : World) : Calls Try.prog 35 #[.agg P.cells, .agg m.cells] w fun e w' =>
    e = .returned (.tuple #[.agg (startM P m).cells, .bool (startB P m)]) ∧ Below w.heap.size w w' := by
  have r0 : row ((((w.alloc (.cells P.cells 24)).alloc (.cells m.cells 67)).alloc (.cells #[.int .u64 0, .int .u64 0, .int .u64 0, .int .i64 0, .int .i64 0, .int .i64 0] 67))) w.heap.size = some P.cells := (by (repeat (first | assumption | (refine row_at _ _ _ _ ?_; first | rfl | (simp only [World.size_alloc]; done) | (simp only [World.size_alloc]; omega)) | (refine (row_past _ _ _ ?_).trans ?_; (focus (first | exact Nat.lt_succ_self _ | ((repeat rw [World.size_alloc]); omega) | (simp; done) | (simp; omega) | omega))) | rw [row_drewN] | rw [row_drew])); (first | done | fail))
  have s0 : row ((((w.alloc (.cells P.cells 24)).alloc (.cells m.cells 67)).alloc (.cells #[.int .u64 0, .int .u64 0, .int .u64 0, .int .i64 0, .int .i64 0, .int .i64 0] 67))) (w.heap.size + 1) = some m.cells := (by (repeat (first | assumption | (refine row_at _ _ _ _ ?_; first | rfl | (simp only [World.size_alloc]; done) | (simp only [World.size_alloc]; omega)) | (refine (row_past _ _ _ ?_).trans ?_; (focus (first | exact Nat.lt_succ_self _ | ((repeat rw [World.size_alloc]); omega) | (simp; done) | (simp; omega) | omega))) | rw [row_drewN] | rw [row_drew])); (first | done | fail))
  have z0 : row ((((w.alloc (.cells P.cells 24)).alloc (.cells m.cells 67)).alloc (.cells #[.int .u64 0, .int .u64 0, .int .u64 0, .int .i64 0, .int .i64 0, .int .i64 0] 67))) (w.heap.size + 2) = some #[.int .u64 0, .int .u64 0, .int .u64 0, .int .i64 0, .int .i64 0, .int .i64 0] := (by (repeat (first | assumption | (refine row_at _ _ _ _ ?_; first | rfl | (simp only [World.size_alloc]; done) | (simp only [World.size_alloc]; omega)) | (refine (row_past _ _ _ ?_).trans ?_; (focus (first | exact Nat.lt_succ_self _ | ((repeat rw [World.size_alloc]); omega) | (simp; done) | (simp; omega) | omega))) | rw [row_drewN] | rw [row_drew])); (first | done | fail))
  have hB0 : Below w.heap.size w (((w.alloc (.cells P.cells 24)).alloc (.cells m.cells 67)).alloc (.cells #[.int .u64 0, .int .u64 0, .int .u64 0, .int .i64 0, .int .i64 0, .int .i64 0] 67)) := (by (repeat (first | exact Below.refl _ _ | assumption | (refine Below.allocT ?_ _) | refine Below.drew ?_ | refine below_drewN ?_ _ | (refine Below.then ?_ (by assumption)) | (refine Below.setRow ?_ ?_ _; rotate_left; (focus (first | exact Nat.lt_succ_self _ | ((repeat rw [World.size_alloc]); omega) | (simp; done) | (simp; omega) | omega))) | (refine Below.setCell ?_ ?_ _; rotate_left; (focus (first | exact Nat.lt_succ_self _ | ((repeat rw [World.size_alloc]); omega) | (simp; done) | (simp; omega) | omega))) | (refine Below.then' ?_ (by assumption) ?_; rotate_left; (focus (first | exact Nat.lt_succ_self _ | ((repeat rw [World.size_alloc]); omega) | (simp; done) | (simp; omega) | omega))) | fail)); (first | done | fail))
  have HC := Lib.hid (fun W => check_any P W)
  have HW := Lib.hid (fun W => gwhole_any P m.s.bal hm.s.bal W)
  clear hm
  cases hS : startB P m
  · have HV : Hid (startM P m = m) := Lib.hid (by simp [startM, hS])
    rw [HV.out]
    have hx : (checkE P = 70) ∨ (checkE P = 0 ∧ (m.status != 1) = true) ∨ (checkE P = 0 ∧ (m.status != 1) = false ∧ m.s.bal ≤ P.floor) ∨ (checkE P = 0 ∧ (m.status != 1) = false ∧ ¬ m.s.bal ≤ P.floor ∧ P.cap < m.s.bal) := by
      unfold startB at hS
      cases hr : rightB P
      · exact .inl (by simp [checkE, hr])
      · have hc : checkE P = 0 := by simp [checkE, hr]
        by_cases h1 : m.status = 1
        · have k1 : (m.status != 1) = false := by rw [h1]; rfl
          by_cases h2 : m.s.bal ≤ P.floor
          · exact .inr (.inr (.inl ⟨hc, k1, h2⟩))
          · refine .inr (.inr (.inr ⟨hc, k1, h2, ?_⟩))
            rw [hr] at hS
            simp only [h1, decide_true, Bool.true_and, Bool.and_eq_false_iff, decide_eq_false_iff_not] at hS
            omega
        · exact .inr (.inl ⟨hc, bne_iff_ne.2 h1⟩)
    clear hS HV HW
    rcases hx with h | ⟨h, k1⟩ | ⟨h, k1, k2⟩ | ⟨h, k1, k2, k3⟩
    all_goals
      rw [h] at HC
      clear h
      go_enter Try.func35, Try.ntmps35
      go_wp2_with fail
      generalize ((w.alloc (.cells P.cells 24)).alloc (.cells m.cells 67)).alloc (.cells #[.int .u64 0, .int .u64 0, .int .u64 0, .int .i64 0, .int .i64 0, .int .i64 0] 67) = w0 at *
      refine (HC.out _).mono ?_
      rintro e w1 ⟨rfl, hb1⟩
      have r1 := (row_below hb1 (row_lt r0)).trans r0
      have s1 := (row_below hb1 (row_lt s0)).trans s0
      have z1 := (row_below hb1 (row_lt z0)).trans z0
      have hB1 := Below.then hB0 hb1
      have c1 : ∀ i, w1.cell? ⟨w.heap.size, i, none⟩ = P.cells[i]? := fun i => row_cell r1 i
      have c2 : ∀ i, w1.cell? ⟨w.heap.size + 1, i, none⟩ = m.cells[i]? := fun i => row_cell s1 i
      clear r0 s0 z0 hB0 hb1
      go_wp2_with fail
      obtain ⟨ty, ht⟩ := row_heap (row_setRow (new := m.cells) z1)
      exact bodyPost_ret (v := .tuple #[.agg m.cells, .bool false]) (results_cell_tmp Try.results35 _ _ (w.heap.size + 2) ty m.cells (0, 0) _ rfl ht mb_under rfl mb_info) rfl ⟨rfl, Below.setRow hB1 (by omega) _⟩
  · have hx : rightB P = true ∧ m.status = 1 ∧ P.floor < m.s.bal ∧ m.s.bal ≤ P.cap := by
      unfold startB at hS
      simpa using hS
    obtain ⟨hr, h1, h2, h3⟩ := hx
    have HV : Hid (startM P m = ⟨⟨m.s.bal, wholeV P m.s.bal, m.s.score, 0⟩, m.owner, 2⟩) := Lib.hid (by simp [startM, hS, wholeV, hr])
    rw [show checkE P = 0 by simp [checkE, hr]] at HC
    rw [HV.out]
    have k1 : (m.status != 1) = false := by rw [h1]; rfl
    have k2 : ¬ m.s.bal ≤ P.floor := by omega
    have k3 : ¬ P.cap < m.s.bal := by omega
    generalize wholeV P m.s.bal = v at *
    clear hS hr h1 HV
    go_enter Try.func35, Try.ntmps35
    go_wp2_with fail
    generalize ((w.alloc (.cells P.cells 24)).alloc (.cells m.cells 67)).alloc (.cells #[.int .u64 0, .int .u64 0, .int .u64 0, .int .i64 0, .int .i64 0, .int .i64 0] 67) = w0 at *
    refine (HC.out _).mono ?_
    rintro e w1 ⟨rfl, hb1⟩
    have r1 := (row_below hb1 (row_lt r0)).trans r0
    have s1 := (row_below hb1 (row_lt s0)).trans s0
    have z1 := (row_below hb1 (row_lt z0)).trans z0
    have hB1 := Below.then hB0 hb1
    have c1 : ∀ i, w1.cell? ⟨w.heap.size, i, none⟩ = P.cells[i]? := fun i => row_cell r1 i
    have c2 : ∀ i, w1.cell? ⟨w.heap.size + 1, i, none⟩ = m.cells[i]? := fun i => row_cell s1 i
    clear r0 s0 z0 hB0 hb1
    go_wp2_with fail
    refine (HW.out _).mono ?_
    rintro e w2 ⟨rfl, hb2⟩
    have s2 := (row_below hb2 (row_lt s1)).trans s1
    have z2 := (row_below hb2 (row_lt z1)).trans z1
    have hB2 := Below.then hB1 hb2
    clear r1 s1 z1 c1 c2 hB1 hb2
    have f2 : ∀ i, w2.frozen? ⟨w.heap.size + 1, i, none⟩ = false := fun i => row_frozen s2 i
    have c3 : ∀ i, w2.cell? ⟨w.heap.size + 1, i, none⟩ = m.cells[i]? := fun i => row_cell s2 i
    have lz := row_lt z2
    have z3 : row (((w2.setCell ⟨w.heap.size + 1, 5, none⟩ (.int .i64 2)).setCell ⟨w.heap.size + 1, 1, none⟩ (.int .u64 v)).setCell ⟨w.heap.size + 1, 3, none⟩ (.int .i64 0)) (w.heap.size + 2) = some #[.int .u64 0, .int .u64 0, .int .u64 0, .int .i64 0, .int .i64 0, .int .i64 0] := (row_far _ _ _ _ (by simp)).trans ((row_far _ _ _ _ (by simp)).trans ((row_far _ _ _ _ (by simp)).trans z2))
    go_wp2_with fail
    obtain ⟨ty, ht⟩ := row_heap (row_setRow (new := Mb.cells ⟨⟨m.s.bal, v, m.s.score, 0⟩, m.owner, 2⟩) z3)
    exact bodyPost_ret (v := .tuple #[.agg (Mb.cells ⟨⟨m.s.bal, v, m.s.score, 0⟩, m.owner, 2⟩), .bool true]) (results_cell_tmp Try.results35 _ _ (w.heap.size + 2) ty (Mb.cells ⟨⟨m.s.bal, v, m.s.score, 0⟩, m.owner, 2⟩) (0, 0) _ rfl ht mb_under rfl mb_info) rfl ⟨rfl, Below.setRow (below_own (below_own (below_own hB2 (by omega) 5 _) (by omega) 1 _) (by omega) 3 _) (by omega) _⟩
set_option maxRecDepth 100000 in
set_option maxHeartbeats 4000000 in
theorem mfits_any (P : Par) (m : Mb) (hm : m.Ok) (w : World) : Calls Try.prog 34 #[.agg P.cells, .agg m.cells] w fun e w' => e = .returned (.bool (fitsM P m)) ∧ Below w.heap.size w w' := by
  have r0 : row ((w.alloc (.cells P.cells 24)).alloc (.cells m.cells 67)) w.heap.size = some P.cells := (by (repeat (first | assumption | (refine row_at _ _ _ _ ?_; first | rfl | (simp only [World.size_alloc]; done) | (simp only [World.size_alloc]; omega)) | (refine (row_past _ _ _ ?_).trans ?_; (focus (first | exact Nat.lt_succ_self _ | ((repeat rw [World.size_alloc]); omega) | (simp; done) | (simp; omega) | omega))) | rw [row_drewN] | rw [row_drew])); (first | done | fail))
  have s0 : row ((w.alloc (.cells P.cells 24)).alloc (.cells m.cells 67)) (w.heap.size + 1) = some m.cells := (by (repeat (first | assumption | (refine row_at _ _ _ _ ?_; first | rfl | (simp only [World.size_alloc]; done) | (simp only [World.size_alloc]; omega)) | (refine (row_past _ _ _ ?_).trans ?_; (focus (first | exact Nat.lt_succ_self _ | ((repeat rw [World.size_alloc]); omega) | (simp; done) | (simp; omega) | omega))) | rw [row_drewN] | rw [row_drew])); (first | done | fail))
  have hB0 : Below w.heap.size w ((w.alloc (.cells P.cells 24)).alloc (.cells m.cells 67)) := (by (repeat (first | exact Below.refl _ _ | assumption | (refine Below.allocT ?_ _) | refine Below.drew ?_ | refine below_drewN ?_ _ | (refine Below.then ?_ (by assumption)) | (refine Below.setRow ?_ ?_ _; rotate_left; (focus (first | exact Nat.lt_succ_self _ | ((repeat rw [World.size_alloc]); omega) | (simp; done) | (simp; omega) | omega))) | (refine Below.setCell ?_ ?_ _; rotate_left; (focus (first | exact Nat.lt_succ_self _ | ((repeat rw [World.size_alloc]); omega) | (simp; done) | (simp; omega) | omega))) | (refine Below.then' ?_ (by assumption) ?_; rotate_left; (focus (first | exact Nat.lt_succ_self _ | ((repeat rw [World.size_alloc]); omega) | (simp; done) | (simp; omega) | omega))) | fail)); (first | done | fail))
  have HC := Lib.hid (fun W => check_any P W)
  have HS := Lib.hid (fun W => mshape_any P m hm W)
  have HT := Lib.hid (fun W => strim_any P m.s W)
  clear hm
  cases hr : rightB P
  · have HV : Hid (fitsM P m = false) := Lib.hid (by simp [fitsM, hr])
    rw [show checkE P = 70 by simp [checkE, hr]] at HC
    clear hr HS HT
    go_enter Try.func34, Try.ntmps34
    go_wp2_with fail
    generalize (w.alloc (.cells P.cells 24)).alloc (.cells m.cells 67) = w0 at *
    refine (HC.out _).mono ?_
    rintro e w1 ⟨rfl, hb1⟩
    have hB1 := Below.then hB0 hb1
    clear r0 s0 hB0 hb1
    go_wp2_with fail
    go_ret
    exact ⟨by rw [HV.out]; rfl, hB1⟩
  · rw [show checkE P = 0 by simp [checkE, hr]] at HC
    by_cases h1 : m.owner < 0 ∨ 64 ≤ m.owner
    · have HV : Hid (fitsM P m = false) := Lib.hid (by
        unfold fitsM
        rcases h1 with h | h
        · rw [decide_eq_false (show ¬ 0 ≤ m.owner by omega)]; simp
        · rw [decide_eq_false (show ¬ m.owner < 64 by omega)]; simp)
      have h2 : m.owner < 0 ∨ (¬ m.owner < 0 ∧ 64 ≤ m.owner) := by omega
      clear hr HS HT h1
      rcases h2 with h2 | ⟨h2, h3⟩
      all_goals
        go_enter Try.func34, Try.ntmps34
        go_wp2_with fail
        generalize (w.alloc (.cells P.cells 24)).alloc (.cells m.cells 67) = w0 at *
        refine (HC.out _).mono ?_
        rintro e w1 ⟨rfl, hb1⟩
        have s1 := (row_below hb1 (row_lt s0)).trans s0
        have c1 : ∀ i, w1.cell? ⟨w.heap.size + 1, i, none⟩ = m.cells[i]? := fun i => row_cell s1 i
        have hB1 := Below.then hB0 hb1
        clear r0 s0 hB0 hb1
        go_wp2_with fail
        go_ret
        exact ⟨by rw [HV.out]; rfl, hB1⟩
    · have HV : Hid (fitsM P m = (stEq (trimV P m.s) m.s && shapeV P m)) := Lib.hid (by
        unfold fitsM
        rw [hr, decide_eq_true (show 0 ≤ m.owner by omega), decide_eq_true (show m.owner < 64 by omega)]; simp)
      have h2 : ¬ m.owner < 0 := by omega
      have h3 : ¬ 64 ≤ m.owner := by omega
      generalize trimV P m.s = tr at *
      generalize shapeV P m = sv at *
      clear hr h1
      cases hq : stEq tr m.s
      all_goals
        rw [hq] at HV
        go_enter Try.func34, Try.ntmps34
        go_wp2_with fail
        generalize (w.alloc (.cells P.cells 24)).alloc (.cells m.cells 67) = w0 at *
        refine (HC.out _).mono ?_
        rintro e w1 ⟨rfl, hb1⟩
        have r1 := (row_below hb1 (row_lt r0)).trans r0
        have s1 := (row_below hb1 (row_lt s0)).trans s0
        have c1 : ∀ i, w1.cell? ⟨w.heap.size + 1, i, none⟩ = m.cells[i]? := fun i => row_cell s1 i
        have hB1 := Below.then hB0 hb1
        clear r0 s0 hB0 hb1
        have HM : Hid (∀ w', Below w1.heap.size w1 w' → row w' w.heap.size = some P.cells ∧ row w' (w.heap.size + 1) = some m.cells) := Lib.hid fun w' h => ⟨(row_below h (row_lt r1)).trans r1, (row_below h (row_lt s1)).trans s1⟩
        clear r1 s1
        go_wp2_with fail
        (refine wp_region_calm (by kernel_rfl) (by kernel_rfl) ?_; (repeat (first | go_big_quiet_skip | (go_big_quiet_want; apply calm_val; (focus (intro w' hb'; obtain ⟨x1, x2⟩ := HM.out w' hb'; first | exact par_quiet rfl x1 rfl | exact mst_quiet rfl x2 | exact mbm_quiet rfl x2 | (unfold Oper.quietAt; go_simp; first | rfl | (go_at_call 68; exact calm_call hb' (HT.out _)) | (go_at_call 69; exact calm_call hb' (HS.out _))))); (try simp only [Act.put, List.setIfInBounds_toArray, List.set_cons_zero, List.set_cons_succ]); go_big_quiet_on))); refine wpQuiet_nil ?_; intro w' hb')
        clear HM c1
        go_wp2_with fail
        go_ret
        exact ⟨by rw [HV.out]; rfl, Below.then hB1 hb'⟩
def creG (P : Par) (m : Mb) (a : Nat) : Nat := min a (P.cap - m.s.bal)
def creB (P : Par) (m : Mb) (a : Nat) : Bool := decide (0 < m.s.bal + creG P m a) && (decide (m.status = 4) || decide (m.status = 5))
def creM (P : Par) (m : Mb) (a : Nat) : Mb :=
  if rightB P then (if creB P m a then ⟨⟨m.s.bal + creG P m a, 0, m.s.score, m.s.streak⟩, m.owner, 1⟩ else ⟨⟨m.s.bal + creG P m a, m.s.eff, m.s.score, m.s.streak⟩, m.owner, m.status⟩) else m
def creR (P : Par) (m : Mb) (a : Nat) : Nat := if rightB P then a - creG P m a else a
set_option maxHeartbeats 4000000 in
theorem mcredit_any (P : Par) (m : Mb) (a : Nat) (hm : m.Ok) (ha : a < 18446744073709551616) (w : World) : Calls Try.prog 37 #[.agg P.cells, .agg m.cells, .int .u64 a] w fun e w' =>
    e = .returned (.tuple #[.agg (creM P m a).cells, .int .u64 ((creR P m a : Nat) : Int)]) ∧ Below w.heap.size w w' := by
  have r0 : row (((w.alloc (.cells P.cells 24)).alloc (.cells m.cells 67)).alloc (.cells #[.int .u64 0, .int .u64 0, .int .u64 0, .int .i64 0, .int .i64 0, .int .i64 0] 67)) w.heap.size = some P.cells := (by (repeat (first | assumption | (refine row_at _ _ _ _ ?_; first | rfl | (simp only [World.size_alloc]; done) | (simp only [World.size_alloc]; omega)) | (refine (row_past _ _ _ ?_).trans ?_; (focus (first | exact Nat.lt_succ_self _ | ((repeat rw [World.size_alloc]); omega) | (simp; done) | (simp; omega) | omega))) | rw [row_drewN] | rw [row_drew])); (first | done | fail))
  have s0 : row (((w.alloc (.cells P.cells 24)).alloc (.cells m.cells 67)).alloc (.cells #[.int .u64 0, .int .u64 0, .int .u64 0, .int .i64 0, .int .i64 0, .int .i64 0] 67)) (w.heap.size + 1) = some m.cells := (by (repeat (first | assumption | (refine row_at _ _ _ _ ?_; first | rfl | (simp only [World.size_alloc]; done) | (simp only [World.size_alloc]; omega)) | (refine (row_past _ _ _ ?_).trans ?_; (focus (first | exact Nat.lt_succ_self _ | ((repeat rw [World.size_alloc]); omega) | (simp; done) | (simp; omega) | omega))) | rw [row_drewN] | rw [row_drew])); (first | done | fail))
  have z0 : row (((w.alloc (.cells P.cells 24)).alloc (.cells m.cells 67)).alloc (.cells #[.int .u64 0, .int .u64 0, .int .u64 0, .int .i64 0, .int .i64 0, .int .i64 0] 67)) (w.heap.size + 2) = some #[.int .u64 0, .int .u64 0, .int .u64 0, .int .i64 0, .int .i64 0, .int .i64 0] := (by (repeat (first | assumption | (refine row_at _ _ _ _ ?_; first | rfl | (simp only [World.size_alloc]; done) | (simp only [World.size_alloc]; omega)) | (refine (row_past _ _ _ ?_).trans ?_; (focus (first | exact Nat.lt_succ_self _ | ((repeat rw [World.size_alloc]); omega) | (simp; done) | (simp; omega) | omega))) | rw [row_drewN] | rw [row_drew])); (first | done | fail))
  have hB0 : Below w.heap.size w (((w.alloc (.cells P.cells 24)).alloc (.cells m.cells 67)).alloc (.cells #[.int .u64 0, .int .u64 0, .int .u64 0, .int .i64 0, .int .i64 0, .int .i64 0] 67)) := (by (repeat (first | exact Below.refl _ _ | assumption | (refine Below.allocT ?_ _) | refine Below.drew ?_ | refine below_drewN ?_ _ | (refine Below.then ?_ (by assumption)) | (refine Below.setRow ?_ ?_ _; rotate_left; (focus (first | exact Nat.lt_succ_self _ | ((repeat rw [World.size_alloc]); omega) | (simp; done) | (simp; omega) | omega))) | (refine Below.setCell ?_ ?_ _; rotate_left; (focus (first | exact Nat.lt_succ_self _ | ((repeat rw [World.size_alloc]); omega) | (simp; done) | (simp; omega) | omega))) | (refine Below.then' ?_ (by assumption) ?_; rotate_left; (focus (first | exact Nat.lt_succ_self _ | ((repeat rw [World.size_alloc]); omega) | (simp; done) | (simp; omega) | omega))) | fail)); (first | done | fail))
  have HC := Lib.hid (fun W => check_any P W)
  cases hr : rightB P
  · rw [show checkE P = 70 by simp [checkE, hr]] at HC
    have HV : Hid (creM P m a = m ∧ creR P m a = a) := Lib.hid ⟨by simp [creM, hr], by simp [creR, hr]⟩
    rw [HV.out.1, HV.out.2]
    clear hr HV hm ha
    go_enter Try.func37, Try.ntmps37
    go_wp2_with fail
    generalize ((w.alloc (.cells P.cells 24)).alloc (.cells m.cells 67)).alloc (.cells #[.int .u64 0, .int .u64 0, .int .u64 0, .int .i64 0, .int .i64 0, .int .i64 0] 67) = w0 at *
    refine (HC.out _).mono ?_
    rintro e w1 ⟨rfl, hb1⟩
    have s1 := (row_below hb1 (row_lt s0)).trans s0
    have z1 := (row_below hb1 (row_lt z0)).trans z0
    have hB1 := Below.then hB0 hb1
    clear r0 s0 z0 hB0 hb1
    go_wp2_with fail
    obtain ⟨ty, ht⟩ := row_heap (row_setRow (new := m.cells) z1)
    exact bodyPost_ret (v := .tuple #[.agg m.cells, .int .u64 a]) (results_cell_tmp Try.results37 _ _ (w.heap.size + 2) ty m.cells (0, 0) _ rfl ht mb_under rfl mb_info) rfl ⟨rfl, Below.setRow hB1 (by omega) _⟩
  · rw [show checkE P = 0 by simp [checkE, hr]] at HC
    have hcap := (stakes_facts (right_facts hr).1).2.2.2.2.2.2.2.1
    have hsb := hm.s.bal
    obtain ⟨n, hn⟩ : ∃ n, n = creG P m a := ⟨_, rfl⟩
    obtain ⟨d, hd⟩ : ∃ d, d = m.s.bal + n := ⟨_, rfl⟩
    have HV : Hid (creM P m a = (if creB P m a then ⟨⟨d, 0, m.s.score, m.s.streak⟩, m.owner, 1⟩ else ⟨⟨d, m.s.eff, m.s.score, m.s.streak⟩, m.owner, m.status⟩) ∧ creR P m a = a - n) := Lib.hid ⟨by simp [creM, hr, hd, hn], by simp [creR, hr, hn]⟩
    have HF := Lib.hid (fun W => fall_any P.cap m.s.bal (by omega) hsb W)
    have HT := Lib.hid (fun W => take_any a (P.cap - m.s.bal) ha (by omega) W)
    rw [show min a (P.cap - m.s.bal) = n by rw [hn]; rfl] at HT
    have hdl : d < 18446744073709551616 := by rw [hd, hn]; unfold creG; omega
    have E1 : IntKind.u64.wrap ((m.s.bal : Int) + (n : Int)) = (d : Int) := by rw [show (m.s.bal : Int) + (n : Int) = ((d : Nat) : Int) by omega]; exact Bits.wrapN _ hdl
    have HK : Hid (creB P m a = (decide (0 < d) && (decide (m.status = 4) || decide (m.status = 5)))) := Lib.hid (by unfold creB; rw [← hn, ← hd])
    have hx : (creB P m a = true ∧ 0 < d ∧ (m.status == 4) = true) ∨ (creB P m a = true ∧ 0 < d ∧ (m.status == 4) = false ∧ (m.status == 5) = true) ∨ (creB P m a = false ∧ 0 < d ∧ (m.status == 4) = false ∧ (m.status == 5) = false) ∨ (creB P m a = false ∧ d = 0) := by
      rw [HK.out]
      by_cases g0 : 0 < d
      · by_cases g4 : m.status = 4
        · exact .inl ⟨by simp [g0, g4], g0, by rw [g4]; rfl⟩
        · by_cases g5 : m.status = 5
          · exact .inr (.inl ⟨by simp [g0, g5], g0, by rw [g5]; rfl, by rw [g5]; rfl⟩)
          · exact .inr (.inr (.inl ⟨by simp [g4, g5], g0, beq_eq_false_iff_ne.2 g4, beq_eq_false_iff_ne.2 g5⟩))
      · exact .inr (.inr (.inr ⟨by simp [g0], by omega⟩))
    rw [HV.out.1, HV.out.2]
    generalize P.cap - m.s.bal = room at *
    generalize a - n = rest at *
    generalize creB P m a = cb at *
    clear hr HV HK hm ha hn hd hdl hcap hsb
    rcases hx with ⟨rfl, g0, k4⟩ | ⟨rfl, g0, k4, k5⟩ | ⟨rfl, g0, k4, k5⟩ | ⟨rfl, rfl⟩
    ·
      go_enter Try.func37, Try.ntmps37
      go_wp2_with fail
      generalize ((w.alloc (.cells P.cells 24)).alloc (.cells m.cells 67)).alloc (.cells #[.int .u64 0, .int .u64 0, .int .u64 0, .int .i64 0, .int .i64 0, .int .i64 0] 67) = w0 at *
      refine (HC.out _).mono ?_
      rintro e w1 ⟨rfl, hb1⟩
      have r1 := (row_below hb1 (row_lt r0)).trans r0
      have s1 := (row_below hb1 (row_lt s0)).trans s0
      have z1 := (row_below hb1 (row_lt z0)).trans z0
      have hB1 := Below.then hB0 hb1
      have c1 : ∀ i, w1.cell? ⟨w.heap.size, i, none⟩ = P.cells[i]? := fun i => row_cell r1 i
      have c2 : ∀ i, w1.cell? ⟨w.heap.size + 1, i, none⟩ = m.cells[i]? := fun i => row_cell s1 i
      have f2 : ∀ i, w1.frozen? ⟨w.heap.size + 1, i, none⟩ = false := fun i => row_frozen s1 i
      have z3 : row (((w1.setCell ⟨w.heap.size + 1, 0, none⟩ (.int .u64 d)).setCell ⟨w.heap.size + 1, 5, none⟩ (.int .i64 1)).setCell ⟨w.heap.size + 1, 1, none⟩ (.int .u64 0)) (w.heap.size + 2) = some #[.int .u64 0, .int .u64 0, .int .u64 0, .int .i64 0, .int .i64 0, .int .i64 0] := (row_far _ _ _ _ (by simp)).trans ((row_far _ _ _ _ (by simp)).trans ((row_far _ _ _ _ (by simp)).trans z1))
      clear r0 s0 z0 hB0 hb1
      go_wp2_with (first | (go_at_call 61; refine (HF.out _).mono ?_; rintro e wq ⟨rfl, rfl⟩) | (go_at_call 60; refine (HT.out _).mono ?_; rintro e wq ⟨rfl, rfl⟩))
      obtain ⟨ty, ht⟩ := row_heap (row_setRow (new := Mb.cells ⟨⟨d, 0, m.s.score, m.s.streak⟩, m.owner, 1⟩) z3)
      exact bodyPost_ret (v := .tuple #[.agg (Mb.cells ⟨⟨d, 0, m.s.score, m.s.streak⟩, m.owner, 1⟩), .int .u64 rest]) (results_cell_tmp Try.results37 _ _ (w.heap.size + 2) ty (Mb.cells ⟨⟨d, 0, m.s.score, m.s.streak⟩, m.owner, 1⟩) (0, 0) _ rfl ht mb_under rfl mb_info) rfl ⟨by simp, Below.setRow (below_own (below_own (below_own hB1 (by omega) 0 _) (by omega) 5 _) (by omega) 1 _) (by omega) _⟩
    ·
      go_enter Try.func37, Try.ntmps37
      go_wp2_with fail
      generalize ((w.alloc (.cells P.cells 24)).alloc (.cells m.cells 67)).alloc (.cells #[.int .u64 0, .int .u64 0, .int .u64 0, .int .i64 0, .int .i64 0, .int .i64 0] 67) = w0 at *
      refine (HC.out _).mono ?_
      rintro e w1 ⟨rfl, hb1⟩
      have r1 := (row_below hb1 (row_lt r0)).trans r0
      have s1 := (row_below hb1 (row_lt s0)).trans s0
      have z1 := (row_below hb1 (row_lt z0)).trans z0
      have hB1 := Below.then hB0 hb1
      have c1 : ∀ i, w1.cell? ⟨w.heap.size, i, none⟩ = P.cells[i]? := fun i => row_cell r1 i
      have c2 : ∀ i, w1.cell? ⟨w.heap.size + 1, i, none⟩ = m.cells[i]? := fun i => row_cell s1 i
      have f2 : ∀ i, w1.frozen? ⟨w.heap.size + 1, i, none⟩ = false := fun i => row_frozen s1 i
      have z3 : row (((w1.setCell ⟨w.heap.size + 1, 0, none⟩ (.int .u64 d)).setCell ⟨w.heap.size + 1, 5, none⟩ (.int .i64 1)).setCell ⟨w.heap.size + 1, 1, none⟩ (.int .u64 0)) (w.heap.size + 2) = some #[.int .u64 0, .int .u64 0, .int .u64 0, .int .i64 0, .int .i64 0, .int .i64 0] := (row_far _ _ _ _ (by simp)).trans ((row_far _ _ _ _ (by simp)).trans ((row_far _ _ _ _ (by simp)).trans z1))
      clear r0 s0 z0 hB0 hb1
      go_wp2_with (first | (go_at_call 61; refine (HF.out _).mono ?_; rintro e wq ⟨rfl, rfl⟩) | (go_at_call 60; refine (HT.out _).mono ?_; rintro e wq ⟨rfl, rfl⟩))
      obtain ⟨ty, ht⟩ := row_heap (row_setRow (new := Mb.cells ⟨⟨d, 0, m.s.score, m.s.streak⟩, m.owner, 1⟩) z3)
      exact bodyPost_ret (v := .tuple #[.agg (Mb.cells ⟨⟨d, 0, m.s.score, m.s.streak⟩, m.owner, 1⟩), .int .u64 rest]) (results_cell_tmp Try.results37 _ _ (w.heap.size + 2) ty (Mb.cells ⟨⟨d, 0, m.s.score, m.s.streak⟩, m.owner, 1⟩) (0, 0) _ rfl ht mb_under rfl mb_info) rfl ⟨by simp, Below.setRow (below_own (below_own (below_own hB1 (by omega) 0 _) (by omega) 5 _) (by omega) 1 _) (by omega) _⟩
    ·
      go_enter Try.func37, Try.ntmps37
      go_wp2_with fail
      generalize ((w.alloc (.cells P.cells 24)).alloc (.cells m.cells 67)).alloc (.cells #[.int .u64 0, .int .u64 0, .int .u64 0, .int .i64 0, .int .i64 0, .int .i64 0] 67) = w0 at *
      refine (HC.out _).mono ?_
      rintro e w1 ⟨rfl, hb1⟩
      have r1 := (row_below hb1 (row_lt r0)).trans r0
      have s1 := (row_below hb1 (row_lt s0)).trans s0
      have z1 := (row_below hb1 (row_lt z0)).trans z0
      have hB1 := Below.then hB0 hb1
      have c1 : ∀ i, w1.cell? ⟨w.heap.size, i, none⟩ = P.cells[i]? := fun i => row_cell r1 i
      have c2 : ∀ i, w1.cell? ⟨w.heap.size + 1, i, none⟩ = m.cells[i]? := fun i => row_cell s1 i
      have f2 : ∀ i, w1.frozen? ⟨w.heap.size + 1, i, none⟩ = false := fun i => row_frozen s1 i
      have z3 : row (w1.setCell ⟨w.heap.size + 1, 0, none⟩ (.int .u64 d)) (w.heap.size + 2) = some #[.int .u64 0, .int .u64 0, .int .u64 0, .int .i64 0, .int .i64 0, .int .i64 0] := (row_far _ _ _ _ (by simp)).trans z1
      clear r0 s0 z0 hB0 hb1
      go_wp2_with (first | (go_at_call 61; refine (HF.out _).mono ?_; rintro e wq ⟨rfl, rfl⟩) | (go_at_call 60; refine (HT.out _).mono ?_; rintro e wq ⟨rfl, rfl⟩))
      obtain ⟨ty, ht⟩ := row_heap (row_setRow (new := Mb.cells ⟨⟨d, m.s.eff, m.s.score, m.s.streak⟩, m.owner, m.status⟩) z3)
      exact bodyPost_ret (v := .tuple #[.agg (Mb.cells ⟨⟨d, m.s.eff, m.s.score, m.s.streak⟩, m.owner, m.status⟩), .int .u64 rest]) (results_cell_tmp Try.results37 _ _ (w.heap.size + 2) ty (Mb.cells ⟨⟨d, m.s.eff, m.s.score, m.s.streak⟩, m.owner, m.status⟩) (0, 0) _ rfl ht mb_under rfl mb_info) rfl ⟨by simp, Below.setRow (below_own hB1 (by omega) 0 _) (by omega) _⟩
    ·
      have E1 : IntKind.u64.wrap ((m.s.bal : Int) + (n : Int)) = (0 : Int) := E1
      go_enter Try.func37, Try.ntmps37
      go_wp2_with fail
      generalize ((w.alloc (.cells P.cells 24)).alloc (.cells m.cells 67)).alloc (.cells #[.int .u64 0, .int .u64 0, .int .u64 0, .int .i64 0, .int .i64 0, .int .i64 0] 67) = w0 at *
      refine (HC.out _).mono ?_
      rintro e w1 ⟨rfl, hb1⟩
      have r1 := (row_below hb1 (row_lt r0)).trans r0
      have s1 := (row_below hb1 (row_lt s0)).trans s0
      have z1 := (row_below hb1 (row_lt z0)).trans z0
      have hB1 := Below.then hB0 hb1
      have c1 : ∀ i, w1.cell? ⟨w.heap.size, i, none⟩ = P.cells[i]? := fun i => row_cell r1 i
      have c2 : ∀ i, w1.cell? ⟨w.heap.size + 1, i, none⟩ = m.cells[i]? := fun i => row_cell s1 i
      have f2 : ∀ i, w1.frozen? ⟨w.heap.size + 1, i, none⟩ = false := fun i => row_frozen s1 i
      have z3 : row (w1.setCell ⟨w.heap.size + 1, 0, none⟩ (.int .u64 0)) (w.heap.size + 2) = some #[.int .u64 0, .int .u64 0, .int .u64 0, .int .i64 0, .int .i64 0, .int .i64 0] := (row_far _ _ _ _ (by simp)).trans z1
      clear r0 s0 z0 hB0 hb1
      go_wp2_with (first | (go_at_call 61; refine (HF.out _).mono ?_; rintro e wq ⟨rfl, rfl⟩) | (go_at_call 60; refine (HT.out _).mono ?_; rintro e wq ⟨rfl, rfl⟩))
      obtain ⟨ty, ht⟩ := row_heap (row_setRow (new := Mb.cells ⟨⟨0, m.s.eff, m.s.score, m.s.streak⟩, m.owner, m.status⟩) z3)
      exact bodyPost_ret (v := .tuple #[.agg (Mb.cells ⟨⟨0, m.s.eff, m.s.score, m.s.streak⟩, m.owner, m.status⟩), .int .u64 rest]) (results_cell_tmp Try.results37 _ _ (w.heap.size + 2) ty (Mb.cells ⟨⟨0, m.s.eff, m.s.score, m.s.streak⟩, m.owner, m.status⟩) (0, 0) _ rfl ht mb_under rfl mb_info) rfl ⟨by simp, Below.setRow (below_own hB1 (by omega) 0 _) (by omega) _⟩
end Go.Proofs.Ytkfbnaafpikgfaa

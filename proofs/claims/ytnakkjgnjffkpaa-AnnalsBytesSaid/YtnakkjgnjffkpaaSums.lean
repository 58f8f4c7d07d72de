/-
  What reports have done together: one, of; a list in memory of its own.
-/
import Derived.Test.YtnakkjgnjffkpaaRep2
import Derived.Test.YtnakkjgnjffkpaaAgg
import Derived.Deep.RegionHeld3
namespace Go.Proofs.Ytnakkjgnjffkpaa
open Go.RowKit
set_option linter.unusedVariables false

structure Sm where
  ticks : Nat
  quorums : Nat
  leaks : Nat
  minted : Nat
  paid : Nat
  kept : Nat
  burned : Nat
  fees : Nat
  out : Nat
  left : Nat
  started : Nat
  done : Nat
deriving DecidableEq
def smC (s : Sm) : Array Value := #[.int .i64 (s.ticks : Int), .int .i64 (s.quorums : Int), .int .i64 (s.leaks : Int), .int .u64 (s.minted : Int), .int .u64 (s.paid : Int), .int .u64 (s.kept : Int), .int .u64 (s.burned : Int), .int .u64 (s.fees : Int), .int .i64 (s.out : Int), .int .i64 (s.left : Int), .int .i64 (s.started : Int), .int .i64 (s.done : Int)]
theorem smC_size (s : Sm) : (smC s).size = 12 := rfl
theorem smC_one (s : Sm) : allOne (smC s) = true := by unfold allOne smC; simp [Value.oneCell']
theorem smC_room (s : Sm) : roomy 0 12 (smC s) = true := rfl
theorem smC_ex (s : Sm) : (smC s).extract 0 12 = smC s := rfl
attribute [go_sem] smC_size smC_one smC_room smC_ex
def Sm.zero : Sm := ⟨0, 0, 0, 0, 0, 0, 0, 0, 0, 0, 0, 0⟩
def oneN (b : Bool) : Nat := if b then 1 else 0
def leakB (m : Int) : Bool := decide (m = 3 ∨ m = 4)
def smOf (r : Rep) : Sm := ⟨1, oneN r.quorum, oneN (leakB r.mode), r.minted, r.paid, r.kept, r.burned, r.fees, r.out.length, r.left.length, r.started.length, r.done.length⟩
theorem sums_under : Try.prog.underlying 45 = some (.struct (Try.prog.fieldsOf 45)) := by kernel_rfl
theorem sums_info : (Try.prog.info? 45).map (·.size) = some 12 := by kernel_rfl
theorem sums_load {dst : Option Tmp} {x : Operand} {ty : TypeId} {pos : String} {after : Array Edge} {gd : Option (Nat × Bool)} {a : Act} {w : World} {K : Act → World → Prop} {Q : Exit → Act → World → Prop} (h1 : a.eval x = .pointer (some ⟨blk (a.eval x), ofs (a.eval x), none⟩)) (h2 : (row w (blk (a.eval x))).map (roomy (ofs (a.eval x)) 12) = some true) : Oper.wp Try.prog ⟨dst, .load 45 x, ty, pos, after, gd⟩ a w K Q = K (a.put dst (.agg (((row w (blk (a.eval x))).getD #[]).extract (ofs (a.eval x)) (ofs (a.eval x) + 12)))) w := wp_load_part _ 12 _ sums_under rfl sums_info h1 h2
theorem sums_store {dst : Option Tmp} {x : Operand} {ty : TypeId} {pos : String} {after : Array Edge} {gd : Option (Nat × Bool)} {y : Operand} {a : Act} {w : World} {K : Act → World → Prop} {Q : Exit → Act → World → Prop} (h1 : a.eval x = .pointer (some ⟨blk (a.eval x), 0, none⟩)) (h2 : (row w (blk (a.eval x))).map (·.size) = some 12) (h3 : a.eval y = .agg (aggOf (a.eval y))) (h4 : (aggOf (a.eval y)).size = 12) (h5 : allOne (aggOf (a.eval y)) = true) : Oper.wp Try.prog ⟨dst, .store 45 x y, ty, pos, after, gd⟩ a w K Q = K (a.put dst undef) (w.setRow (blk (a.eval x)) (aggOf (a.eval y))) := wp_store_agg _ 12 sums_info h1 h2 h3 h4 h5
theorem sums_run_load {ρ : Operand → Value} {dst : Option Tmp} {x : Operand} {ty : TypeId} {pos : String} {after : Array Edge} {gd : Option (Nat × Bool)} {w : World} (h1 : ρ x = .pointer (some ⟨blk (ρ x), ofs (ρ x), none⟩)) (h2 : (row w (blk (ρ x))).map (roomy (ofs (ρ x)) 12) = some true) : (execOp ρ ⟨dst, .load 45 x, ty, pos, after, gd⟩).run Try.prog w = .ok (.value (.agg (((row w (blk (ρ x))).getD #[]).extract (ofs (ρ x)) (ofs (ρ x) + 12)))) w := run_load_part _ 12 _ sums_under rfl sums_info h1 h2
theorem sums_quiet {C : World → Prop} {dst : Option Tmp} {x : Operand} {ty : TypeId} {pos : String} {after : Array Edge} {gd : Option (Nat × Bool)} {a : Act} {w : World} {g o : Nat} {cs : Array Value} (h1 : a.eval x = .pointer (some ⟨g, o, none⟩)) (h2 : row w g = some cs) (hs : roomy o 12 cs = true) : Oper.quietAt Try.prog ⟨dst, .load 45 x, ty, pos, after, gd⟩ a C w (.agg (cs.extract o (o + 12))) := quiet_load_part _ 12 _ sums_under rfl sums_info h1 h2 hs
attribute [go_sem ↓] sums_load sums_store sums_run_load
theorem rsums_under : Try.prog.underlying 48 = some (.struct (Try.prog.fieldsOf 48)) := by kernel_rfl
theorem rsums_info : (Try.prog.info? 48).map (·.size) = some 12 := by kernel_rfl
theorem rsums_load {dst : Option Tmp} {x : Operand} {ty : TypeId} {pos : String} {after : Array Edge} {gd : Option (Nat × Bool)} {a : Act} {w : World} {K : Act → World → Prop} {Q : Exit → Act → World → Prop} (h1 : a.eval x = .pointer (some ⟨blk (a.eval x), ofs (a.eval x), none⟩)) (h2 : (row w (blk (a.eval x))).map (roomy (ofs (a.eval x)) 12) = some true) : Oper.wp Try.prog ⟨dst, .load 48 x, ty, pos, after, gd⟩ a w K Q = K (a.put dst (.agg (((row w (blk (a.eval x))).getD #[]).extract (ofs (a.eval x)) (ofs (a.eval x) + 12)))) w := wp_load_part _ 12 _ rsums_under rfl rsums_info h1 h2
theorem rsums_store {dst : Option Tmp} {x : Operand} {ty : TypeId} {pos : String} {after : Array Edge} {gd : Option (Nat × Bool)} {y : Operand} {a : Act} {w : World} {K : Act → World → Prop} {Q : Exit → Act → World → Prop} (h1 : a.eval x = .pointer (some ⟨blk (a.eval x), 0, none⟩)) (h2 : (row w (blk (a.eval x))).map (·.size) = some 12) (h3 : a.eval y = .agg (aggOf (a.eval y))) (h4 : (aggOf (a.eval y)).size = 12) (h5 : allOne (aggOf (a.eval y)) = true) : Oper.wp Try.prog ⟨dst, .store 48 x y, ty, pos, after, gd⟩ a w K Q = K (a.put dst undef) (w.setRow (blk (a.eval x)) (aggOf (a.eval y))) := wp_store_agg _ 12 rsums_info h1 h2 h3 h4 h5
theorem rsums_run_load {ρ : Operand → Value} {dst : Option Tmp} {x : Operand} {ty : TypeId} {pos : String} {after : Array Edge} {gd : Option (Nat × Bool)} {w : World} (h1 : ρ x = .pointer (some ⟨blk (ρ x), ofs (ρ x), none⟩)) (h2 : (row w (blk (ρ x))).map (roomy (ofs (ρ x)) 12) = some true) : (execOp ρ ⟨dst, .load 48 x, ty, pos, after, gd⟩).run Try.prog w = .ok (.value (.agg (((row w (blk (ρ x))).getD #[]).extract (ofs (ρ x)) (ofs (ρ x) + 12)))) w := run_load_part _ 12 _ rsums_under rfl rsums_info h1 h2
theorem rsums_quiet {C : World → Prop} {dst : Option Tmp} {x : Operand} {ty : TypeId} {pos : String} {after : Array Edge} {gd : Option (Nat × Bool)} {a : Act} {w : World} {g o : Nat} {cs : Array Value} (h1 : a.eval x = .pointer (some ⟨g, o, none⟩)) (h2 : row w g = some cs) (hs : roomy o 12 cs = true) : Oper.quietAt Try.prog ⟨dst, .load 48 x, ty, pos, after, gd⟩ a C w (.agg (cs.extract o (o + 12))) := quiet_load_part _ 12 _ rsums_under rfl rsums_info h1 h2 hs
attribute [go_sem ↓] rsums_load rsums_store rsums_run_load
theorem results_cell_1 {P : Program} {fn : Func} {p : Tmp} {ty : TypeId} (h : fn.results = #[.cell p ty]) (tmps : Array Value) (w : World) (g : Nat) (t : TypeId) (cs : Array Value) (fr : Nat × Nat) (d : TypeDesc)
    (hp : tmps.getD p undef = .pointer (some ⟨g, 0, none⟩)) (hg : w.heap[g]? = some (.cells cs t fr))
    (hu : P.underlying ty = some d) (hd : (match d with | .struct _ | .array _ _ => true | _ => false) = true) (hi : (P.info? ty).map (·.size) = some cs.size) :
    (results fn tmps).run P w = .ok (.agg cs) w := by
  have hp' : tmps[p]?.getD undef = .pointer (some ⟨g, 0, none⟩) := by simpa using hp
  simp [results, h, hp', asAddr, run_loadVar_row w g t ty cs fr d hg hu hd hi]
theorem one38_any (b : Bool) (w : World) : Calls Try.prog 114 #[.bool b] w fun e w' => e = .returned (.int .i64 (oneN b : Int)) ∧ w = w' := by
  cases b
  all_goals
    go_enter Try.func114, Try.ntmps114
    go_wp2_with fail
    go_ret
    exact ⟨rfl, rfl⟩
theorem leaks38_any (m : Int) (w : World) : Calls Try.prog 115 #[.int .i64 m] w fun e w' => e = .returned (.bool (leakB m)) ∧ w = w' := by
  by_cases h3 : m = 3
  · subst h3
    go_enter Try.func115, Try.ntmps115
    go_wp2_with fail
    go_ret
    exact ⟨rfl, rfl⟩
  · by_cases h4 : m = 4
    · subst h4
      go_enter Try.func115, Try.ntmps115
      go_wp2_with fail
      go_ret
      exact ⟨rfl, rfl⟩
    · have HV : Hid (leakB m = false) := Lib.hid (decide_eq_false (by omega))
      have e3 : (m == 3) = false := beq_eq_false_iff_ne.2 h3
      have e4 : (m == 4) = false := beq_eq_false_iff_ne.2 h4
      clear h3 h4
      go_enter Try.func115, Try.ntmps115
      go_wp2_with fail
      go_ret
      exact ⟨by rw [HV.out]; rfl, rfl⟩
set_option maxRecDepth 100000 in
set_option maxHeartbeats 4000000 in
theorem of38_any (r : Rep) (a : RepA) (w : World) : Calls Try.prog 56 #[.agg (repC (r, a))] w fun e w' => e = .returned (.agg (smC (smOf r))) ∧ Below w.heap.size w w' := by
  have r0 : row ((w.alloc (.cells (repC (r, a)) 36)).alloc (.cells (smC Sm.zero) 45)) w.heap.size = some (repC (r, a)) := (row_past _ _ _ (by rw [World.size_alloc]; omega)).trans (row_at _ _ _ _ rfl)
  have q0 : row ((w.alloc (.cells (repC (r, a)) 36)).alloc (.cells (smC Sm.zero) 45)) (w.heap.size + 1) = some (smC Sm.zero) := row_at _ _ _ _ (by rw [World.size_alloc])
  have hB0 : Below w.heap.size w ((w.alloc (.cells (repC (r, a)) 36)).alloc (.cells (smC Sm.zero) 45)) := (by (repeat (first | exact Below.refl _ _ | assumption | (refine Below.allocT ?_ _) | refine Below.drew ?_ | refine below_drewN ?_ _ | (refine Below.then ?_ (by assumption)) | (refine Below.setRow ?_ ?_ _; rotate_left; (focus (first | exact Nat.lt_succ_self _ | ((repeat rw [World.size_alloc]); omega) | (simp; done) | (simp; omega) | omega))) | (refine Below.setCell ?_ ?_ _; rotate_left; (focus (first | exact Nat.lt_succ_self _ | ((repeat rw [World.size_alloc]); omega) | (simp; done) | (simp; omega) | omega))) | (refine Below.then' ?_ (by assumption) ?_; rotate_left; (focus (first | exact Nat.lt_succ_self _ | ((repeat rw [World.size_alloc]); omega) | (simp; done) | (simp; omega) | omega))) | fail)); (first | done | fail))
  go_enter Try.func56, Try.ntmps56
  go_upto_region 1 with fail
  change Code.wp _ _ _ _ ((w.alloc (.cells (repC (r, a)) 36)).alloc (.cells (smC Sm.zero) 45))
  first | rw [World.size_alloc] | skip
  generalize (w.alloc (.cells (repC (r, a)) 36)).alloc (.cells (smC Sm.zero) 45) = w0 at *
  have HOne : Hid (∀ b W, Calls Try.prog 114 #[.bool b] W fun e w' => e = .returned (.int .i64 (oneN b : Int)) ∧ w' = W) := Lib.hid fun b W => same_symm (one38_any b W)
  have HLk : Hid (∀ W, Calls Try.prog 115 #[.int .i64 r.mode] W fun e w' => e = .returned (.bool (leakB r.mode)) ∧ w' = W) := Lib.hid fun W => same_symm (leaks38_any r.mode W)
  have HR : Hid (smC (smOf r) = #[.int .i64 1, .int .i64 (oneN r.quorum : Int), .int .i64 (oneN (leakB r.mode) : Int), .int .u64 (r.minted : Int), .int .u64 (r.paid : Int), .int .u64 (r.kept : Int), .int .u64 (r.burned : Int), .int .u64 (r.fees : Int), .int .i64 (r.out.length : Int), .int .i64 (r.left.length : Int), .int .i64 (r.started.length : Int), .int .i64 (r.done.length : Int)]) := Lib.hid rfl
  have hone : allOne #[.int .i64 1, .int .i64 (oneN r.quorum : Int), .int .i64 (oneN (leakB r.mode) : Int), .int .u64 (r.minted : Int), .int .u64 (r.paid : Int), .int .u64 (r.kept : Int), .int .u64 (r.burned : Int), .int .u64 (r.fees : Int), .int .i64 (r.out.length : Int), .int .i64 (r.left.length : Int), .int .i64 (r.started.length : Int), .int .i64 (r.done.length : Int)] = true := smC_one (smOf r)
  (refine region_still_tail 30 (fun wd => row wd w.heap.size = some (repC (r, a)) ∧ row wd (w.heap.size + 1) = some (smC Sm.zero) ∧ Below w.heap.size w wd) (by kernel_rfl) (by kernel_rfl) (⟨r0, q0, hB0.drew⟩) (fun wd hwd => ?_); (obtain ⟨r1, q1, b1⟩ := hwd); have c1 := fun i => row_cell r1 i; simp only [List.take_succ_cons, List.take_zero, List.drop_succ_cons, List.drop_zero]; (repeat still_step))
  still_call (HOne.out _ _)
  repeat still_step
  still_call (HLk.out _)
  repeat still_step
  still_call (HOne.out _ _)
  repeat still_step
  refine wpStill_nil ?_
  obtain ⟨t9, ht9⟩ := row_heap (row_setRow (new := smC (smOf r)) q1)
  have HT9 := Lib.hid ht9
  have B1 := Lib.hid b1
  clear ht9 b1 c1 r1 r0 q0 hB0
  go_wp2_with fail
  exact bodyPost_ret (v := .agg (smC (smOf r))) (results_cell_1 Try.results56 _ _ (w.heap.size + 1) _ (smC (smOf r)) (0, 0) _ rfl HT9.out sums_under rfl sums_info) rfl ⟨rfl, Below.setRow B1.out (Nat.le_succ _) _⟩
end Go.Proofs.Ytnakkjgnjffkpaa

/-
  What the reference's functions of layer 22 answer (bullionref22): Weigh and Active, as whole numbers.
-/
import Derived.Test.YtkfbnaafpikgfaaSel
import Derived.Test.YtkfbnaafpikgfaaRef01g
namespace Go.Proofs.Ytkfbnaafpikgfaa
open Go.RowKit
set_option linter.unusedVariables false

theorem selL_total {ms : List Mb} (hok : ∀ m ∈ ms, m.s.eff < 18446744073709551616) (sel : Nat → Bool) (k : Nat) (hk : k ≤ 1000) : (dg (total (selL ms sel k))).length ≤ 30 := by
  have h := total_len (selL ms sel k) (fun i => selL_getD hok sel k i) (by have := selL_len ms sel k; omega) (selL ms sel k).length (Nat.le_refl _)
  rwa [List.take_length] at h
theorem rmb_under : Try.prog.underlying 69 = some (.struct (Try.prog.fieldsOf 69)) := by kernel_rfl
theorem rmb_info : (Try.prog.info? 69).map (·.size) = some 6 := by kernel_rfl
theorem rmb_load {dst : Option Tmp} {x : Operand} {ty : TypeId} {pos : String} {after : Array Edge} {gd : Option (Nat × Bool)} {a : Act} {w : World} {K : Act → World → Prop} {Q : Exit → Act → World → Prop} (h1 : a.eval x = .pointer (some ⟨blk (a.eval x), ofs (a.eval x), none⟩)) (h2 : (row w (blk (a.eval x))).map (roomy (ofs (a.eval x)) 6) = some true) : Oper.wp Try.prog ⟨dst, .load 69 x, ty, pos, after, gd⟩ a w K Q = K (a.put dst (.agg (((row w (blk (a.eval x))).getD #[]).extract (ofs (a.eval x)) (ofs (a.eval x) + 6)))) w := wp_load_part _ 6 _ rmb_under rfl rmb_info h1 h2
theorem rmb_store {dst : Option Tmp} {x : Operand} {ty : TypeId} {pos : String} {after : Array Edge} {gd : Option (Nat × Bool)} {y : Operand} {a : Act} {w : World} {K : Act → World → Prop} {Q : Exit → Act → World → Prop} (h1 : a.eval x = .pointer (some ⟨blk (a.eval x), 0, none⟩)) (h2 : (row w (blk (a.eval x))).map (·.size) = some 6) (h3 : a.eval y = .agg (aggOf (a.eval y))) (h4 : (aggOf (a.eval y)).size = 6) (h5 : allOne (aggOf (a.eval y)) = true) : Oper.wp Try.prog ⟨dst, .store 69 x y, ty, pos, after, gd⟩ a w K Q = K (a.put dst undef) (w.setRow (blk (a.eval x)) (aggOf (a.eval y))) := wp_store_agg _ 6 rmb_info h1 h2 h3 h4 h5
theorem rmb_run_load {ρ : Operand → Value} {dst : Option Tmp} {x : Operand} {ty : TypeId} {pos : String} {after : Array Edge} {gd : Option (Nat × Bool)} {w : World} (h1 : ρ x = .pointer (some ⟨blk (ρ x), ofs (ρ x), none⟩)) (h2 : (row w (blk (ρ x))).map (roomy (ofs (ρ x)) 6) = some true) : (execOp ρ ⟨dst, .load 69 x, ty, pos, after, gd⟩).run Try.prog w = .ok (.value (.agg (((row w (blk (ρ x))).getD #[]).extract (ofs (ρ x)) (ofs (ρ x) + 6)))) w := run_load_part _ 6 _ rmb_under rfl rmb_info h1 h2
theorem rmb_quiet {C : World → Prop} {dst : Option Tmp} {x : Operand} {ty : TypeId} {pos : String} {after : Array Edge} {gd : Option (Nat × Bool)} {a : Act} {w : World} {g o : Nat} {cs : Array Value} (h1 : a.eval x = .pointer (some ⟨g, o, none⟩)) (h2 : row w g = some cs) (hs : roomy o 6 cs = true) : Oper.quietAt Try.prog ⟨dst, .load 69 x, ty, pos, after, gd⟩ a C w (.agg (cs.extract o (o + 6))) := quiet_load_part _ 6 _ rmb_under rfl rmb_info h1 h2 hs
attribute [go_sem ↓] rmb_load rmb_store rmb_run_load
theorem rcounts_any (m : Mb) (w : World) : Calls Try.prog 64 #[.agg m.cells] w fun e w' => e = .returned (.bool (countsB m.status)) ∧ Below w.heap.size w w' := by
  by_cases h2 : m.status = 2
  · have k2 : (m.status == 2) = true := by rw [h2]; rfl
    have HV : Hid (countsB m.status = true) := Lib.hid (by simp [countsB, h2])
    clear h2
    go_enter Try.func64, Try.ntmps64
    go_wp2_with fail
    go_ret
    exact ⟨by rw [HV.out]; rfl, (by (repeat (first | exact Below.refl _ _ | assumption | (refine Below.allocT ?_ _) | refine Below.drew ?_ | refine below_drewN ?_ _ | (refine Below.then ?_ (by assumption)) | (refine Below.setRow ?_ ?_ _; rotate_left; (focus (first | exact Nat.lt_succ_self _ | ((repeat rw [World.size_alloc]); omega) | (simp; done) | (simp; omega) | omega))) | (refine Below.setCell ?_ ?_ _; rotate_left; (focus (first | exact Nat.lt_succ_self _ | ((repeat rw [World.size_alloc]); omega) | (simp; done) | (simp; omega) | omega))) | (refine Below.then' ?_ (by assumption) ?_; rotate_left; (focus (first | exact Nat.lt_succ_self _ | ((repeat rw [World.size_alloc]); omega) | (simp; done) | (simp; omega) | omega))) | fail)); (first | done | fail))⟩
  · have k2 : (m.status == 2) = false := beq_eq_false_iff_ne.2 h2
    by_cases h3 : m.status = 3
    · have k3 : (m.status == 3) = true := by rw [h3]; rfl
      have HV : Hid (countsB m.status = true) := Lib.hid (by simp [countsB, h3])
      clear h2 h3
      go_enter Try.func64, Try.ntmps64
      go_wp2_with fail
      go_ret
      exact ⟨by rw [HV.out]; rfl, (by (repeat (first | exact Below.refl _ _ | assumption | (refine Below.allocT ?_ _) | refine Below.drew ?_ | refine below_drewN ?_ _ | (refine Below.then ?_ (by assumption)) | (refine Below.setRow ?_ ?_ _; rotate_left; (focus (first | exact Nat.lt_succ_self _ | ((repeat rw [World.size_alloc]); omega) | (simp; done) | (simp; omega) | omega))) | (refine Below.setCell ?_ ?_ _; rotate_left; (focus (first | exact Nat.lt_succ_self _ | ((repeat rw [World.size_alloc]); omega) | (simp; done) | (simp; omega) | omega))) | (refine Below.then' ?_ (by assumption) ?_; rotate_left; (focus (first | exact Nat.lt_succ_self _ | ((repeat rw [World.size_alloc]); omega) | (simp; done) | (simp; omega) | omega))) | fail)); (first | done | fail))⟩
    · have k3 : (m.status == 3) = false := beq_eq_false_iff_ne.2 h3
      have HV : Hid (countsB m.status = false) := Lib.hid (by simp [countsB, h2, h3])
      clear h2 h3
      go_enter Try.func64, Try.ntmps64
      go_wp2_with fail
      go_ret
      exact ⟨by rw [HV.out]; rfl, (by (repeat (first | exact Below.refl _ _ | assumption | (refine Below.allocT ?_ _) | refine Below.drew ?_ | refine below_drewN ?_ _ | (refine Below.then ?_ (by assumption)) | (refine Below.setRow ?_ ?_ _; rotate_left; (focus (first | exact Nat.lt_succ_self _ | ((repeat rw [World.size_alloc]); omega) | (simp; done) | (simp; omega) | omega))) | (refine Below.setCell ?_ ?_ _; rotate_left; (focus (first | exact Nat.lt_succ_self _ | ((repeat rw [World.size_alloc]); omega) | (simp; done) | (simp; omega) | omega))) | (refine Below.then' ?_ (by assumption) ?_; rotate_left; (focus (first | exact Nat.lt_succ_self _ | ((repeat rw [World.size_alloc]); omega) | (simp; done) | (simp; omega) | omega))) | fail)); (first | done | fail))⟩
end Go.Proofs.Ytkfbnaafpikgfaa

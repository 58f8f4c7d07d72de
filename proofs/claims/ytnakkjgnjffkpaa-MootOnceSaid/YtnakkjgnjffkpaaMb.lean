/-
  Members: a standing, an owner and a status.
-/
import Derived.Test.YtnakkjgnjffkpaaSt
import Derived.Test.YtnakkjgnjffkpaaMoney
namespace Go.Proofs.Ytnakkjgnjffkpaa
open Go.RowKit
set_option linter.unusedVariables false

structure Mb where
  s : St
  owner : Int
  status : Int
structure Mb.Ok (m : Mb) : Prop where
  s : m.s.Ok
  owner : i64ok m.owner
  status : i64ok m.status
def Mb.cells (m : Mb) : Array Value := #[.int .u64 m.s.bal, .int .u64 m.s.eff, .int .u64 m.s.score, .int .i64 m.s.streak, .int .i64 m.owner, .int .i64 m.status]
theorem Mb.cells_size (m : Mb) : m.cells.size = 6 := rfl
theorem Mb.cells_one (m : Mb) : allOne m.cells = true := by unfold allOne Mb.cells; simp [Value.oneCell']
theorem Mb.at0 (m : Mb) : m.cells[0]? = some (.int .u64 m.s.bal) := rfl
theorem Mb.at1 (m : Mb) : m.cells[1]? = some (.int .u64 m.s.eff) := rfl
theorem Mb.at2 (m : Mb) : m.cells[2]? = some (.int .u64 m.s.score) := rfl
theorem Mb.at3 (m : Mb) : m.cells[3]? = some (.int .i64 m.s.streak) := rfl
theorem Mb.at4 (m : Mb) : m.cells[4]? = some (.int .i64 m.owner) := rfl
theorem Mb.at5 (m : Mb) : m.cells[5]? = some (.int .i64 m.status) := rfl
theorem Mb.room (m : Mb) : roomy 0 6 m.cells = true := rfl
theorem Mb.ext (m : Mb) : m.cells.extract 0 6 = m.cells := rfl
theorem Mb.room4 (m : Mb) : roomy 0 4 m.cells = true := rfl
theorem Mb.ext4 (m : Mb) : m.cells.extract 0 4 = m.s.cells := rfl
theorem Mb.set_bal (m : Mb) (n : Nat) : m.cells.setIfInBounds 0 (.int .u64 (n : Int)) = Mb.cells ⟨⟨n, m.s.eff, m.s.score, m.s.streak⟩, m.owner, m.status⟩ := rfl
theorem Mb.set_bal0 (m : Mb) : m.cells.setIfInBounds 0 (.int .u64 0) = Mb.cells ⟨⟨0, m.s.eff, m.s.score, m.s.streak⟩, m.owner, m.status⟩ := rfl
theorem Mb.set_eff (m : Mb) (n : Nat) : m.cells.setIfInBounds 1 (.int .u64 (n : Int)) = Mb.cells ⟨⟨m.s.bal, n, m.s.score, m.s.streak⟩, m.owner, m.status⟩ := rfl
theorem Mb.set_eff0 (m : Mb) : m.cells.setIfInBounds 1 (.int .u64 0) = Mb.cells ⟨⟨m.s.bal, 0, m.s.score, m.s.streak⟩, m.owner, m.status⟩ := rfl
theorem Mb.set_streak (m : Mb) (n : Int) : m.cells.setIfInBounds 3 (.int .i64 n) = Mb.cells ⟨⟨m.s.bal, m.s.eff, m.s.score, n⟩, m.owner, m.status⟩ := rfl
theorem Mb.set_status (m : Mb) (n : Int) : m.cells.setIfInBounds 5 (.int .i64 n) = Mb.cells ⟨m.s, m.owner, n⟩ := rfl
attribute [go_sem] Mb.cells_size Mb.cells_one Mb.at0 Mb.at1 Mb.at2 Mb.at3 Mb.at4 Mb.at5 Mb.room Mb.ext Mb.room4 Mb.ext4 Mb.set_bal Mb.set_bal0 Mb.set_eff Mb.set_eff0 Mb.set_streak Mb.set_status
def countsB (status : Int) : Bool := decide (status = 2) || decide (status = 3)
theorem mb_under : Try.prog.underlying 197 = some (.struct (Try.prog.fieldsOf 197)) := by kernel_rfl
theorem mb_info : (Try.prog.info? 197).map (·.size) = some 6 := by kernel_rfl
theorem mb_load {dst : Option Tmp} {x : Operand} {ty : TypeId} {pos : String} {after : Array Edge} {gd : Option (Nat × Bool)} {a : Act} {w : World} {K : Act → World → Prop} {Q : Exit → Act → World → Prop} (h1 : a.eval x = .pointer (some ⟨blk (a.eval x), ofs (a.eval x), none⟩)) (h2 : (row w (blk (a.eval x))).map (roomy (ofs (a.eval x)) 6) = some true) : Oper.wp Try.prog ⟨dst, .load 197 x, ty, pos, after, gd⟩ a w K Q = K (a.put dst (.agg (((row w (blk (a.eval x))).getD #[]).extract (ofs (a.eval x)) (ofs (a.eval x) + 6)))) w := wp_load_part _ 6 _ mb_under rfl mb_info h1 h2
theorem mb_store {dst : Option Tmp} {x : Operand} {ty : TypeId} {pos : String} {after : Array Edge} {gd : Option (Nat × Bool)} {y : Operand} {a : Act} {w : World} {K : Act → World → Prop} {Q : Exit → Act → World → Prop} (h1 : a.eval x = .pointer (some ⟨blk (a.eval x), 0, none⟩)) (h2 : (row w (blk (a.eval x))).map (·.size) = some 6) (h3 : a.eval y = .agg (aggOf (a.eval y))) (h4 : (aggOf (a.eval y)).size = 6) (h5 : allOne (aggOf (a.eval y)) = true) : Oper.wp Try.prog ⟨dst, .store 197 x y, ty, pos, after, gd⟩ a w K Q = K (a.put dst undef) (w.setRow (blk (a.eval x)) (aggOf (a.eval y))) := wp_store_agg _ 6 mb_info h1 h2 h3 h4 h5
theorem mb_run_load {ρ : Operand → Value} {dst : Option Tmp} {x : Operand} {ty : TypeId} {pos : String} {after : Array Edge} {gd : Option (Nat × Bool)} {w : World} (h1 : ρ x = .pointer (some ⟨blk (ρ x), ofs (ρ x), none⟩)) (h2 : (row w (blk (ρ x))).map (roomy (ofs (ρ x)) 6) = some true) : (execOp ρ ⟨dst, .load 197 x, ty, pos, after, gd⟩).run Try.prog w = .ok (.value (.agg (((row w (blk (ρ x))).getD #[]).extract (ofs (ρ x)) (ofs (ρ x) + 6)))) w := run_load_part _ 6 _ mb_under rfl mb_info h1 h2
theorem mb_quiet {C : World → Prop} {dst : Option Tmp} {x : Operand} {ty : TypeId} {pos : String} {after : Array Edge} {gd : Option (Nat × Bool)} {a : Act} {w : World} {g o : Nat} {cs : Array Value} (h1 : a.eval x = .pointer (some ⟨g, o, none⟩)) (h2 : row w g = some cs) (hs : roomy o 6 cs = true) : Oper.quietAt Try.prog ⟨dst, .load 197 x, ty, pos, after, gd⟩ a C w (.agg (cs.extract o (o + 6))) := quiet_load_part _ 6 _ mb_under rfl mb_info h1 h2 hs
attribute [go_sem ↓] mb_load mb_store mb_run_load
theorem counts_any (m : Mb) (w : World) : Calls Try.prog 162 #[.agg m.cells] w fun e w' => e = .returned (.bool (countsB m.status)) ∧ Below w.heap.size w w' := by
  by_cases h2 : m.status = 2
  · have k2 : (m.status == 2) = true := by rw [h2]; rfl
    have HV : Hid (countsB m.status = true) := Lib.hid (by simp [countsB, h2])
    clear h2
    go_enter Try.func162, Try.ntmps162
    go_wp2_with fail
    go_ret
    exact ⟨by rw [HV.out]; rfl, (by (repeat (first | exact Below.refl _ _ | assumption | (refine Below.allocT ?_ _) | refine Below.drew ?_ | refine below_drewN ?_ _ | (refine Below.then ?_ (by assumption)) | (refine Below.setRow ?_ ?_ _; rotate_left; (focus (first | exact Nat.lt_succ_self _ | ((repeat rw [World.size_alloc]); omega) | (simp; done) | (simp; omega) | omega))) | (refine Below.setCell ?_ ?_ _; rotate_left; (focus (first | exact Nat.lt_succ_self _ | ((repeat rw [World.size_alloc]); omega) | (simp; done) | (simp; omega) | omega))) | (refine Below.then' ?_ (by assumption) ?_; rotate_left; (focus (first | exact Nat.lt_succ_self _ | ((repeat rw [World.size_alloc]); omega) | (simp; done) | (simp; omega) | omega))) | fail)); (first | done | fail))⟩
  · have k2 : (m.status == 2) = false := beq_eq_false_iff_ne.2 h2
    by_cases h3 : m.status = 3
    · have k3 : (m.status == 3) = true := by rw [h3]; rfl
      have HV : Hid (countsB m.status = true) := Lib.hid (by simp [countsB, h3])
      clear h2 h3
      go_enter Try.func162, Try.ntmps162
      go_wp2_with fail
      go_ret
      exact ⟨by rw [HV.out]; rfl, (by (repeat (first | exact Below.refl _ _ | assumption | (refine Below.allocT ?_ _) | refine Below.drew ?_ | refine below_drewN ?_ _ | (refine Below.then ?_ (by assumption)) | (refine Below.setRow ?_ ?_ _; rotate_left; (focus (first | exact Nat.lt_succ_self _ | ((repeat rw [World.size_alloc]); omega) | (simp; done) | (simp; omega) | omega))) | (refine Below.setCell ?_ ?_ _; rotate_left; (focus (first | exact Nat.lt_succ_self _ | ((repeat rw [World.size_alloc]); omega) | (simp; done) | (simp; omega) | omega))) | (refine Below.then' ?_ (by assumption) ?_; rotate_left; (focus (first | exact Nat.lt_succ_self _ | ((repeat rw [World.size_alloc]); omega) | (simp; done) | (simp; omega) | omega))) | fail)); (first | done | fail))⟩
    · have k3 : (m.status == 3) = false := beq_eq_false_iff_ne.2 h3
      have HV : Hid (countsB m.status = false) := Lib.hid (by simp [countsB, h2, h3])
      clear h2 h3
      go_enter Try.func162, Try.ntmps162
      go_wp2_with fail
      go_ret
      exact ⟨by rw [HV.out]; rfl, (by (repeat (first | exact Below.refl _ _ | assumption | (refine Below.allocT ?_ _) | refine Below.drew ?_ | refine below_drewN ?_ _ | (refine Below.then ?_ (by assumption)) | (refine Below.setRow ?_ ?_ _; rotate_left; (focus (first | exact Nat.lt_succ_self _ | ((repeat rw [World.size_alloc]); omega) | (simp; done) | (simp; omega) | omega))) | (refine Below.setCell ?_ ?_ _; rotate_left; (focus (first | exact Nat.lt_succ_self _ | ((repeat rw [World.size_alloc]); omega) | (simp; done) | (simp; omega) | omega))) | (refine Below.then' ?_ (by assumption) ?_; rotate_left; (focus (first | exact Nat.lt_succ_self _ | ((repeat rw [World.size_alloc]); omega) | (simp; done) | (simp; omega) | omega))) | fail)); (first | done | fail))⟩
end Go.Proofs.Ytnakkjgnjffkpaa

/-
  Standings that came in; equality of standings.
-/
import Derived.Test.YtncobbhhjkdllaaScore3
import Derived.Test.YtncobbhhjkdllaaFrame
import Derived.Laws.StructEq
namespace Go.Proofs.Ytncobbhhjkdllaa
open Go.ChangeShapes Go.WideShapes Go.ChangeAt Go.RowKit
set_option linter.unusedVariables false
set_option maxRecDepth 100000 in
theorem open_st {H : Type} {enc : TypeId × Value → H} {W : World} {base : Nat} {spare : Nat → Bool} {held : Bool} {r : Reach} {b0 : Nat} {v : Value} {d : DataW H} {p : List MemPlace}
    (hv : Value.okWide Try.prog W r b0 41 v) (h : DataW.Trod enc Try.prog W base spare held 41 v d p) : ∃ s : St, v = .agg s.cells ∧ s.Ok := by
  obtain ⟨⟨l⟩, rfl, _⟩ := okWide_struct st_under hv
  obtain ⟨fuel, hf⟩ := h
  obtain ⟨hlen, hF⟩ := flat_cells st_under hf
  have hlen' : l.length = 4 := hlen.trans (by kernel_rfl)
  obtain ⟨a0, e0, o0⟩ := at_u64 under_u64 cells_u64 (hF 0 22 0 (by kernel_rfl))
  obtain ⟨a1, e1, o1⟩ := at_u64 under_u64 cells_u64 (hF 1 22 1 (by kernel_rfl))
  obtain ⟨a2, e2, o2⟩ := at_u64 under_u64 cells_u64 (hF 2 22 2 (by kernel_rfl))
  obtain ⟨a3, e3, o3⟩ := at_i64 under_i64 cells_i64 (hF 3 3 3 (by kernel_rfl))
  have hl : l = [.int .u64 a0, .int .u64 a1, .int .u64 a2, .int .i64 a3] := list_ext 4 hlen' rfl (fun i hi => by
    match i with
    | 0 => exact e0
    | 1 => exact e1
    | 2 => exact e2
    | 3 => exact e3
    | n + 4 => omega)
  subst hl
  exact ⟨⟨a0, a1, a2, a3⟩, rfl, ⟨o0, o1, o2, o3⟩⟩

theorem tick11_under : Try.prog.underlying 47 = some (.struct (Try.prog.fieldsOf 47)) := by kernel_rfl
set_option maxRecDepth 100000 in
theorem open_tick11 {H : Type} {enc : TypeId × Value → H} {W : World} {base : Nat} {spare : Nat → Bool} {held : Bool} {r : Reach} {b0 : Nat} {v : Value} {d : DataW H} {p : List MemPlace}
    (hv : Value.okWide Try.prog W r b0 47 v) (h : DataW.Trod enc Try.prog W base spare held 47 v d p) : ∃ (a : Bool) (m : Int), v = .agg #[.bool a, .int .i64 m] ∧ i64ok m := by
  obtain ⟨⟨l⟩, rfl, _⟩ := okWide_struct tick11_under hv
  obtain ⟨fuel, hf⟩ := h
  obtain ⟨hlen, hF⟩ := flat_cells tick11_under hf
  have hlen' : l.length = 2 := hlen.trans (by kernel_rfl)
  obtain ⟨a0, e0⟩ := at_bool under_bool cells_bool (hF 0 4 0 (by kernel_rfl))
  obtain ⟨a1, e1, o1⟩ := at_i64 under_i64 cells_i64 (hF 1 3 1 (by kernel_rfl))
  have hl : l = [.bool a0, .int .i64 a1] := list_ext 2 hlen' rfl (fun i hi => by
    match i with
    | 0 => exact e0
    | 1 => exact e1
    | n + 2 => omega)
  subst hl
  exact ⟨a0, a1, rfl, o1⟩
def stEq (s t : St) : Bool := (s.bal == t.bal) && ((s.eff == t.eff) && ((s.score == t.score) && (s.streak == t.streak)))
theorem stEq_self (s : St) : stEq s s = true := by simp [stEq]
theorem st_noguard : Try.prog.eqGuardType Try.prog.depth 41 = false := by kernel_rfl
theorem st_unheld : Try.prog.stoodInHeld 41 = false := by kernel_rfl
theorem run_eql_st (s t : St) (w : World) : (binOp .eql 41 (.agg s.cells) (.agg t.cells)).run Try.prog w = .ok (.bool (stEq s t)) w := by
  rw [run_eql_struct, run_equalIn_struct w _ _ _ _ st_under st_unheld]
  simp [Program.fieldsOf, Try.underlying41, Op.eqFields, part, go_sem, Int.natCast_inj]
  by_cases h1 : s.bal = t.bal <;> by_cases h2 : s.eff = t.eff <;> by_cases h3 : s.score = t.score <;> by_cases h4 : s.streak = t.streak <;> simp [stEq, h1, h2, h3, h4]
theorem run_neq_st (s t : St) (w : World) : (binOp .neq 41 (.agg s.cells) (.agg t.cells)).run Try.prog w = .ok (.bool (!stEq s t)) w := by
  rw [run_neq_struct, run_equalIn_struct w _ _ _ _ st_under st_unheld]
  simp [Program.fieldsOf, Try.underlying41, Op.eqFields, part, go_sem, Int.natCast_inj]
  by_cases h1 : s.bal = t.bal <;> by_cases h2 : s.eff = t.eff <;> by_cases h3 : s.score = t.score <;> by_cases h4 : s.streak = t.streak <;> simp [stEq, h1, h2, h3, h4]
theorem st_f0 (s : St) (w : World) : (Instr.field 41 (.agg s.cells) 0).run Try.prog w = .ok (.int .u64 s.bal) w := by kernel_rfl
theorem st_f1 (s : St) (w : World) : (Instr.field 41 (.agg s.cells) 1).run Try.prog w = .ok (.int .u64 s.eff) w := by kernel_rfl
theorem st_f2 (s : St) (w : World) : (Instr.field 41 (.agg s.cells) 2).run Try.prog w = .ok (.int .u64 s.score) w := by kernel_rfl
theorem st_f3 (s : St) (w : World) : (Instr.field 41 (.agg s.cells) 3).run Try.prog w = .ok (.int .i64 s.streak) w := by kernel_rfl
attribute [go_sem ↓] st_f0 st_f1 st_f2 st_f3
attribute [go_sem ↓] run_eql_st run_neq_st
attribute [go_sem] stEq_self st_noguard
theorem rst_noguard : Try.prog.eqGuardType Try.prog.depth 50 = false := by kernel_rfl
theorem rst_unheld : Try.prog.stoodInHeld 50 = false := by kernel_rfl
theorem run_eql_rst (s t : St) (w : World) : (binOp .eql 50 (.agg s.cells) (.agg t.cells)).run Try.prog w = .ok (.bool (stEq s t)) w := by
  rw [run_eql_struct, run_equalIn_struct w _ _ _ _ rst_under rst_unheld]
  simp [Program.fieldsOf, Try.underlying50, Op.eqFields, part, go_sem, Int.natCast_inj]
  by_cases h1 : s.bal = t.bal <;> by_cases h2 : s.eff = t.eff <;> by_cases h3 : s.score = t.score <;> by_cases h4 : s.streak = t.streak <;> simp [stEq, h1, h2, h3, h4]
theorem run_neq_rst (s t : St) (w : World) : (binOp .neq 50 (.agg s.cells) (.agg t.cells)).run Try.prog w = .ok (.bool (!stEq s t)) w := by
  rw [run_neq_struct, run_equalIn_struct w _ _ _ _ rst_under rst_unheld]
  simp [Program.fieldsOf, Try.underlying50, Op.eqFields, part, go_sem, Int.natCast_inj]
  by_cases h1 : s.bal = t.bal <;> by_cases h2 : s.eff = t.eff <;> by_cases h3 : s.score = t.score <;> by_cases h4 : s.streak = t.streak <;> simp [stEq, h1, h2, h3, h4]
attribute [go_sem ↓] run_eql_rst run_neq_rst
attribute [go_sem] rst_noguard
end Go.Proofs.Ytncobbhhjkdllaa

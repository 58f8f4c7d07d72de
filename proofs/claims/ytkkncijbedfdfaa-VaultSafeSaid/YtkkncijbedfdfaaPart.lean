/-
  A struct loaded whole out of a block that is known whole, wherever it lies in it.
-/
import Derived.Test.YtkkncijbedfdfaaAgg
import Derived.Deep.MidRow
namespace Go.Proofs.Ytkkncijbedfdfaa
open Go.RowKit
set_option linter.unusedVariables false

def ofs (v : Value) : Nat := match v with
  | .pointer (some p) => p.off
  | _ => 0
theorem ofs_ptr (g o : Nat) : ofs (.pointer (some ⟨g, o, none⟩)) = o := rfl
def roomy (o n : Nat) (cs : Array Value) : Bool := decide (o + n ≤ cs.size)
theorem range_of_row {w : World} {g : Nat} {cs : Array Value} (h : row w g = some cs) (o n : Nat) : w.rangeAt g o (cs.extract o (o + n)).toList := by
  obtain ⟨t, ht⟩ := row_heap h
  exact World.rangeAt_of_block ht o n
section
variable {P : Program} (T : TypeId) (n : Nat) (d : TypeDesc) (hu : P.underlying T = some d) (hd : d.isRow = true) (hi : (P.info? T).map (·.size) = some n)
include hu hd hi
theorem run_part {w : World} {g o : Nat} {cs : Array Value} (h : row w g = some cs) (hr : roomy o n cs = true) : (loadVar T ⟨g, o, none⟩).run P w = .ok (.agg (cs.extract o (o + n))) w := by
  have hr' : o + n ≤ cs.size := by simpa [roomy] using hr
  have := run_loadVar_mid w g o T (cs.extract o (o + n)).toList d (range_of_row h o n) hu hd (by rw [hi]; simp; omega)
  rwa [Array.toArray_toList] at this
theorem wp_load_part {dst : Option Tmp} {x : Operand} {ty : TypeId} {pos : String} {after : Array Edge} {gd : Option (Nat × Bool)} {a : Act} {w : World} {K : Act → World → Prop} {Q : Exit → Act → World → Prop}
    (h1 : a.eval x = .pointer (some ⟨blk (a.eval x), ofs (a.eval x), none⟩)) (h2 : (row w (blk (a.eval x))).map (roomy (ofs (a.eval x)) n) = some true) :
    Oper.wp P ⟨dst, .load T x, ty, pos, after, gd⟩ a w K Q = K (a.put dst (.agg (((row w (blk (a.eval x))).getD #[]).extract (ofs (a.eval x)) (ofs (a.eval x) + n)))) w := by
  obtain ⟨cs, hc, hs⟩ := Option.map_eq_some_iff.1 h2
  rw [hc]
  generalize blk (a.eval x) = g at *
  generalize ofs (a.eval x) = o at *
  unfold Oper.wp execOp
  simp only [h1, Instr.loadAt, Instr.sureAddr, Sem.run_bind, Sem.run_pure, Result.andThen_ok, run_part T n d hu hd hi hc hs]
  rfl
theorem run_load_part {ρ : Operand → Value} {dst : Option Tmp} {x : Operand} {ty : TypeId} {pos : String} {after : Array Edge} {gd : Option (Nat × Bool)} {w : World}
    (h1 : ρ x = .pointer (some ⟨blk (ρ x), ofs (ρ x), none⟩)) (h2 : (row w (blk (ρ x))).map (roomy (ofs (ρ x)) n) = some true) :
    (execOp ρ ⟨dst, .load T x, ty, pos, after, gd⟩).run P w = .ok (.value (.agg (((row w (blk (ρ x))).getD #[]).extract (ofs (ρ x)) (ofs (ρ x) + n)))) w := by
  obtain ⟨cs, hc, hs⟩ := Option.map_eq_some_iff.1 h2
  rw [hc]
  generalize blk (ρ x) = g at *
  generalize ofs (ρ x) = o at *
  unfold execOp
  simp only [h1, Instr.loadAt, Instr.sureAddr, Sem.run_bind, Sem.run_pure, Result.andThen_ok, run_part T n d hu hd hi hc hs]
  rfl
theorem quiet_load_part {C : World → Prop} {dst : Option Tmp} {x : Operand} {ty : TypeId} {pos : String} {after : Array Edge} {gd : Option (Nat × Bool)} {a : Act} {w : World} {g o : Nat} {cs : Array Value}
    (h1 : a.eval x = .pointer (some ⟨g, o, none⟩)) (h2 : row w g = some cs) (hs : roomy o n cs = true) : Oper.quietAt P ⟨dst, .load T x, ty, pos, after, gd⟩ a C w (.agg (cs.extract o (o + n))) := by
  unfold Oper.quietAt execOp
  simp only [h1, Instr.loadAt, Instr.sureAddr, Sem.run_bind, Sem.run_pure, Result.andThen_ok, run_part T n d hu hd hi h2 hs]
  exact ⟨rfl, rfl⟩
end
theorem wp_build_two {P : Program} (T : TypeId) {x y : Operand} {dst : Option Tmp} {ty : TypeId} {pos : String} {after : Array Edge} {gd : Option (Nat × Bool)} {a : Act} {w : World} {K : Act → World → Prop} {Q : Exit → Act → World → Prop}
    (h : P.built T [(0, a.eval x), (1, a.eval y)] = some (aggOf (a.eval x) ++ aggOf (a.eval y))) :
    Oper.wp P ⟨dst, .build T #[(0, x), (1, y)], ty, pos, after, gd⟩ a w K Q = K (a.put dst (.agg (aggOf (a.eval x) ++ aggOf (a.eval y)))) w := by
  unfold Oper.wp execOp
  simp [run_build, h]
  rfl
/-- One cell of a block that is known whole, in the words of the run. -/
theorem below_own {w w1 : World} {B g : Nat} (h : Below B w w1) (hg : B ≤ g) (o : Nat) (v : Value) : Below B w (w1.setCell ⟨g, o, none⟩ v) := Below.setCell (p := ⟨g, o, none⟩) h hg v
attribute [go_sem] ofs_ptr
end Go.Proofs.Ytkkncijbedfdfaa

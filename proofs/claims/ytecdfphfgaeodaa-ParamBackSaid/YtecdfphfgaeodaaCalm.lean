/-
  A region that draws its order, whose calls make memory and answer plain numbers: one operation of its walk.
-/
import Derived.Test.YtecdfphfgaeodaaTicks
namespace Go.Proofs.Ytecdfphfgaeodaa
open Go.RowKit
set_option linter.unusedVariables false

theorem calm_val {P : Program} {W : World} {o : Oper} {a : Act} {K : Act → Prop} {v : Value} (hv : ∀ w, Below W.heap.size W w → o.quietAt P a (OnTop W) w v) (h : K (a.put o.dst v)) : o.quiet P a (OnTop W) K := ⟨v, hv, h⟩
theorem rpar_quiet {C : World → Prop} {dst : Option Tmp} {x : Operand} {ty : TypeId} {pos : String} {after : Array Edge} {gd : Option (Nat × Bool)} {a : Act} {w : World} {g : Nat} {cs : Array Value}
    (h1 : a.eval x = .pointer (some ⟨g, 0, none⟩)) (h2 : row w g = some cs) (hs : cs.size = 24) : Oper.quietAt Try.prog ⟨dst, .load 30 x, ty, pos, after, gd⟩ a C w (.agg cs) := quiet_load_agg _ 24 _ rpar_under rfl rpar_info h1 h2 hs
end Go.Proofs.Ytecdfphfgaeodaa

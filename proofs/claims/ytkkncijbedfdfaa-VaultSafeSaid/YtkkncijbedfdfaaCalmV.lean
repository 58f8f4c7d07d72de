/-
  A region that draws its order, whose calls make memory and answer plain numbers: one operation of its walk.
-/
import Derived.Test.YtkkncijbedfdfaaMem
namespace Go.Proofs.Ytkkncijbedfdfaa
open Go.RowKit
theorem calm_val {P : Program} {W : World} {o : Oper} {a : Act} {K : Act → Prop} {v : Value} (hv : ∀ w, Below W.heap.size W w → o.quietAt P a (OnTop W) w v) (h : K (a.put o.dst v)) : o.quiet P a (OnTop W) K := ⟨v, hv, h⟩
end Go.Proofs.Ytkkncijbedfdfaa

/-
  The walks of ShareCuts and ShareSplits.
-/
import Derived.Test.YtkfbnaafpikgfaaShare3
import Derived.Test.YtkfbnaafpikgfaaFine
import Derived.Test.YtkfbnaafpikgfaaCalm
namespace Go.Proofs.Ytkfbnaafpikgfaa
open Go.RowKit
set_option linter.unusedVariables false

theorem lit_u64s (w : World) (xs : List Nat) (cs : Array Value) (h : cs = (xs.map fun x : Nat => Value.int .u64 ((x : Nat) : Int)).toArray) : U64s (w.alloc (.cells cs 22)) (some ⟨w.heap.size, 0, none⟩) xs := fun _ => by
  refine ⟨w.heap.size, 0, rfl, by simp, fun i hi => ?_⟩
  rw [row_cell (row_at w cs 22 _ rfl) (0 + i), h, Nat.zero_add]
  simp [hi]
/-- A list that is handed back, as numbers. -/
def GotL (W : World) (l : List Nat) (A : Option Addr) : Prop := U64s W A l ∧ (0 < l.length → ∀ x, A = some x → x.block < W.heap.size)
theorem u64s_got {W : World} {l : List Nat} {A : Option Addr} (h : U64s W A l) : GotL W l A := ⟨h, fun hp x hx => by
  obtain ⟨b, off, e, hb, _⟩ := h hp
  rw [e] at hx; cases hx; exact hb⟩
theorem GotL.stay {W W' : World} {l : List Nat} {A : Option Addr} (h : GotL W l A) (hb : Below W.heap.size W W') : GotL W' l A := u64s_got (h.1.below hb (Nat.le_refl _))
theorem OwnL.got {W : World} {B : Nat} {v : Value} {l : List Nat} (h : OwnL W B v l) : ∃ A c, v = .slice A l.length c ∧ GotL W l A ∧ l.length ≤ 9223372036854775807 := by
  obtain ⟨A, c, rfl, h1, h2, h3⟩ := h.form
  exact ⟨A, c, rfl, u64s_got h1, h3⟩
end Go.Proofs.Ytkfbnaafpikgfaa

/-
  A slice of values of any kind that came in: its cells, element by element.
-/
import Derived.Test.YtkkncijbedfdfaaFrame
import Derived.Test.YtkkncijbedfdfaaPart
import Derived.Deep.Slices
namespace Go.Proofs.Ytkkncijbedfdfaa
open Go.ChangeShapes Go.WideShapes Go.ChangeAt Go.RowKit Go.Deep
set_option linter.unusedVariables false

/-- The elements lie one behind the other, each as the cells that f gives. -/
def SliceOf {α : Type} (C : Nat) (f : α → Array Value) (w : World) (A : Option Addr) (xs : List α) : Prop :=
  0 < xs.length → ∃ b off, A = some ⟨b, off, none⟩ ∧ b < w.heap.size ∧ ∀ i x, xs[i]? = some x → w.rangeAt b (off + i * C) (f x).toList
theorem range_below {w w' : World} {B b o : Nat} {cs : List Value} (h : w.rangeAt b o cs) (hb : Below B w w') (hB : b < B) : w'.rangeAt b o cs := fun j v hv => by
  rw [hb.cell (p := ⟨b, o + j, none⟩) hB]; exact h j v hv
theorem SliceOf.below {α : Type} {C : Nat} {f : α → Array Value} {w w' : World} {A : Option Addr} {xs : List α} {B : Nat} (h : SliceOf C f w A xs) (hb : Below B w w') (hB : w.heap.size ≤ B) : SliceOf C f w' A xs := fun hn => by
  obtain ⟨b, off, e, hg, hc⟩ := h hn
  exact ⟨b, off, e, Nat.lt_of_lt_of_le hg hb.size, fun i x hx => range_below (hc i x hx) hb (Nat.lt_of_lt_of_le hg hB)⟩
theorem add_plain' (b off i : Nat) : (⟨b, off, none⟩ : Addr).add i = ⟨b, off + i, none⟩ := by unfold Addr.add; split <;> simp_all
theorem addr_plain' {W : World} {x : Addr} {v : Value} (h : W.cell? (x.add 0) = some v) : ∃ b off, x = ⟨b, off, none⟩ ∧ b < W.heap.size := by
  rw [show x.add 0 = x from by simp [Addr.add]] at h
  obtain ⟨b, off, spot⟩ := x
  have := World.cell?_spot h
  simp only at this
  subst this
  exact ⟨b, off, rfl, by simpa using World.block_lt_of_cell? W _ h⟩
section
variable {H : Type} {enc : TypeId × Value → H} {P : Program} {W : World} {spare : Nat → Bool} {held : Bool} {α : Type}
theorem open_slice_of {t e : TypeId} {r : Reach} {b0 : Nat} {v : Value} {d : DataW H} {p : List MemPlace} (C : Nat) (f : α → Array Value) (ok : α → Prop) (hu : P.underlying t = some (.slice e)) (hC : P.cellsOf e = C) (h0 : 0 < C)
    (hone : ∀ (cs : List Value) (fuel : Nat) x, DataW.trod enc P W 0 spare held fuel e cs = some x → ∃ a : α, cs = (f a).toList ∧ ok a)
    (hv : Value.okWide P W r b0 t v) (h : DataW.Trod enc P W 0 spare held t v d p) :
    ∃ A n c xs, v = .slice A n c ∧ xs.length = n ∧ (∀ x ∈ xs, ok x) ∧ n ≤ 9223372036854775807 ∧ SliceOf C f W A xs := by
  obtain ⟨A, n, c, rfl⟩ := okWide_slice hu hv
  obtain ⟨fuel, hf⟩ := h
  rcases open_slice hu hf with ⟨hcs, _⟩ | ⟨a, len, cap, m, fu, D, Pl, hcs, _, hl, hm, hmm, _, hx⟩
  · simp [Value.cells] at hcs
    obtain ⟨rfl, rfl, rfl⟩ := hcs
    exact ⟨none, 0, 0, [], rfl, rfl, by simp, by omega, fun h => by simp at h⟩
  · simp [Value.cells] at hcs
    obtain ⟨rfl, rfl, rfl⟩ := hcs
    unfold maxLen at hm
    rw [hC] at hx
    have hle : n ≤ m := by rw [hmm]; split <;> omega
    have hxx : ∀ i, i < n → ∃ x : α, ok x ∧ ∀ j, j < C → W.cell? ((a.add (i * C)).add j) = (f x).toList[j]? := fun i hi => by
      obtain ⟨cs', h1, h2⟩ := hx i (by omega)
      obtain ⟨_, _, h3⟩ := World.cells?_some h1
      obtain ⟨x, rfl, ho⟩ := hone _ _ _ h2
      exact ⟨x, ho, h3⟩
    have hsz : ∀ i, i < n → ∀ x : α, (∀ j, j < C → W.cell? ((a.add (i * C)).add j) = (f x).toList[j]?) → True := fun _ _ _ _ => trivial
    by_cases hn : n = 0
    · subst hn
      exact ⟨some a, 0, c, [], rfl, rfl, by simp, by omega, fun h => by simp at h⟩
    · obtain ⟨x0, _⟩ := hxx 0 (by omega)
      obtain ⟨cs0, k1, k2⟩ := hx 0 (by omega)
      obtain ⟨_, kl, k3⟩ := World.cells?_some k1
      have hcell := k3 0 h0
      rw [Nat.zero_mul, show a.add 0 = a from by simp [Addr.add], List.getElem?_eq_getElem (by omega)] at hcell
      obtain ⟨b, off, rfl, hb⟩ := addr_plain' hcell
      have hch : ∃ g : Nat → α, ∀ i, i < n → ok (g i) ∧ ∃ cs' : List Value, cs' = (f (g i)).toList ∧ cs'.length = C ∧ ∀ j, j < C → W.cell? ⟨b, off + i * C + j, none⟩ = cs'[j]? := by
        refine ⟨fun i => if hi : i < n then Classical.choose (hone _ _ _ (Classical.choose_spec (hx i (by omega))).2) else x0, fun i hi => ?_⟩
        simp only [hi, dite_true]
        have hcs := Classical.choose_spec (hx i (by omega))
        have hs := Classical.choose_spec (hone _ _ _ hcs.2)
        obtain ⟨_, h4, h3⟩ := World.cells?_some hcs.1
        refine ⟨hs.2, _, hs.1, h4, fun j hj => ?_⟩
        exact (congrArg W.cell? (show (⟨b, off + i * C + j, none⟩ : Addr) = ((⟨b, off, none⟩ : Addr).add (i * C)).add j by rw [add_plain', add_plain'])).trans (h3 j hj)
      obtain ⟨g, hg⟩ := hch
      refine ⟨some ⟨b, off, none⟩, n, c, (List.range n).map g, rfl, by simp, fun x hx => ?_, by omega, fun _ => ⟨b, off, rfl, hb, fun i x hi => ?_⟩⟩
      · obtain ⟨i, hi, rfl⟩ := List.mem_map.1 hx
        exact (hg i (by simpa using hi)).1
      · have hin : i < n := by
          have := (List.getElem?_eq_some_iff.1 hi).1
          simpa using this
        have hxe : x = g i := by
          rw [List.getElem?_map, List.getElem?_range hin] at hi
          simpa using hi.symm
        subst hxe
        obtain ⟨_, cs', rfl, hl', hc'⟩ := hg i hin
        intro j v hj
        have hjl : j < C := by
          have := (List.getElem?_eq_some_iff.1 hj).1
          omega
        rw [hc' j hjl]; exact hj
end
theorem open_flat {H : Type} {enc : TypeId × Value → H} {P : Program} {w : World} {base : Nat} {spare : Nat → Bool} {held : Bool} {ty off : Nat} {cs : List Value} (n : Nat) {m : Nat}
    (h : ∃ y k, DataW.trod enc P w base spare held k ty ((cs.drop off).take (P.cellsOf ty)) = some y) (hn : P.cellsOf ty = n) (hl : off + n ≤ cs.length) (hu : P.underlying ty = some (.struct (P.fieldsOf ty))) :
    ∀ (j : Nat) (t' o' : Nat), ((P.fieldsOf ty)[j]?.map fun f => (f.type, f.offset)) = some (t', o') → o' + P.cellsOf t' ≤ n → ∃ y k, DataW.trod enc P w base spare held k t' ((cs.drop (off + o')).take (P.cellsOf t')) = some y := by
  obtain ⟨y, k, hy⟩ := h
  intro j t' o' hj ho
  obtain ⟨y', k', h'⟩ := (flat_cells hu hy).2 j t' o' hj
  refine ⟨y', k', ?_⟩
  rw [hn, List.drop_take, List.drop_drop] at h'
  rw [List.take_take] at h'
  rwa [show min (P.cellsOf t') (n - o') = P.cellsOf t' by omega] at h'
end Go.Proofs.Ytkkncijbedfdfaa

/-
  A slice within a struct that came in.
-/
import Derived.Test.YtkkncijbedfdfaaSlices
namespace Go.Proofs.Ytkkncijbedfdfaa
open Go.ChangeShapes Go.WideShapes Go.ChangeAt Go.RowKit Go.Deep
set_option linter.unusedVariables false

section
variable {H : Type} {enc : TypeId × Value → H} {P : Program} {W : World} {spare : Nat → Bool} {held : Bool} {α : Type}
theorem open_slice_cs {t e : TypeId} {cs : List Value} {fuel : Nat} {x : DataW H × List MemPlace} (C : Nat) (f : α → Array Value) (ok : α → Prop) (hu : P.underlying t = some (.slice e)) (hC : P.cellsOf e = C) (h0 : 0 < C)
    (hone : ∀ (cs : List Value) (fuel : Nat) x, DataW.trod enc P W 0 spare held fuel e cs = some x → ∃ a : α, cs = (f a).toList ∧ ok a)
    (h : DataW.trod enc P W 0 spare held fuel t cs = some x) :
    ∃ A n c xs, cs = [.slice A n c] ∧ xs.length = n ∧ (∀ x ∈ xs, ok x) ∧ n ≤ 9223372036854775807 ∧ SliceOf C f W A xs := by
  rcases open_slice hu h with ⟨hcs, _⟩ | ⟨a, len, cap, m, fu, D, Pl, hcs, _, hl, hm, hmm, _, hx⟩
  · exact ⟨none, 0, 0, [], hcs, rfl, by simp, by omega, fun h => by simp at h⟩
  · obtain ⟨n, rfl⟩ : ∃ n, n = len := ⟨_, rfl⟩
    obtain ⟨c, rfl⟩ : ∃ c, c = cap := ⟨_, rfl⟩
    unfold maxLen at hm
    rw [hC] at hx
    have hle : n ≤ m := by rw [hmm]; split <;> omega
    have hxx : ∀ i, i < n → ∃ x : α, ok x ∧ ∀ j, j < C → W.cell? ((a.add (i * C)).add j) = (f x).toList[j]? := fun i hi => by
      obtain ⟨cs', h1, h2⟩ := hx i (by omega)
      obtain ⟨_, _, h3⟩ := World.cells?_some h1
      obtain ⟨x, rfl, ho⟩ := hone _ _ _ h2
      exact ⟨x, ho, h3⟩
    have hsz : ∀ i, i < n → ∀ x : α, (∀ j, j < C → W.cell? ((a.add (i * C)).add j) = (f x).toList[j]?) → True := fun _ _ _ _ => trivial
    by_cases hn : n = 0
    · subst hn
      exact ⟨some a, 0, c, [], hcs, rfl, by simp, by omega, fun h => by simp at h⟩
    · obtain ⟨x0, _⟩ := hxx 0 (by omega)
      obtain ⟨cs0, k1, k2⟩ := hx 0 (by omega)
      obtain ⟨_, kl, k3⟩ := World.cells?_some k1
      have hcell := k3 0 h0
      rw [Nat.zero_mul, show a.add 0 = a from by simp [Addr.add], List.getElem?_eq_getElem (by omega)] at hcell
      obtain ⟨b, off, rfl, hb⟩ := addr_plain' hcell
      have hch : ∃ g : Nat → α, ∀ i, i < n → ok (g i) ∧ ∃ cs' : List Value, cs' = (f (g i)).toList ∧ cs'.length = C ∧ ∀ j, j < C → W.cell? ⟨b, off + i * C + j, none⟩ = cs'[j]? := by
        refine ⟨fun i => if hi : i < n then Classical.choose (hone _ _ _ (Classical.choose_spec (hx i (by omega))).2) else x0, fun i hi => ?_⟩
        simp only [hi, dite_true]
        have hcs := Classical.choose_spec (hx i (by omega))
        have hs := Classical.choose_spec (hone _ _ _ hcs.2)
        obtain ⟨_, h4, h3⟩ := World.cells?_some hcs.1
        refine ⟨hs.2, _, hs.1, h4, fun j hj => ?_⟩
        exact (congrArg W.cell? (show (⟨b, off + i * C + j, none⟩ : Addr) = ((⟨b, off, none⟩ : Addr).add (i * C)).add j by rw [add_plain', add_plain'])).trans (h3 j hj)
      obtain ⟨g, hg⟩ := hch
      refine ⟨some ⟨b, off, none⟩, n, c, (List.range n).map g, hcs, by simp, fun x hx => ?_, by omega, fun _ => ⟨b, off, rfl, hb, fun i x hi => ?_⟩⟩
      · obtain ⟨i, hi, rfl⟩ := List.mem_map.1 hx
        exact (hg i (by simpa using hi)).1
      · have hin : i < n := by
          have := (List.getElem?_eq_some_iff.1 hi).1
          simpa using this
        have hxe : x = g i := by
          rw [List.getElem?_map, List.getElem?_range hin] at hi
          simpa using hi.symm
        subst hxe
        obtain ⟨_, cs', rfl, hl', hc'⟩ := hg i hin
        intro j v hj
        have hjl : j < C := by
          have := (List.getElem?_eq_some_iff.1 hj).1
          omega
        rw [hc' j hjl]; exact hj
theorem at_slice {t e : TypeId} {cs : List Value} {off : Nat} (C : Nat) (f : α → Array Value) (ok : α → Prop) (hu : P.underlying t = some (.slice e)) (hC : P.cellsOf e = C) (h0 : 0 < C) (h1 : P.cellsOf t = 1)
    (hone : ∀ (cs : List Value) (fuel : Nat) x, DataW.trod enc P W 0 spare held fuel e cs = some x → ∃ a : α, cs = (f a).toList ∧ ok a)
    (h : ∃ y n, DataW.trod enc P W 0 spare held n t ((cs.drop off).take (P.cellsOf t)) = some y) :
    ∃ A n c xs, cs[off]? = some (.slice A n c) ∧ xs.length = n ∧ (∀ x ∈ xs, ok x) ∧ n ≤ 9223372036854775807 ∧ SliceOf C f W A xs := by
  obtain ⟨y, n, h⟩ := h
  obtain ⟨A, n, c, xs, hcs, hr⟩ := open_slice_cs C f ok hu hC h0 hone h
  rw [h1] at hcs
  exact ⟨A, n, c, xs, take_one hcs, hr⟩
theorem at_u8 {cs : List Value} {ty off : Nat} (hu : P.underlying ty = some (.int .u8)) (hc : P.cellsOf ty = 1) (h : ∃ y n, DataW.trod enc P W 0 spare held n ty ((cs.drop off).take (P.cellsOf ty)) = some y) :
    ∃ a : Nat, cs[off]? = some (.int .u8 a) ∧ a < 256 := by
  obtain ⟨z, hz, hw⟩ := at_int hu hc h
  have hx : 0 ≤ z ∧ z ≤ 255 := by simpa [Lit.wf, IntKind.min, IntKind.max, IntKind.signed, IntKind.bits] using hw
  obtain ⟨n, rfl⟩ := Int.eq_ofNat_of_zero_le hx.1
  exact ⟨n, hz, by omega⟩
end
end Go.Proofs.Ytkkncijbedfdfaa

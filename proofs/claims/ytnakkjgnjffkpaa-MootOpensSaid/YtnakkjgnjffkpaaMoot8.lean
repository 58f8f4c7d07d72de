/-
  A whole element of a list that a call owns is stored: OwnC.putAll, MO.putAll.
-/
import Derived.Test.YtnakkjgnjffkpaaMoot1
import Derived.Test.YtnakkjgnjffkpaaDed
namespace Go.Proofs.Ytnakkjgnjffkpaa
open Go.RowKit
set_option linter.unusedVariables false

theorem setL_size : ∀ (vs : List Value) (o : Nat) (cs : Array Value), (setL cs o vs).size = cs.size
  | [], o, cs => rfl
  | v :: r, o, cs => by
    rw [setL, setL_size r (o + 1), Array.size_setIfInBounds]
theorem setL_toList : ∀ (vs : List Value) (o : Nat) (cs : Array Value), o + vs.length ≤ cs.size → (setL cs o vs).toList = cs.toList.take o ++ vs ++ cs.toList.drop (o + vs.length)
  | [], o, cs, _ => by simp [setL]
  | v :: r, o, cs, h => by
    rw [List.length_cons] at h
    rw [setL, setL_toList r (o + 1) _ (by rw [Array.size_setIfInBounds]; omega), Array.toList_setIfInBounds]
    have hl : o < cs.toList.length := by rw [Array.length_toList]; omega
    rw [List.drop_set, if_pos (by omega), List.take_set, List.take_succ_eq_append_getElem hl, List.set_append_right _ _ (by rw [List.length_take]; omega)]
    rw [List.length_take, Nat.min_eq_left (Nat.le_of_lt hl), Nat.sub_self, List.set_cons_zero, List.length_cons]
    simp [Nat.add_assoc, Nat.add_comm 1]
theorem setL_all (cs new : Array Value) (h : cs.size = new.size) : setL cs 0 new.toList = new := by
  apply Array.toList_inj.1
  rw [setL_toList _ _ _ (by rw [Array.length_toList]; omega)]
  simp [h]
section
variable {α : Type} {T : TypeId} {C : Nat} {f : α → Array Value}
theorem OwnC.sub (hC : ∀ x, (f x).size = C) {W : World} {B : Nat} {v : Value} {xs : List α} : OwnC T C f W B v xs ↔ OwnC T C (fun y : {a : Array Value // a.size = C} => y.1) W B v (xs.map fun x => ⟨f x, hC x⟩) := by
  unfold OwnC
  rw [List.length_map, List.flatMap_map]
theorem OwnC.putL {B g n cap : Nat} {j : Nat} : ∀ (vs : List Value) (o : Nat) (W : World) (xs : List {a : Array Value // a.size = C}) (x : {a : Array Value // a.size = C}), OwnC T C (fun y : {a : Array Value // a.size = C} => y.1) W B (.slice (some ⟨g, 0, none⟩) n cap) xs → xs[j]? = some x → o + vs.length ≤ C →
    OwnC T C (fun y : {a : Array Value // a.size = C} => y.1) (W.setCells g (j * C + o) vs) B (.slice (some ⟨g, 0, none⟩) n cap) (xs.set j ⟨setL x.1 o vs, (setL_size vs o x.1).trans x.2⟩)
  | [], o, W, xs, x, h, hx, ho => by
    have : xs.set j x = xs := by
      obtain ⟨h1, h2⟩ := List.getElem?_eq_some_iff.1 hx
      rw [← h2, List.set_getElem_self]
    rw [show (⟨setL x.1 o [], (setL_size [] o x.1).trans x.2⟩ : {a : Array Value // a.size = C}) = x from rfl, this]
    exact h
  | v :: r, o, W, xs, x, h, hx, ho => by
    rw [List.length_cons] at ho
    have hj := (List.getElem?_eq_some_iff.1 hx).1
    have h1 := OwnC.setAt (fun y => y.2) h (j := j) (i := o) (x := x) (x' := ⟨x.1.setIfInBounds o v, (Array.size_setIfInBounds ..).trans x.2⟩) (u := v) hx (by omega) rfl
    have h2 := OwnC.putL r (o + 1) _ _ ⟨x.1.setIfInBounds o v, (Array.size_setIfInBounds ..).trans x.2⟩ h1 (by rw [List.getElem?_set_self hj]) (by omega)
    rw [List.set_set] at h2
    exact h2
/-- A whole element is stored. -/
theorem OwnC.putAll (hC : ∀ x, (f x).size = C) {W : World} {B g n cap : Nat} {xs : List α} (h : OwnC T C f W B (.slice (some ⟨g, 0, none⟩) n cap) xs) {j : Nat} (hj : j < xs.length) (x' : α) :
    OwnC T C f (W.setCells g (j * C) (f x').toList) B (.slice (some ⟨g, 0, none⟩) n cap) (xs.set j x') := by
  obtain ⟨x, hx⟩ : ∃ x, xs[j]? = some x := ⟨_, List.getElem?_eq_getElem hj⟩
  have h1 := (OwnC.sub hC).1 h
  have h2 := OwnC.putL (j := j) (f x').toList 0 W _ ⟨f x, hC x⟩ h1 (by rw [List.getElem?_map, hx]; rfl) (by rw [Array.length_toList, hC]; omega)
  rw [Nat.add_zero] at h2
  refine (OwnC.sub hC).2 ?_
  rw [List.map_set]
  have e : (⟨setL (f x) 0 (f x').toList, (setL_size (f x').toList 0 (f x)).trans (hC x)⟩ : {a : Array Value // a.size = C}) = ⟨f x', hC x'⟩ := Subtype.ext (setL_all _ _ ((hC x).trans (hC x').symm))
  rw [← e]
  exact h2
end
theorem MO.putAll {W : World} {B g n cap : Nat} {xs : List (Mot × MotA)} (h : MO W B g n cap xs) {j : Nat} (hj : j < xs.length) {x' : Mot × MotA} (hA : MotAt W x' ∧ ∀ k, MotB x' k → k ≠ g) (hok : x'.1.Ok) :
    MO (W.setCells g (j * 33) (motC x').toList) B g n cap (xs.set j x') := by
  have hc : Chg (fun k => k = g) W (W.setCells g (j * 33) (motC x').toList) := chg_setCells' (S := fun k => k = g) rfl _ _ _ (Chg.refl _ W)
  refine ⟨h.own.putAll motC_size hj x', fun y hy => ?_, fun y hy => ?_⟩
  · rcases mem_set hy with hy | rfl
    · exact ⟨(h.at_ y hy).1.chg hc (h.at_ y hy).2, (h.at_ y hy).2⟩
    · exact ⟨hA.1.chg hc hA.2, hA.2⟩
  · rcases mem_set hy with hy | rfl
    · exact h.ok y hy
    · exact hok
theorem MO.thereAt {W : World} {B g n cap : Nat} {xs : List (Mot × MotA)} (h : MO W B g n cap xs) {j : Nat} (hj : j < xs.length) : W.there g (j * 33) 33 := fun i hi => by
  refine ⟨?_, h.own.free _⟩
  obtain ⟨x, hx⟩ : ∃ x, xs[j]? = some x := ⟨_, List.getElem?_eq_getElem hj⟩
  have hv := Array.getElem?_eq_getElem (xs := motC x) (i := i) (by rw [motC_size]; exact hi)
  rw [h.own.cellAt motC_size hx hv]
  rfl
end Go.Proofs.Ytnakkjgnjffkpaa

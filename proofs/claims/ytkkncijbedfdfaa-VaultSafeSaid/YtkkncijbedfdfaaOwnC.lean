/-
  A list of structs that a call owns, and append of one element to it.
-/
import Derived.Test.YtkkncijbedfdfaaSlices
import Derived.Test.YtkkncijbedfdfaaMem
import Derived.Deep.AppendLies
namespace Go.Proofs.Ytkkncijbedfdfaa
open Go.RowKit
set_option linter.unusedVariables false

def OwnC {α : Type} (T : TypeId) (C : Nat) (f : α → Array Value) (W : World) (B : Nat) (v : Value) (l : List α) : Prop := W.ownsRow B T C v l.length (l.flatMap fun x => (f x).toList)
theorem flat_get {α : Type} {C : Nat} {F : α → List Value} (hF : ∀ x, (F x).length = C) : ∀ (l : List α) (i j : Nat) (x : α), l[i]? = some x → j < C → (l.flatMap F)[i * C + j]? = (F x)[j]?
  | [], i, j, x, h, hj => by simp at h
  | y :: r, 0, j, x, h, hj => by
    simp at h; subst h
    rw [List.flatMap_cons, Nat.zero_mul, Nat.zero_add, List.getElem?_append_left (by rw [hF]; exact hj)]
  | y :: r, i + 1, j, x, h, hj => by
    simp at h
    rw [List.flatMap_cons, List.getElem?_append_right (by rw [hF, Nat.add_mul]; omega), hF, show (i + 1) * C + j - C = i * C + j by rw [Nat.add_mul]; omega]
    exact flat_get hF r i j x h hj
/-- Two slices that lie in blocks of their own, not the same. -/
def Apart (U V : Value) : Prop := ∀ k, U.ownBlock = some k → V.ownBlock ≠ some k
theorem Apart.symm {U V : Value} (h : Apart U V) : Apart V U := fun k hk he => h k he hk
theorem Apart.left {U V U' : Value} (h : Apart U V) {n : Nat} (hU : U'.ownBlock = U.ownBlock ∨ U'.ownBlock = some n) (hV : ∀ k, V.ownBlock = some k → k < n) : Apart U' V := fun k hk he => by
  rcases hU with hU | hU
  · rw [hU] at hk; exact h k hk he
  · rw [hU] at hk; cases hk; exact absurd (hV _ he) (Nat.lt_irrefl _)
theorem Apart.right {U V V' : Value} (h : Apart U V) {n : Nat} (hV : V'.ownBlock = V.ownBlock ∨ V'.ownBlock = some n) (hU : ∀ k, U.ownBlock = some k → k < n) : Apart U V' := (h.symm.left hV hU).symm
theorem Apart.nil (V : Value) : Apart (.slice none 0 0) V := fun k hk => by cases hk
theorem row_grown' {w w' : World} {r : Option Nat} (hg : w.grownBy w' r) {k : Nat} (hk : k < w.heap.size) (hn : some k ≠ r) : row w' k = row w k := by
  unfold row; rw [hg.block k hk hn]
section
variable {α : Type} {T : TypeId} {C : Nat} {f : α → Array Value}
theorem OwnC.nil (W : World) (B : Nat) : OwnC T C f W B (.slice none 0 0) [] := World.ownsRow_nil _ _ _ _
theorem OwnC.base {W : World} {b b' : Nat} {v : Value} {l : List α} (h : OwnC T C f W b v l) (hb : b' ≤ b) : OwnC T C f W b' v l := by
  refine ⟨h.1, ?_⟩
  rcases h.2 with hn | ⟨g, cap, cur, hv, hbg, rest⟩
  · exact .inl hn
  · exact .inr ⟨g, cap, cur, hv, Nat.le_trans hb hbg, rest⟩
theorem grown_below {B : Nat} {W W' : World} (hb : Below B W W') (hB : W.heap.size ≤ B) (r : Option Nat) : W.grownBy W' r := ⟨hb.os, hb.tape, hb.output, hb.size, fun k hk _ => hb.block k (Nat.lt_of_lt_of_le hk hB)⟩
theorem OwnC.stay {W W' : World} {B : Nat} {v : Value} {l : List α} (h : OwnC T C f W B v l) (hb : Below W.heap.size W W') : OwnC T C f W' B v l := h.kept (grown_below hb (Nat.le_refl _) none) (by cases v.ownBlock <;> simp)
theorem OwnC.form (hC : ∀ x, (f x).size = C) {W : World} {B : Nat} {v : Value} {l : List α} (h : OwnC T C f W B v l) : ∃ A c, v = .slice A l.length c ∧ SliceOf C f W A l ∧ (∀ x, A = some x → B ≤ x.block ∧ x.block < W.heap.size) ∧ l.length ≤ 9223372036854775807 := by
  rcases h.2 with ⟨rfl, h0⟩ | ⟨g, cap, cur, rfl, hg, hb, hn, hm, hs, ht⟩
  · exact ⟨none, 0, by rw [h0], fun hp => by omega, (fun x hx => by cases hx), by omega⟩
  · have hlt := (Array.getElem?_eq_some_iff.1 hb).1
    refine ⟨some ⟨g, 0, none⟩, cap, rfl, fun _ => ⟨g, 0, rfl, hlt, fun i x hi j v hv => ?_⟩, (fun x hx => by cases hx; exact ⟨hg, hlt⟩), by unfold maxLen at hm; omega⟩
    rw [cell_of_row W g (0 + i * C + j) cur T (0, 0) hb]
    have hil : i < l.length := (List.getElem?_eq_some_iff.1 hi).1
    have hj : j < C := by
      have := (List.getElem?_eq_some_iff.1 hv).1
      rw [Array.length_toList, hC] at this; exact this
    have h1 : (cur.toList.take (l.length * C))[i * C + j]? = (f x).toList[j]? := by rw [ht]; exact flat_get (F := fun x => (f x).toList) (fun x => by rw [Array.length_toList, hC]) l i j x hi hj
    have h2 : i * C + j < l.length * C := by
      have : (i + 1) * C ≤ l.length * C := Nat.mul_le_mul_right C hil
      rw [Nat.add_mul] at this; omega
    rw [List.getElem?_take_of_lt h2, hv] at h1
    rw [Nat.zero_add, ← Array.getElem?_toList, h1]
theorem OwnC.lt {W : World} {B : Nat} {v : Value} {l : List α} (h : OwnC T C f W B v l) : ∀ k, v.ownBlock = some k → B ≤ k ∧ k < W.heap.size := fun k hk => World.ownsRow.lt h k hk
/-- A list is as it was where another one grew. -/
theorem OwnC.far {W W' : World} {B : Nat} {u v : Value} {l : List α} (h : OwnC T C f W B u l) (hg : W.grownBy W' v.ownBlock) (hne : ∀ k, u.ownBlock = some k → v.ownBlock ≠ some k) : OwnC T C f W' B u l :=
  h.kept hg (by
    cases hu : u.ownBlock with
    | none => exact .inl rfl
    | some k => exact .inr fun he => hne k hu he.symm)
theorem below_grown_c {W w w' : World} {B : Nat} {v : Value} {l : List α} (h : Below B W w) (hB : B ≤ W.heap.size) (hown : OwnC T C f w B v l) (hg : w.grownBy w' v.ownBlock) : Below B W w' :=
  h.grown hg (Nat.le_trans hB h.size) (fun k e => (World.ownsRow.lt hown k e).1)
variable {P : Program} {t : TypeId} {z : Value} {bytes : Nat}
theorem wp_append_d (hu : P.underlying t = some (.slice T)) (hinfo : (P.info? T).map (fun i => (i.zero, i.size, i.bytes)) = some (some z, C, bytes)) (hz : z.cells.size = C) (h0 : 0 < C) (hbb : bytes ≤ 1000) (hC : ∀ x, (f x).size = C) (hone : ∀ x, allOne (f x) = true)
    {o : Oper} {a : Act} {w : World} {K : Act → World → Prop} {Q : Exit → Act → World → Prop} (s x : Operand)
    (ho : o.op = .call { callee := .builtin .append, args := #[s, x], argTypes := #[t, t] }) (B : Nat) (v : Value) (l : List α) (hs : a.eval s = v) (hown : OwnC T C f w B v l)
    (b c : Nat) (y : α) (hx : a.eval x = .slice (some ⟨b, 0, none⟩) 1 c) (hc : row w b = some (f y)) (m : Nat) (hlm : l.length = m) (hl : l.length < 100000) (hB : B ≤ w.heap.size)
    (h : ∀ A cap w', OwnC T C f w' B (.slice A (m + 1) cap) (l ++ [y]) → w.grownBy w' v.ownBlock → ((Value.slice A (m + 1) cap).ownBlock = v.ownBlock ∨ (Value.slice A (m + 1) cap).ownBlock = some w.heap.size) → K (a.put o.dst (.slice A (m + 1) cap)) w') : Oper.wp P o a w K Q := by
  obtain ⟨i0, hi, hz0, hz1, hz2⟩ := info_parts hinfo
  obtain ⟨tt, ht⟩ := row_heap hc
  refine wp_append_lies w s x t ho B T i0 z C bytes hu hi hz0 hz1 hz2 hz h0 v l.length _ hs hown ⟨b, 0, none⟩ 1 c (f y).toList hx (by rw [Array.length_toList, hC, Nat.one_mul]) (World.news_of_block ht) ?_ (by omega) (by unfold maxLen; omega) ?_ hB _ rfl ?_
  · intro u hu'
    have := hone y
    unfold allOne at this
    rw [Array.all_eq_true'] at this
    exact this u (by simpa using hu')
  · have : (l.length + 1) * bytes ≤ 100000 * 1000 := Nat.mul_le_mul (by omega) hbb
    omega
  · intro g cap w' hown' hg hgg _
    have h2 : OwnC T C f w' B (.slice (some ⟨g, 0, none⟩) (m + 1) cap) (l ++ [y]) := by
      unfold OwnC
      rw [← hlm, List.length_append, List.flatMap_append]
      simpa using hown'
    have := h (some ⟨g, 0, none⟩) cap w' h2 hg (by rcases hgg with h | rfl; exact .inl h.symm; exact .inr rfl)
    rwa [← hlm] at this
theorem wp_append_c (hu : P.underlying t = some (.slice T)) (hinfo : (P.info? T).map (fun i => (i.zero, i.size, i.bytes)) = some (some z, C, bytes)) (hz : z.cells.size = C) (h0 : 0 < C) (hbb : bytes ≤ 1000) (hC : ∀ x, (f x).size = C) (hone : ∀ x, allOne (f x) = true)
    {o : Oper} {a : Act} {w : World} {K : Act → World → Prop} {Q : Exit → Act → World → Prop} (s x : Operand)
    (ho : o.op = .call { callee := .builtin .append, args := #[s, x], argTypes := #[t, t] }) (B : Nat) (v : Value) (l : List α) (hs : a.eval s = v) (hown : OwnC T C f w B v l)
    (b c : Nat) (y : α) (hx : a.eval x = .slice (some ⟨b, 0, none⟩) 1 c) (hc : row w b = some (f y)) (m : Nat) (hlm : l.length = m) (hl : l.length < 100000) (hB : B ≤ w.heap.size)
    (h : ∀ A cap w', OwnC T C f w' B (.slice A (m + 1) cap) (l ++ [y]) → w.grownBy w' v.ownBlock → K (a.put o.dst (.slice A (m + 1) cap)) w') : Oper.wp P o a w K Q :=
  wp_append_d hu hinfo hz h0 hbb hC hone s x ho B v l hs hown b c y hx hc m hlm hl hB fun A cap w' h1 h2 _ => h A cap w' h1 h2
theorem wpList_append_d (hu : P.underlying t = some (.slice T)) (hinfo : (P.info? T).map (fun i => (i.zero, i.size, i.bytes)) = some (some z, C, bytes)) (hz : z.cells.size = C) (h0 : 0 < C) (hbb : bytes ≤ 1000) (hC : ∀ x, (f x).size = C) (hone : ∀ x, allOne (f x) = true)
    {ops : Array Oper} {rest : List Oper} {o : Oper} {a : Act} {w : World} {Q : Exit → Act → World → Prop} (hgd : o.guard = none) (s x : Operand)
    (ho : o.op = .call { callee := .builtin .append, args := #[s, x], argTypes := #[t, t] }) (B : Nat) (v : Value) (l : List α) (hs : a.eval s = v) (hown : OwnC T C f w B v l)
    (b c : Nat) (y : α) (hx : a.eval x = .slice (some ⟨b, 0, none⟩) 1 c) (hc : row w b = some (f y)) (m : Nat) (hlm : l.length = m) (hl : l.length < 100000) (hB : B ≤ w.heap.size)
    (h : ∀ A cap w', OwnC T C f w' B (.slice A (m + 1) cap) (l ++ [y]) → w.grownBy w' v.ownBlock → ((Value.slice A (m + 1) cap).ownBlock = v.ownBlock ∨ (Value.slice A (m + 1) cap).ownBlock = some w.heap.size) → wpList P ops Q rest (a.put o.dst (.slice A (m + 1) cap)) w') : wpList P ops Q (o :: rest) a w :=
  wpList_plain hgd fun _ hK => wp_append_d hu hinfo hz h0 hbb hC hone s x ho B v l hs hown b c y hx hc m hlm hl hB fun A cap w' h2 h3 h4 => hK _ _ (h A cap w' h2 h3 h4)
theorem wpList_append_c (hu : P.underlying t = some (.slice T)) (hinfo : (P.info? T).map (fun i => (i.zero, i.size, i.bytes)) = some (some z, C, bytes)) (hz : z.cells.size = C) (h0 : 0 < C) (hbb : bytes ≤ 1000) (hC : ∀ x, (f x).size = C) (hone : ∀ x, allOne (f x) = true)
    {ops : Array Oper} {rest : List Oper} {o : Oper} {a : Act} {w : World} {Q : Exit → Act → World → Prop} (hgd : o.guard = none) (s x : Operand)
    (ho : o.op = .call { callee := .builtin .append, args := #[s, x], argTypes := #[t, t] }) (B : Nat) (v : Value) (l : List α) (hs : a.eval s = v) (hown : OwnC T C f w B v l)
    (b c : Nat) (y : α) (hx : a.eval x = .slice (some ⟨b, 0, none⟩) 1 c) (hc : row w b = some (f y)) (m : Nat) (hlm : l.length = m) (hl : l.length < 100000) (hB : B ≤ w.heap.size)
    (h : ∀ A cap w', OwnC T C f w' B (.slice A (m + 1) cap) (l ++ [y]) → w.grownBy w' v.ownBlock → wpList P ops Q rest (a.put o.dst (.slice A (m + 1) cap)) w') : wpList P ops Q (o :: rest) a w :=
  wpList_plain hgd fun _ hK => wp_append_c hu hinfo hz h0 hbb hC hone s x ho B v l hs hown b c y hx hc m hlm hl hB fun A cap w' h2 h3 => hK _ _ (h A cap w' h2 h3)
theorem step_append_c (hu : P.underlying t = some (.slice T)) (hinfo : (P.info? T).map (fun i => (i.zero, i.size, i.bytes)) = some (some z, C, bytes)) (hz : z.cells.size = C) (h0 : 0 < C) (hbb : bytes ≤ 1000) (hC : ∀ x, (f x).size = C) (hone : ∀ x, allOne (f x) = true)
    {ops : Array Oper} {o : Oper} {a : Act} {w : World} {K : Act → World → Prop} {Q : Exit → Act → World → Prop} {E : Prop} (hgd : o.guard = none) (s x : Operand)
    (ho : o.op = .call { callee := .builtin .append, args := #[s, x], argTypes := #[t, t] }) (B : Nat) (v : Value) (l : List α) (hs : a.eval s = v) (hown : OwnC T C f w B v l)
    (b c : Nat) (y : α) (hx : a.eval x = .slice (some ⟨b, 0, none⟩) 1 c) (hc : row w b = some (f y)) (m : Nat) (hlm : l.length = m) (hl : l.length < 100000) (hB : B ≤ w.heap.size)
    (h : ∀ A cap w', OwnC T C f w' B (.slice A (m + 1) cap) (l ++ [y]) → w.grownBy w' v.ownBlock → K (a.put o.dst (.slice A (m + 1) cap)) w') :
    if Region.wanted o (yielded ops a.tmps) = true then Oper.wp P o a w K Q else E := by
  have hw : Region.wanted o (yielded ops a.tmps) = true := by simp [Region.wanted, hgd]
  rw [if_pos hw]
  exact wp_append_c hu hinfo hz h0 hbb hC hone s x ho B v l hs hown b c y hx hc m hlm hl hB h
end
end Go.Proofs.Ytkkncijbedfdfaa

/-
  PlateSure's memory: the plate, what is sure, what may be.
-/
import Derived.Test.YteppkbjjldnniaaPlateL
import Derived.Test.YteppkbjjldnniaaLaw28b
namespace Go.Proofs.Yteppkbjjldnniaa
open Go.RowKit
set_option linter.unusedVariables false

abbrev nilV : Value := .slice none 0 0
def byA (ls : List Nat) : Array Value := (ls.map fun x : Nat => Value.int .u8 ((x : Nat) : Int)).toArray
structure Mem28 (B0 g g9 g10 : Nat) (s : Ps) (ls : List Nat) (mvs : List Value) (ms : List (List Nat)) (W : World) : Prop where
  pl : ∃ gs pv A c, PlAt W g gs pv A c s ∧ ∀ x, PS g gs pv A x → B0 ≤ x ∧ x ≠ g9 ∧ x ≠ g10 ∧ ∀ i, i < 4 → (mvs.getD i nilV).ownBlock ≠ some x
  r9 : row W g9 = some (byA ls)
  r10 : row W g10 = some mvs.toArray
  l1 : ls.length = 4
  l2 : mvs.length = 4
  own : ∀ i, i < 4 → OwnB W (mvs.getD i nilV) (ms.getD i [])
  apart : ∀ i j, i < 4 → j < 4 → i ≠ j → Apart (mvs.getD i nilV) (mvs.getD j nilV)
  ob : ∀ i, i < 4 → ∀ k, (mvs.getD i nilV).ownBlock = some k → B0 ≤ k ∧ k ≠ g9 ∧ k ≠ g10
  ne : g9 ≠ g10
  b9 : B0 ≤ g9
  b10 : B0 ≤ g10
theorem Mem28.stay {B0 g g9 g10 : Nat} {s : Ps} {ls : List Nat} {mvs : List Value} {ms : List (List Nat)} {W W' : World} (h : Mem28 B0 g g9 g10 s ls mvs ms W) (hb : Below W.heap.size W W') : Mem28 B0 g g9 g10 s ls mvs ms W' := by
  obtain ⟨gs, pv, A, c, p1, p2⟩ := h.pl
  exact ⟨⟨gs, pv, A, c, p1.stay hb, p2⟩, (row_below hb (row_lt h.r9)).trans h.r9, (row_below hb (row_lt h.r10)).trans h.r10, h.l1, h.l2, fun i hi => (h.own i hi).stay hb, h.apart, h.ob, h.ne, h.b9, h.b10⟩
/-- A call on the plate. -/
theorem Mem28.plate {B0 g g9 g10 : Nat} {s s' : Ps} {ls : List Nat} {mvs : List Value} {ms : List (List Nat)} {W W' : World} (h : Mem28 B0 g g9 g10 s ls mvs ms W) (hB : B0 ≤ W.heap.size) {gs : Nat} {pv : Value} {A : Option Addr} (hF : ∀ x, PS g gs pv A x → B0 ≤ x ∧ x ≠ g9 ∧ x ≠ g10 ∧ ∀ i, i < 4 → (mvs.getD i nilV).ownBlock ≠ some x) (hp : PlTo W (PS g gs pv A) g s' W') :
    Mem28 B0 g g9 g10 s' ls mvs ms W' ∧ Below B0 W W' := by
  obtain ⟨gs', pv', A', c', q1, q2, q3⟩ := hp
  have n9 : ¬ PS g gs pv A g9 := fun hx => (hF g9 hx).2.1 rfl
  have n10 : ¬ PS g gs pv A g10 := fun hx => (hF g10 hx).2.2.1 rfl
  refine ⟨⟨⟨gs', pv', A', c', q1, fun x hx => ?_⟩, (q3.row (row_lt h.r9) n9).trans h.r9, (q3.row (row_lt h.r10) n10).trans h.r10, h.l1, h.l2, fun i hi => (h.own i hi).chg q3 (fun k hk hx => (hF k hx).2.2.2 i hi hk), h.apart, h.ob, h.ne, h.b9, h.b10⟩, q3.toBelow (fun k hk => (hF k hk).1) hB⟩
  rcases q2 x hx with h1 | h1
  · exact hF x h1
  · refine ⟨by omega, fun e => ?_, fun e => ?_, fun i hi e => ?_⟩
    · have := row_lt h.r9; omega
    · have := row_lt h.r10; omega
    · have := (h.own i hi).lt x e; omega
theorem byA_set (ls : List Nat) (k x : Nat) : (byA ls).setIfInBounds k (.int .u8 (x : Int)) = byA (ls.set k x) := by
  unfold byA
  rw [List.setIfInBounds_toArray, List.map_set]
/-- What is sure of a sector turns. -/
theorem Mem28.sure {B0 g g9 g10 : Nat} {s : Ps} {ls : List Nat} {mvs : List Value} {ms : List (List Nat)} {W : World} (h : Mem28 B0 g g9 g10 s ls mvs ms W) (k x : Nat) :
    Mem28 B0 g g9 g10 s (ls.set k x) mvs ms (W.setCell ⟨g9, k, none⟩ (.int .u8 (x : Int))) ∧ Below B0 W (W.setCell ⟨g9, k, none⟩ (.int .u8 (x : Int))) := by
  obtain ⟨gs, pv, A, c, p1, p2⟩ := h.pl
  have hc : Chg (fun y => y = g9) W (W.setCell ⟨g9, k, none⟩ (.int .u8 (x : Int))) := (Chg.refl (fun y => y = g9) W).setCell (p := ⟨g9, k, none⟩) (.inl rfl) _
  refine ⟨⟨⟨gs, pv, A, c, p1.chg hc (fun y hy => (p2 y hy).2.1), p2⟩, ?_, (hc.row (row_lt h.r10) (fun e => h.ne e.symm)).trans h.r10, by rw [List.length_set]; exact h.l1, h.l2, fun i hi => (h.own i hi).chg hc (fun y hy => (h.ob i hi y hy).2.1), h.apart, h.ob, h.ne, h.b9, h.b10⟩, Below.setCell (Below.refl _ _) (p := ⟨g9, k, none⟩) h.b9 _⟩
  rw [row_set h.r9 k _, byA_set]
/-- What may be of a sector turns. -/
theorem Mem28.may {B0 g g9 g10 : Nat} {s : Ps} {ls : List Nat} {mvs : List Value} {ms : List (List Nat)} {W0 W : World} (h : Mem28 B0 g g9 g10 s ls mvs ms W0) (hB : B0 ≤ W0.heap.size) (k : Nat) (hk : k < 4) (hg : W0.grownBy W (mvs.getD k nilV).ownBlock) (v : Value) (m : List Nat) (hlm : ms.length = 4) (ho : OwnB W v m) (hor : v.ownBlock = (mvs.getD k nilV).ownBlock ∨ v.ownBlock = some W0.heap.size ∨ v.ownBlock = none) :
    Mem28 B0 g g9 g10 s ls (mvs.set k v) (ms.set k m) (W.setCell ⟨g10, k, none⟩ v) ∧ Below B0 W0 (W.setCell ⟨g10, k, none⟩ v) := by
  obtain ⟨gs, pv, A, c, p1, p2⟩ := h.pl
  have hc1 : Chg (fun y => (mvs.getD k nilV).ownBlock = some y) W0 W := (Chg.refl _ W0).grown hg (fun y hy => .inl hy)
  have hc2 : Chg (fun y => y = g10) W (W.setCell ⟨g10, k, none⟩ v) := (Chg.refl (fun y => y = g10) W).setCell (p := ⟨g10, k, none⟩) (.inl rfl) _
  have hv : ∀ y, v.ownBlock = some y → (mvs.getD k nilV).ownBlock = some y ∨ y = W0.heap.size := fun y hy => by
    rcases hor with h1 | h1 | h1
    · exact .inl (h1.symm.trans hy)
    · have h2 : some W0.heap.size = some y := h1.symm.trans hy
      rw [Option.some.injEq] at h2
      exact .inr h2.symm
    · rw [h1] at hy; cases hy
  have l9 := row_lt h.r9
  have l10 := row_lt h.r10
  have hlt := p1.blocks
  have hget : ∀ i, i < 4 → (mvs.set k v).getD i nilV = if k = i then v else mvs.getD i nilV := fun i hi => by
    rw [getD_set', h.l2]
    by_cases e : k = i
    · rw [if_pos ⟨e, hk⟩, if_pos e]
    · rw [if_neg (fun h => e h.1), if_neg e]
  have hgetm : ∀ i, i < 4 → (ms.set k m).getD i [] = if k = i then m else ms.getD i [] := fun i hi => by
    rw [getD_set', hlm]
    by_cases e : k = i
    · rw [if_pos ⟨e, hk⟩, if_pos e]
    · rw [if_neg (fun h => e h.1), if_neg e]
  have hrow10 : row W g10 = some mvs.toArray := (hc1.row l10 (fun e => (h.ob k hk g10 e).2.2 rfl)).trans h.r10
  have hap : ∀ j, j < 4 → k ≠ j → Apart v (mvs.getD j nilV) := fun j hj hkj y hy e => by
    rcases hv y hy with h1 | h1
    · exact h.apart k j hk hj hkj y h1 e
    · have := (h.own j hj).lt y e; omega
  have hbel : Below B0 W0 (W.setCell ⟨g10, k, none⟩ v) := Below.setCell ((Below.refl _ _).grown hg hB (fun y hy => (h.ob k hk y hy).1)) (p := ⟨g10, k, none⟩) h.b10 _
  refine ⟨⟨⟨gs, pv, A, c, (p1.chg hc1 (fun y hy => (p2 y hy).2.2.2 k hk)).chg hc2 (fun y hy => (p2 y hy).2.2.1), fun y hy => ⟨(p2 y hy).1, (p2 y hy).2.1, (p2 y hy).2.2.1, fun i hi => ?_⟩⟩, ?_, ?_, h.l1, by rw [List.length_set]; exact h.l2, fun i hi => ?_, fun i j hi hj hij => ?_, fun i hi y hy => ?_, h.ne, h.b9, h.b10⟩, hbel⟩
  · rw [hget i hi]
    by_cases e : k = i
    · rw [if_pos e]
      intro e2
      rcases hv y e2 with h1 | h1
      · exact (p2 y hy).2.2.2 k hk h1
      · have := hlt y hy; omega
    · rw [if_neg e]; exact (p2 y hy).2.2.2 i hi
  · exact (hc2.row (Nat.lt_of_lt_of_le l9 hc1.size) h.ne).trans ((hc1.row l9 (fun e => (h.ob k hk g9 e).2.1 rfl)).trans h.r9)
  · rw [row_set hrow10 k v, List.setIfInBounds_toArray]
  · rw [hget i hi, hgetm i hi]
    by_cases e : k = i
    · rw [if_pos e, if_pos e]
      exact ho.chg hc2 (fun y hy e2 => by
        rcases hv y hy with h1 | h1
        · exact (h.ob k hk y h1).2.2 e2
        · omega)
    · rw [if_neg e, if_neg e]
      exact ((h.own i hi).chg hc1 (fun y hy e2 => h.apart k i hk hi e y e2 hy)).chg hc2 (fun y hy => (h.ob i hi y hy).2.2)
  · rw [hget i hi, hget j hj]
    by_cases e : k = i
    · rw [if_pos e, if_neg (fun e2 => hij (e.symm.trans e2))]
      exact hap j hj (fun e2 => hij (e.symm.trans e2))
    · rw [if_neg e]
      by_cases e2 : k = j
      · rw [if_pos e2]; exact (hap i hi e).symm
      · rw [if_neg e2]; exact h.apart i j hi hj hij
  · rw [hget i hi] at hy
    by_cases e : k = i
    · rw [if_pos e] at hy
      rcases hv y hy with h1 | h1
      · exact h.ob k hk y h1
      · exact ⟨by omega, by omega, by omega⟩
    · rw [if_neg e] at hy; exact h.ob i hi y hy
theorem Mem28.may_all {B0 g g9 g10 : Nat} {s : Ps} {ls : List Nat} {mvs : List Value} {ms : List (List Nat)} {W0 W : World} (h : Mem28 B0 g g9 g10 s ls mvs ms W0) (hB : B0 ≤ W0.heap.size) {k : Nat} (hk : k < 4) (hlm : ms.length = 4) {u v : Value} {b : Nat} {ma : List Nat} (hu : mvs.getD k nilV = u) (hma : ms.getD k [] = ma) (ha : Appended W0 u ma [b] v W) :
    Hid (Mem28 B0 g g9 g10 s ls (mvs.set k v) (ms.set k (ma ++ [b])) (W.setCell ⟨g10, k, none⟩ v) ∧ Below B0 W0 (W.setCell ⟨g10, k, none⟩ v)) ∧ W.cell? ⟨g10, k, none⟩ = some u ∧ W.frozen? ⟨g10, k, none⟩ = false := by
  subst hu
  subst hma
  have l10 := row_lt h.r10
  have hne : some g10 ≠ (mvs.getD k nilV).ownBlock := fun e => (h.ob k hk g10 e.symm).2.2 rfl
  have hkl : k < mvs.length := by rw [h.l2]; exact hk
  refine ⟨Lib.hid (h.may hB k hk ha.2.1 v _ hlm ha.1 (ha.2.2.imp id .inl)), (ha.2.1.cell_far ⟨g10, k, none⟩ l10 hne).trans ?_, (ha.2.1.frozen_far ⟨g10, k, none⟩ l10 hne).trans (row_frozen h.r10 k)⟩
  rw [row_cell h.r10 k, List.getElem?_toArray, List.getD_eq_getElem?_getD, List.getElem?_eq_getElem hkl]; rfl
theorem Inv28.few {s : Ps} {ls : List Nat} {ms : List (List Nat)} (h : Inv28 s ls ms) {k : Nat} (hk : k < 4) : (ms.getD k []).length ≤ s.pend.length := by
  obtain ⟨bs, _, p2, p3⟩ := h.pend
  rw [p3 k hk, p2]
  unfold byt pendOf
  rw [List.length_map, List.length_map]
  exact List.length_filter_le ..
theorem Ps.write_facts (s : Ps) (h : s.Ok) (e : Nat × Sec) : (s.write e).2.sure = s.sure ∧ (s.write e).2.pend = s.pend ++ [e] := ⟨(Ps.power_ok h).2.1, rfl⟩
theorem Appended.formL {W : World} {v : Value} {l m : List Nat} {v' : Value} {W' : World} {k : Nat} (h : Appended W v l m v' W') (hk : l.length + m.length = k) : ∃ A c, v' = .slice A k c := hk ▸ h.form
theorem last_getD {l : List Nat} {p : Nat} (h : l.length = p + 1) (d : Nat) : l.getLastD d = l.getD p 0 := by
  rw [List.getLastD_eq_getLast?, List.getLast?_eq_getElem?, h, Nat.add_sub_cancel, List.getD_eq_getElem?_getD, List.getElem?_eq_getElem (by omega)]; rfl
theorem Mem28.cell10 {B0 g g9 g10 : Nat} {s : Ps} {ls : List Nat} {mvs : List Value} {ms : List (List Nat)} {W : World} (h : Mem28 B0 g g9 g10 s ls mvs ms W) {k : Nat} (hk : k < 4) : W.cell? ⟨g10, k, none⟩ = some (mvs.getD k nilV) := by
  rw [row_cell h.r10 k, List.getElem?_toArray, List.getD_eq_getElem?_getD, List.getElem?_eq_getElem (by rw [h.l2]; exact hk)]; rfl
theorem Mem28.cell9 {B0 g g9 g10 : Nat} {s : Ps} {ls : List Nat} {mvs : List Value} {ms : List (List Nat)} {W : World} (h : Mem28 B0 g g9 g10 s ls mvs ms W) {k : Nat} (hk : k < 4) : W.cell? ⟨g9, k, none⟩ = some (.int .u8 ((ls.getD k 0 : Nat) : Int)) := by
  rw [row_cell h.r9 k]
  unfold byA
  rw [List.getElem?_toArray, List.getElem?_map, List.getD_eq_getElem?_getD, List.getElem?_eq_getElem (by rw [h.l1]; exact hk)]; rfl
theorem grow_self (w : World) (r : Option Nat) : w.grownBy w r := ⟨rfl, rfl, rfl, Nat.le_refl _, fun _ _ _ => rfl⟩
/-- One byte at a step of a region that draws its order. -/
theorem step_appb {W : World} {ops : Array Oper} {o : Oper} {a : Act} {K : Act → World → Prop} {Q : Exit → Act → World → Prop} {E : Prop} (hgd : o.guard = none) (s x : Operand)
    (ho : o.op = .call { callee := .builtin .append, args := #[s, x], argTypes := #[22, 22] })
    (v : Value) (l m : List Nat) (A : Option Addr) (n c : Nat) (h : OwnB W v l) (hm : Bys W A m) (hs : a.eval s = v) (hx : a.eval x = .slice A n c) (hn : m.length = n) (hlen : l.length + m.length ≤ 70368744177664)
    (hk : ∀ v' W', Appended W v l m v' W' → K (a.put o.dst v') W') : if Region.wanted o (yielded ops a.tmps) = true then Oper.wp Try.prog o a W K Q else E := by
  have hw : Region.wanted o (yielded ops a.tmps) = true := by simp [Region.wanted, hgd]
  rw [if_pos hw]
  exact wp_appb s x ho v l m A n c h hm hs hx hn hlen hk
end Go.Proofs.Yteppkbjjldnniaa

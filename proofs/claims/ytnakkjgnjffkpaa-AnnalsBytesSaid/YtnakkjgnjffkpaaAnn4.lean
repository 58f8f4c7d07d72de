/-
  Annals: Add.
-/
import Derived.Test.YtnakkjgnjffkpaaAnn3
import Derived.Deep.MidRow
namespace Go.Proofs.Ytnakkjgnjffkpaa
open Go.RowKit
set_option linter.unusedVariables false
set_option linter.unusedSimpArgs false

def setL : Array Value → Nat → List Value → Array Value
  | cs, _, [] => cs
  | cs, o, v :: r => setL (cs.setIfInBounds o v) (o + 1) r
theorem row_setL (b : Nat) : ∀ (vs : List Value) (o : Nat) (w : World) (cs : Array Value), row w b = some cs → row (w.setCells b o vs) b = some (setL cs o vs)
  | [], o, w, cs, h => h
  | v :: r, o, w, cs, h => row_setL b r (o + 1) (w.setCell ⟨b, o, none⟩ v) _ (row_set h o v)
theorem setL_sum (s s' : Sm) (m : Nat) (v : Value) : setL (anC s m v) 0 (smC s').toList = anC s' m v := by unfold anC smC; simp [setL]
theorem row_setSum {w : World} {g m : Nat} {s s' : Sm} {v : Value} (h : row w g = some (anC s m v)) : row (w.setCells g 0 (smC s').toList) g = some (anC s' m v) := by
  rw [row_setL g _ 0 w _ h, setL_sum]
theorem there_anC {w : World} {g m : Nat} {s : Sm} {v : Value} (h : row w g = some (anC s m v)) : w.there g 0 12 := fun j hj => by
  refine ⟨?_, row_frozen h _⟩
  rw [row_cell h, Array.getElem?_eq_getElem (by rw [anC_size]; omega)]
  rfl
theorem chg_setCells {S : Nat → Prop} {w : World} {g : Nat} (hg : S g) : ∀ (vs : List Value) (o : Nat) (W : World), Chg S w W → Chg S w (W.setCells g o vs)
  | [], o, W, h => h
  | v :: r, o, W, h => chg_setCells hg r (o + 1) _ (h.setCell (p := ⟨g, o, none⟩) (.inl hg) v)
/-- Annals behind a call: where they lie, and what has turned. -/
def AnTo (w : World) (F E : Nat → Prop) (g most : Nat) (s : Sm) (L : List Rep) (W : World) : Prop := ∃ v l, AnAt W E g most s v l ∧ l.map (·.1) = L ∧ (∀ k, v.ownBlock = some k → F k ∨ w.heap.size ≤ k) ∧ Chg F w W
def keepK (most : Nat) (L : List Rep) : List Rep := if most < L.length then L.drop 1 else L
def seqB (L : List Rep) (r : Rep) : Bool := match L.getLast? with
  | some x => decide (x.epoch = r.epoch - 1)
  | none => true
/-- What Add answers: 0, or why it is refused. -/
def addE (s : Sm) (L : List Rep) (r : Rep) : Int := if rightA r = true then (if seqB L r = true then togE [s, smOf r] else 200) else 2
theorem fill_two {C : Nat} (h0 : 0 < C) (c0 c1 : Array Value) (h1 : c0.size = C) (h2 : c1.size = C) (cells : Array Value) (hc : cells.size = 2 * C) : Instr.fill (fun i => some (i * C, C)) cells [(0, .agg c0), (1, .agg c1)] = some (c0 ++ c1) := by
  obtain ⟨r, e1, e2, e3⟩ := Great.fill_dense h0 [.agg c0, .agg c1] 0 cells (fun u hu => by
    rcases List.mem_cons.1 hu with rfl | hu
    · exact h1
    · rw [List.mem_singleton] at hu; subst hu; exact h2) (by simp [hc])
  have e : (([Value.agg c0, Value.agg c1].zipIdx 0).map fun x => (x.2, x.1)) = [(0, Value.agg c0), (1, Value.agg c1)] := rfl
  rw [e] at e1
  rw [e1]
  congr 1
  apply Array.ext_getElem?
  intro k
  rw [e3 k]
  by_cases hk : k < C
  · rw [if_pos ⟨by omega, by simp; omega⟩, Nat.div_eq_of_lt hk, Nat.mod_eq_of_lt hk, Array.getElem?_append_left (by omega)]; rfl
  · by_cases hk2 : k < 2 * C
    · have d1 : k / C = 1 := Nat.div_eq_of_lt_le (by omega) (by omega)
      have d2 : k % C = k - C := by rw [Nat.mod_eq_sub_mod (by omega), Nat.mod_eq_of_lt (by omega)]
      rw [if_pos ⟨by omega, by simp; omega⟩, d1, d2, Array.getElem?_append_right (by omega), h1]; rfl
    · rw [if_neg (by simp; omega), Array.getElem?_eq_none (by omega), Array.getElem?_eq_none (by simp; omega)]
section
variable {P : Program} {T t : TypeId} {C : Nat} {z : Value} {bytes : Nat}
/-- A slice of two structs, written down, at a step of a region that draws its order. -/
theorem step_slice2 (hu : P.underlying t = some (.slice T)) (hinfo : (P.info? T).map (fun i => (i.zero, i.size, i.bytes)) = some (some z, C, bytes)) (h0 : 0 < C) (hC : C ≤ 1000)
    {w : World} {ops : Array Oper} {o : Oper} {a : Act} {K : Act → World → Prop} {Q : Exit → Act → World → Prop} {E : Prop} (hg : o.guard = none) (x y : Operand) (ho : o.op = .buildSlice t 2 #[(0, x), (1, y)]) (c0 c1 : Array Value) (hx : a.eval x = .agg c0) (hy : a.eval y = .agg c1) (hs : c0.size = C) (hs' : c1.size = C)
    (h : K (a.put o.dst (.slice (some ⟨w.heap.size, 0, none⟩) 2 2)) (w.alloc (.cells (c0 ++ c1) T))) : if Region.wanted o (yielded ops a.tmps) = true then Oper.wp P o a w K Q else E := by
  have hw : Region.wanted o (yielded ops a.tmps) = true := by simp [Region.wanted, hg]
  rw [if_pos hw]
  obtain ⟨i0, hi, hz0, hz1, hz2⟩ := info_parts hinfo
  refine wp_buildSlice t T 2 #[(0, x), (1, y)] ho (c0 ++ c1) i0 z hu hi hz0 (by rw [hz1]; omega) (by rw [hz1]; omega) ?_ h
  have e : (#[((0 : Nat), x), (1, y)].map fun (i, x) => (i, a.eval x)).toList = [(0, a.eval x), (1, a.eval y)] := by simp
  rw [e, hx, hy, hz1]
  exact fill_two h0 c0 c1 hs hs' _ (by simp)
end
section
variable {P : Program} {T t : TypeId} {C : Nat} {z : Value} {bytes : Nat}
theorem wp_slice2_eq (hu : P.underlying t = some (.slice T)) (hinfo : (P.info? T).map (fun i => (i.zero, i.size, i.bytes)) = some (some z, C, bytes)) (h0 : 0 < C) (hC : C ≤ 1000)
    {dst : Option Tmp} {x y : Operand} {ty : TypeId} {pos : String} {after : Array Edge} {gd : Option (Nat × Bool)} {a : Act} {w : World} {K : Act → World → Prop} {Q : Exit → Act → World → Prop} (h1 : a.eval x = .agg (aggOf (a.eval x))) (h2 : (aggOf (a.eval x)).size = C) (h3 : a.eval y = .agg (aggOf (a.eval y))) (h4 : (aggOf (a.eval y)).size = C) :
    Oper.wp P ⟨dst, .buildSlice t 2 #[(0, x), (1, y)], ty, pos, after, gd⟩ a w K Q = K (a.put dst (.slice (some ⟨w.heap.size, 0, none⟩) 2 2)) (w.alloc (.cells (aggOf (a.eval x) ++ aggOf (a.eval y)) T)) := by
  obtain ⟨i0, hi, hz0, hz1, hz2⟩ := info_parts hinfo
  generalize aggOf (a.eval x) = c0 at *
  generalize aggOf (a.eval y) = c1 at *
  have e : (#[((0 : Nat), x), (1, y)].map fun (i, x) => (i, a.eval x)).toList = [(0, a.eval x), (1, a.eval y)] := by simp
  unfold Oper.wp execOp
  simp only [Sem.run_bind, run_buildSlice w t T 2 _ (c0 ++ c1) i0 z hu hi hz0 (by rw [hz1]; omega) (by rw [hz1]; omega) (by rw [e, h1, h3, hz1]; exact fill_two h0 c0 c1 h2 h4 _ (by simp)), Result.andThen_ok]
  rfl
theorem wp_slice1_eq (hu : P.underlying t = some (.slice T)) (hinfo : (P.info? T).map (fun i => (i.zero, i.size, i.bytes)) = some (some z, C, bytes)) (h0 : 0 < C) (hC : C ≤ 1000)
    {dst : Option Tmp} {x : Operand} {ty : TypeId} {pos : String} {after : Array Edge} {gd : Option (Nat × Bool)} {a : Act} {w : World} {K : Act → World → Prop} {Q : Exit → Act → World → Prop} (h1 : a.eval x = .agg (aggOf (a.eval x))) (h2 : (aggOf (a.eval x)).size = C) :
    Oper.wp P ⟨dst, .buildSlice t 1 #[(0, x)], ty, pos, after, gd⟩ a w K Q = K (a.put dst (.slice (some ⟨w.heap.size, 0, none⟩) 1 1)) (w.alloc (.cells (aggOf (a.eval x)) T)) := by
  obtain ⟨i0, hi, hz0, hz1, hz2⟩ := info_parts hinfo
  generalize aggOf (a.eval x) = c0 at *
  have e : (#[((0 : Nat), x)].map fun (i, x) => (i, a.eval x)).toList = [(0, a.eval x)] := by simp
  unfold Oper.wp execOp
  simp only [Sem.run_bind, run_buildSlice w t T 1 _ c0 i0 z hu hi hz0 (by rw [hz1]; omega) (by rw [hz1]; omega) (by rw [e, h1, hz1]; exact fill_one h0 (.agg c0) h2 _ (by simp)), Result.andThen_ok]
  rfl
end
theorem sums_slice2 {dst : Option Tmp} {x y : Operand} {ty : TypeId} {pos : String} {after : Array Edge} {gd : Option (Nat × Bool)} {a : Act} {w : World} {K : Act → World → Prop} {Q : Exit → Act → World → Prop} (h1 : a.eval x = .agg (aggOf (a.eval x))) (h2 : (aggOf (a.eval x)).size = 12) (h3 : a.eval y = .agg (aggOf (a.eval y))) (h4 : (aggOf (a.eval y)).size = 12) :
    Oper.wp Try.prog ⟨dst, .buildSlice 133 2 #[(0, x), (1, y)], ty, pos, after, gd⟩ a w K Q = K (a.put dst (.slice (some ⟨w.heap.size, 0, none⟩) 2 2)) (w.alloc (.cells (aggOf (a.eval x) ++ aggOf (a.eval y)) 45)) := wp_slice2_eq sumsl_under sumsl_info (by omega) (by omega) h1 h2 h3 h4
theorem reps_slice1 {dst : Option Tmp} {x : Operand} {ty : TypeId} {pos : String} {after : Array Edge} {gd : Option (Nat × Bool)} {a : Act} {w : World} {K : Act → World → Prop} {Q : Exit → Act → World → Prop} (h1 : a.eval x = .agg (aggOf (a.eval x))) (h2 : (aggOf (a.eval x)).size = 14) :
    Oper.wp Try.prog ⟨dst, .buildSlice 22 1 #[(0, x)], ty, pos, after, gd⟩ a w K Q = K (a.put dst (.slice (some ⟨w.heap.size, 0, none⟩) 1 1)) (w.alloc (.cells (aggOf (a.eval x)) 36)) := wp_slice1_eq reps_under' rep_info' (by omega) (by omega) h1 h2
attribute [go_sem ↓] sums_slice2 reps_slice1
theorem SliceOf.two (w : World) (T : TypeId) (a b : Sm) : SliceOf 12 smC (w.alloc (.cells (smC a ++ smC b) T)) (some ⟨w.heap.size, 0, none⟩) [a, b] := fun _ => by
  refine ⟨w.heap.size, 0, rfl, by rw [World.size_alloc]; omega, fun i x hi j v hv => ?_⟩
  have hr := row_at w (smC a ++ smC b) T _ rfl
  rw [row_cell hr]
  have hj : j < 12 := by have := (List.getElem?_eq_some_iff.1 hv).1; rw [Array.length_toList, smC_size] at this; exact this
  match i, hi with
  | 0, hi =>
    cases hi
    rw [Array.getElem?_append_left (by rw [smC_size]; omega), ← hv, Array.getElem?_toList]
    congr 1; omega
  | 1, hi =>
    cases hi
    rw [Array.getElem?_append_right (by rw [smC_size]; omega), ← hv, Array.getElem?_toList, smC_size]
    congr 1; omega
  | k + 2, hi => simp at hi
theorem SliceOf.two' (w : World) (T : TypeId) (a b : Sm) (n : Nat) (hn : n = w.heap.size) : SliceOf 12 smC (w.alloc (.cells (smC a ++ smC b) T)) (some ⟨n, 0, none⟩) [a, b] := by
  subst hn; exact SliceOf.two w T a b
theorem SliceOf.two'' (w : World) (T : TypeId) (a b : Sm) (n : Nat) (o : Obj) (hn : n = w.heap.size) : SliceOf 12 smC ((w.alloc (.cells (smC a ++ smC b) T)).alloc o) (some ⟨n, 0, none⟩) [a, b] :=
  (SliceOf.two' w T a b n hn).below ((Below.refl _ _).alloc (Nat.le_refl _) o) (Nat.le_refl _)
/-- The blocks of annals that a call may turn. -/
def AnF (g : Nat) (v : Value) : Nat → Prop := fun k => k = g ∨ v.ownBlock = some k
section
variable {W W' : World} {E : Nat → Prop} {g most : Nat} {s : Sm} {v v' : Value} {l l' : List (Rep × RepA)}
theorem AnAt.setSum (h : AnAt W E g most s v l) (s' : Sm) : AnAt (W.setCells g 0 (smC s').toList) E g most s' v l ∧ Chg (AnF g v) W (W.setCells g 0 (smC s').toList) := by
  have hc : Chg (fun k => k = g) W (W.setCells g 0 (smC s').toList) := chg_setCells (S := fun k => k = g) rfl _ _ _ (Chg.refl _ _)
  exact ⟨⟨row_setSum h.row, h.kept.chg hc (fun k hk e => h.ne (by rw [hk, e])), fun x hx => (h.reps x hx).chg hc (fun k hk => (h.apart x hx k hk).1), h.ok, h.small, fun x hx k hk => ⟨(h.apart x hx k hk).1, (h.apart x hx k hk).2.1, (h.apart x hx k hk).2.2.1, Nat.lt_of_lt_of_le (h.apart x hx k hk).2.2.2 hc.size⟩, h.ne, h.few, h.pos, h.top⟩, hc.mono (fun k hk => .inl hk)⟩
/-- A report more. -/
theorem AnAt.push {x : Rep × RepA} (h : AnAt W E g most s v l) (hx : RepAt W x) (hok : x.1.Ok) (hsm : x.1.out.length ≤ 1000000 ∧ x.1.left.length ≤ 1000000 ∧ x.1.started.length ≤ 1000000 ∧ x.1.done.length ≤ 1000000) (hap : ∀ k, RepB x k → k ≠ g ∧ v.ownBlock ≠ some k ∧ ¬ E k ∧ k < W.heap.size) (hg : W.grownBy W' v.ownBlock) (hown : OwnC 36 14 repC W' 0 v' (l ++ [x])) (hor : v'.ownBlock = v.ownBlock ∨ v'.ownBlock = some W.heap.size) (hf : l.length < 1000) :
    (AnAt (W'.setCell ⟨g, 13, none⟩ v') E g most s v' (l ++ [x]) ∧ Chg (AnF g v) W (W'.setCell ⟨g, 13, none⟩ v')) ∧ W'.cell? ⟨g, 13, none⟩ = some v ∧ W'.frozen? ⟨g, 13, none⟩ = false := by
  have hc1 : Chg (fun k => v.ownBlock = some k) W W' := (Chg.refl _ W).grown hg (fun k hk => .inl hk)
  have hc2 : Chg (fun k => k = g) W' (W'.setCell ⟨g, 13, none⟩ v') := (Chg.refl (fun k => k = g) W').setCell (p := ⟨g, 13, none⟩) (.inl rfl) _
  have hc : Chg (AnF g v) W (W'.setCell ⟨g, 13, none⟩ v') := (hc1.mono (S' := AnF g v) (fun k hk => .inr hk)).andThen hc2 (fun k hk => .inl (.inl hk))
  have hrow := (hc1.row (row_lt h.row) h.ne).trans h.row
  have hne : ∀ k, k < W.heap.size → v.ownBlock ≠ some k → v'.ownBlock ≠ some k := fun k hk hn e => by
    rcases hor with h1 | h1
    · exact hn (h1.symm.trans e)
    · have h2 : some W.heap.size = some k := h1.symm.trans e
      rw [Option.some.injEq] at h2; omega
  have hap2 : ∀ y ∈ l ++ [x], ∀ k, RepB y k → k ≠ g ∧ v.ownBlock ≠ some k ∧ ¬ E k ∧ k < W.heap.size := fun y hy k hk => by
    rcases List.mem_append.1 hy with hy | hy
    · exact h.apart y hy k hk
    · rw [List.mem_singleton] at hy; subst hy; exact hap k hk
  have hno : ∀ y ∈ l ++ [x], ∀ k, RepB y k → ¬ AnF g v k := fun y hy k hk e => e.elim (hap2 y hy k hk).1 (hap2 y hy k hk).2.1
  refine ⟨⟨⟨by rw [row_set hrow 13 _]; rfl, hown.chg hc2 (fun k hk e => hne g (row_lt h.row) h.ne (by rw [hk, e])), fun y hy => ?_, fun y hy => ?_, fun y hy => ?_, fun y hy k hk => ⟨(hap2 y hy k hk).1, hne k (hap2 y hy k hk).2.2.2 (hap2 y hy k hk).2.1, (hap2 y hy k hk).2.2.1, Nat.lt_of_lt_of_le (hap2 y hy k hk).2.2.2 hc.size⟩, hne g (row_lt h.row) h.ne, by rw [List.length_append]; exact hf, h.pos, h.top⟩, hc⟩, (hg.cell_far ⟨g, 13, none⟩ (row_lt h.row) (fun e => h.ne e.symm)).trans (row_cell h.row 13), (hg.frozen_far ⟨g, 13, none⟩ (row_lt h.row) (fun e => h.ne e.symm)).trans (row_frozen h.row 13)⟩
  · have h1 : RepAt W y := by
      rcases List.mem_append.1 hy with hz | hz
      · exact h.reps y hz
      · rw [List.mem_singleton] at hz; subst hz; exact hx
    exact h1.chg hc (hno y hy)
  · rcases List.mem_append.1 hy with hy | hy
    · exact h.ok y hy
    · rw [List.mem_singleton] at hy; subst hy; exact hok
  · rcases List.mem_append.1 hy with hy | hy
    · exact h.small y hy
    · rw [List.mem_singleton] at hy; subst hy; exact hsm
/-- Another list, of the same reports. -/
theorem AnAt.swap (h : AnAt W E g most s v l) (hb : Below W.heap.size W W') (hown : OwnC 36 14 repC W' W.heap.size v' l') (hsub : ∀ x ∈ l', x ∈ l) (hf : l'.length ≤ 1000) :
    AnAt (W'.setCell ⟨g, 13, none⟩ v') E g most s v' l' ∧ Chg (AnF g v) W (W'.setCell ⟨g, 13, none⟩ v') := by
  have hc2 : Chg (fun k => k = g) W' (W'.setCell ⟨g, 13, none⟩ v') := (Chg.refl (fun k => k = g) W').setCell (p := ⟨g, 13, none⟩) (.inl rfl) _
  have h1 := h.stay hb
  have hlt : ∀ k, v'.ownBlock = some k → W.heap.size ≤ k := fun k hk => (hown.lt k hk).1
  have hg := row_lt h.row
  refine ⟨⟨by rw [row_set h1.row 13 _]; rfl, (hown.base (Nat.zero_le _)).chg hc2 (fun k hk e => by have := hlt k hk; omega), fun y hy => (h1.reps y (hsub y hy)).chg hc2 (fun k hk => (h.apart y (hsub y hy) k hk).1), fun y hy => h.ok y (hsub y hy), fun y hy => h.small y (hsub y hy), fun y hy k hk => ⟨(h.apart y (hsub y hy) k hk).1, fun e => ?_, (h.apart y (hsub y hy) k hk).2.2.1, Nat.lt_of_lt_of_le (h.apart y (hsub y hy) k hk).2.2.2 (Nat.le_trans hb.size hc2.size)⟩, fun e => by have := hlt g e; omega, hf, h.pos, h.top⟩, (Chg.of_below hb (Nat.le_refl _)).andThen hc2 (fun k hk => .inl (.inl hk))⟩
  have := hlt k e
  have := (h.apart y (hsub y hy) k hk).2.2.2
  omega
theorem SliceOf.tail {α : Type} {C : Nat} {f : α → Array Value} {w : World} {b off : Nat} {x : α} {xs : List α} (h : SliceOf C f w (some ⟨b, off, none⟩) (x :: xs)) : SliceOf C f w (some ⟨b, off + C, none⟩) xs := fun hn => by
  obtain ⟨b', off', he, hlt, hc⟩ := h (by simp)
  cases he
  refine ⟨b, off + C, rfl, hlt, fun i y hi j v hv => ?_⟩
  have := hc (i + 1) y (by simpa using hi) j v hv
  rw [show off + C + i * C + j = off + (i + 1) * C + j by rw [Nat.succ_mul]; omega]
  exact this
end
end Go.Proofs.Ytnakkjgnjffkpaa

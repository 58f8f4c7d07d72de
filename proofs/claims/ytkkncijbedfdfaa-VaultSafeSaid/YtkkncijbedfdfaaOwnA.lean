/-
  A list of structs that a call owns: append of a whole slice to it, of whatever length.
-/
import Derived.Test.YtkkncijbedfdfaaOwnC
import Derived.Test.YtkkncijbedfdfaaBytes
import Derived.Great.BuildSlice
namespace Go.Proofs.Ytkkncijbedfdfaa
open Go.RowKit
set_option linter.unusedVariables false

section
variable {α : Type} {T : TypeId} {C : Nat} {f : α → Array Value} {P : Program} {t : TypeId} {z : Value} {bytes : Nat}
theorem OwnC.chg {W W' : World} {B : Nat} {v : Value} {l : List α} {S : Nat → Prop} (h : OwnC T C f W B v l) (hc : Chg S W W') (hS : ∀ k, v.ownBlock = some k → ¬ S k) : OwnC T C f W' B v l := by
  refine ⟨h.1, ?_⟩
  rcases h.2 with hn | ⟨g, cap, cur, rfl, hb, hgg, rest⟩
  · exact .inl hn
  · refine .inr ⟨g, cap, cur, rfl, hb, ?_, rest⟩
    rw [hc.block g (Array.getElem?_eq_some_iff.1 hgg).1 (hS g rfl)]
    exact hgg
theorem SliceOf.chg {W W' : World} {A : Option Addr} {l : List α} {S : Nat → Prop} (h : SliceOf C f W A l) (hc : Chg S W W') (hS : ∀ a, A = some a → ¬ S a.block) : SliceOf C f W' A l := fun hn => by
  obtain ⟨b, off, e, hg, hx⟩ := h hn
  exact ⟨b, off, e, Nat.lt_of_lt_of_le hg hc.size, fun i x hi j v hv => (hc.cell hg (hS _ e) _).trans (hx i x hi j v hv)⟩
theorem SliceOf.nil (W : World) (A : Option Addr) : SliceOf C f W A [] := fun h => by simp at h
theorem run_append_no' (hu : P.underlying t = some (.slice T)) (hinfo : (P.info? T).map (fun i => (i.zero, i.size, i.bytes)) = some (some z, C, bytes)) {W : World} {B : Nat} {v : Value} {l : List α} (h : OwnC T C f W B v l) (ty : TypeId) (c : Nat) : (Builtin.append_ #[t, t] ty #[v, .slice none 0 c]).run P W = .ok v W := by
  obtain ⟨i0, hi, hz0, hz1, hz2⟩ := info_parts hinfo
  rcases h.2 with ⟨rfl, h0⟩ | ⟨g, cap, cur, rfl, _, _, hnc, _⟩
  · simp [Builtin.append_, run_underlying hu, sizeOf, typeInfo, hi, Builtin.lenOf, Builtin.firstCells]
  · simp [Builtin.append_, run_underlying hu, sizeOf, typeInfo, hi, Builtin.lenOf, Builtin.firstCells, hnc, storeCells]
theorem flat_len (hC : ∀ x, (f x).size = C) : ∀ l : List α, (l.flatMap fun x => (f x).toList).length = l.length * C
  | [] => by simp
  | x :: r => by rw [List.flatMap_cons, List.length_append, flat_len hC r, Array.length_toList, hC, List.length_cons, Nat.add_mul]; omega
theorem flat_at (hC : ∀ x, (f x).size = C) (h0 : 0 < C) {l : List α} {j : Nat} {u : Value} (h : (l.flatMap fun x => (f x).toList)[j]? = some u) : ∃ i x k, l[i]? = some x ∧ k < C ∧ j = i * C + k ∧ (f x).toList[k]? = some u := by
  have hj := (List.getElem?_eq_some_iff.1 h).1
  rw [flat_len hC] at hj
  have hi : j / C < l.length := Nat.div_lt_of_lt_mul (by rw [Nat.mul_comm]; exact hj)
  have hk := Nat.mod_lt j h0
  have hx : l[j / C]? = some l[j / C] := List.getElem?_eq_getElem hi
  have e : j = j / C * C + j % C := by rw [Nat.mul_comm]; exact (Nat.div_add_mod j C).symm
  refine ⟨j / C, _, j % C, hx, hk, e, ?_⟩
  rw [← flat_get (F := fun x => (f x).toList) (fun x => by rw [Array.length_toList, hC]) l (j / C) (j % C) _ hx hk, ← e]
  exact h
/-- What append of a slice leaves. -/
def AppC (T : TypeId) (C : Nat) (f : α → Array Value) (W : World) (B : Nat) (v : Value) (l m : List α) (v' : Value) (W' : World) : Prop := OwnC T C f W' B v' (l ++ m) ∧ W.grownBy W' v.ownBlock ∧ (v'.ownBlock = v.ownBlock ∨ v'.ownBlock = some W.heap.size)
theorem AppC.form {W : World} {B : Nat} {v : Value} {l m : List α} {v' : Value} {W' : World} {k : Nat} (h : AppC T C f W B v l m v' W') (hk : l.length + m.length = k) : ∃ A c, v' = .slice A k c := by
  rcases h.1.2 with ⟨rfl, h0⟩ | ⟨g, cap, cur, rfl, _⟩
  · rw [List.length_append, hk] at h0; exact ⟨none, 0, by rw [h0]⟩
  · exact ⟨some ⟨g, 0, none⟩, cap, by rw [List.length_append, hk]⟩
theorem AppC.chg {W : World} {B : Nat} {v : Value} {l m : List α} {v' : Value} {W' : World} (h : AppC T C f W B v l m v' W') : Chg (fun k => v.ownBlock = some k) W W' := (Chg.refl _ W).grown h.2.1 (fun k hk => .inl hk)
theorem run_append_c (hu : P.underlying t = some (.slice T)) (hinfo : (P.info? T).map (fun i => (i.zero, i.size, i.bytes)) = some (some z, C, bytes)) (hz : z.cells.size = C) (h0 : 0 < C) (hbb : bytes ≤ 1000) (hC : ∀ x, (f x).size = C) (hone : ∀ x, allOne (f x) = true)
    {W : World} {B : Nat} {v : Value} {l m : List α} (h : OwnC T C f W B v l) {A : Option Addr} (ty : TypeId) (c : Nat) (hm : SliceOf C f W A m) (hlen : l.length + m.length ≤ 1000000) (hB : B ≤ W.heap.size) :
    ∃ v' W', (Builtin.append_ #[t, t] ty #[v, .slice A m.length c]).run P W = .ok v' W' ∧ AppC T C f W B v l m v' W' := by
  obtain ⟨i0, hi, hz0, hz1, hz2⟩ := info_parts hinfo
  cases A with
  | none =>
    have h0 : m = [] := by
      rcases Nat.eq_zero_or_pos m.length with h0 | h0
      · exact List.eq_nil_of_length_eq_zero h0
      · obtain ⟨_, _, e, _⟩ := hm h0; cases e
    subst h0
    exact ⟨v, W, run_append_no' hu hinfo h ty c, by simpa using h, ⟨rfl, rfl, rfl, Nat.le_refl _, fun _ _ _ => rfl⟩, .inl rfl⟩
  | some a =>
    have hnews : ∀ j u, (m.flatMap fun x => (f x).toList)[j]? = some u → W.cell? (a.add j) = some u := fun j u hu => by
      obtain ⟨i, x, k, hx, hk, rfl, hf⟩ := flat_at hC h0 hu
      obtain ⟨b, off, e, _, hc⟩ := hm (by have := (List.getElem?_eq_some_iff.1 hx).1; omega)
      cases e
      have hadd : (⟨b, off, none⟩ : Addr).add (i * C + k) = ⟨b, off + i * C + k, none⟩ := by unfold Addr.add; split <;> simp_all; omega
      rw [hadd]
      exact hc i x hx k u hf
    have hbytes : (l.length + m.length) * bytes ≤ 140737488355328 := by
      have : (l.length + m.length) * bytes ≤ 1000000 * 1000 := Nat.mul_le_mul hlen hbb
      omega
    obtain ⟨v', W', h1, h2, h3, _, h5⟩ := run_append_own_at (P := P) W B t ty T i0 z C bytes hu hi hz0 hz1 hz2 hz h0 v l.length _ h a m.length c (m.flatMap fun x => (f x).toList) (flat_len hC m) hnews
      (fun u hu => by
        obtain ⟨x, _, hx⟩ := List.mem_flatMap.1 hu
        have := hone x
        unfold allOne at this
        rw [Array.all_eq_true'] at this
        exact this u (by simpa using hx)) (by unfold maxLen; omega) hbytes hB
    refine ⟨v', W', h1, ?_, h3, h5⟩
    unfold OwnC
    rw [List.length_append, List.flatMap_append]
    exact h2
theorem wp_append_a (hu : P.underlying t = some (.slice T)) (hinfo : (P.info? T).map (fun i => (i.zero, i.size, i.bytes)) = some (some z, C, bytes)) (hz : z.cells.size = C) (h0 : 0 < C) (hbb : bytes ≤ 1000) (hC : ∀ x, (f x).size = C) (hone : ∀ x, allOne (f x) = true)
    {W : World} {o : Oper} {a : Act} {K : Act → World → Prop} {Q : Exit → Act → World → Prop} (s x : Operand)
    (ho : o.op = .call { callee := .builtin .append, args := #[s, x], argTypes := #[t, t] })
    (B : Nat) (v : Value) (l m : List α) (A : Option Addr) (n c : Nat) (h : OwnC T C f W B v l) (hm : SliceOf C f W A m) (hs : a.eval s = v) (hx : a.eval x = .slice A n c) (hn : m.length = n) (hlen : l.length + m.length ≤ 1000000) (hB : B ≤ W.heap.size)
    (hk : ∀ v' W', AppC T C f W B v l m v' W' → K (a.put o.dst v') W') : o.wp P a W K Q := by
  subst hn
  obtain ⟨v', W', hr, h2⟩ := run_append_c hu hinfo hz h0 hbb hC hone h o.type c hm hlen hB
  unfold Oper.wp execOp
  simp only [ho, resolve, invoke, builtin, Sem.run_bind, Sem.run_pure, Result.andThen_ok, List.map_toArray, List.map_cons, List.map_nil, hs, hx, hr]
  exact hk v' W' h2
theorem wpList_append_a (hu : P.underlying t = some (.slice T)) (hinfo : (P.info? T).map (fun i => (i.zero, i.size, i.bytes)) = some (some z, C, bytes)) (hz : z.cells.size = C) (h0 : 0 < C) (hbb : bytes ≤ 1000) (hC : ∀ x, (f x).size = C) (hone : ∀ x, allOne (f x) = true)
    {W : World} {ops : Array Oper} {rest : List Oper} {o : Oper} {a : Act} {Q : Exit → Act → World → Prop} (hgd : o.guard = none) (s x : Operand)
    (ho : o.op = .call { callee := .builtin .append, args := #[s, x], argTypes := #[t, t] })
    (B : Nat) (v : Value) (l m : List α) (A : Option Addr) (n c : Nat) (h : OwnC T C f W B v l) (hm : SliceOf C f W A m) (hs : a.eval s = v) (hx : a.eval x = .slice A n c) (hn : m.length = n) (hlen : l.length + m.length ≤ 1000000) (hB : B ≤ W.heap.size)
    (hk : ∀ v' W', AppC T C f W B v l m v' W' → wpList P ops Q rest (a.put o.dst v') W') : wpList P ops Q (o :: rest) a W :=
  wpList_plain hgd fun _ hK => wp_append_a hu hinfo hz h0 hbb hC hone s x ho B v l m A n c h hm hs hx hn hlen hB fun v' W' h2 => hK _ _ (hk v' W' h2)
/-- One element at a step of a region that draws its order; where the new list lies. -/
theorem step_append_d (hu : P.underlying t = some (.slice T)) (hinfo : (P.info? T).map (fun i => (i.zero, i.size, i.bytes)) = some (some z, C, bytes)) (hz : z.cells.size = C) (h0 : 0 < C) (hbb : bytes ≤ 1000) (hC : ∀ x, (f x).size = C) (hone : ∀ x, allOne (f x) = true)
    {ops : Array Oper} {o : Oper} {a : Act} {w : World} {K : Act → World → Prop} {Q : Exit → Act → World → Prop} {E : Prop} (hgd : o.guard = none) (s x : Operand)
    (ho : o.op = .call { callee := .builtin .append, args := #[s, x], argTypes := #[t, t] }) (B : Nat) (v : Value) (l : List α) (hs : a.eval s = v) (hown : OwnC T C f w B v l)
    (b c : Nat) (y : α) (hx : a.eval x = .slice (some ⟨b, 0, none⟩) 1 c) (hc : row w b = some (f y)) (m : Nat) (hlm : l.length = m) (hl : l.length < 100000) (hB : B ≤ w.heap.size)
    (h : ∀ A cap w', OwnC T C f w' B (.slice A (m + 1) cap) (l ++ [y]) → w.grownBy w' v.ownBlock → ((Value.slice A (m + 1) cap).ownBlock = v.ownBlock ∨ (Value.slice A (m + 1) cap).ownBlock = some w.heap.size) → K (a.put o.dst (.slice A (m + 1) cap)) w') :
    if Region.wanted o (yielded ops a.tmps) = true then Oper.wp P o a w K Q else E := by
  have hw : Region.wanted o (yielded ops a.tmps) = true := by simp [Region.wanted, hgd]
  rw [if_pos hw]
  exact wp_append_d hu hinfo hz h0 hbb hC hone s x ho B v l hs hown b c y hx hc m hlm hl hB h
theorem fill_one {s : Nat} (hs : 0 < s) (v : Value) (hv : v.cells.size = s) (cells : Array Value) (hc : cells.size = s) : Instr.fill (fun i => some (i * s, s)) cells [(0, v)] = some v.cells := by
  obtain ⟨r, h1, h2, h3⟩ := Great.fill_dense hs [v] 0 cells (fun u hu => by rw [List.mem_singleton] at hu; subst hu; exact hv) (by simp [hc])
  have e : (([v].zipIdx 0).map fun x => (x.2, x.1)) = [(0, v)] := rfl
  rw [e] at h1
  rw [h1]
  congr 1
  apply Array.ext_getElem?
  intro k
  rw [h3 k]
  by_cases hk : k < s
  · rw [if_pos ⟨by omega, by simpa using hk⟩, Nat.div_eq_of_lt hk, Nat.mod_eq_of_lt hk]; rfl
  · rw [if_neg (by simp; omega), Array.getElem?_eq_none (by omega), Array.getElem?_eq_none (by omega)]
theorem wp_slice1 (hu : P.underlying t = some (.slice T)) (hinfo : (P.info? T).map (fun i => (i.zero, i.size, i.bytes)) = some (some z, C, bytes)) (hz : z.cells.size = C) (h0 : 0 < C) (hC : C ≤ 1000)
    {w : World} {o : Oper} {a : Act} {K : Act → World → Prop} {Q : Exit → Act → World → Prop} (x : Operand) (ho : o.op = .buildSlice t 1 #[(0, x)]) (cs : Array Value) (hx : a.eval x = .agg cs) (hs : cs.size = C)
    (h : K (a.put o.dst (.slice (some ⟨w.heap.size, 0, none⟩) 1 1)) (w.alloc (.cells cs T))) : o.wp P a w K Q := by
  obtain ⟨i0, hi, hz0, hz1, hz2⟩ := info_parts hinfo
  refine wp_buildSlice t T 1 #[(0, x)] ho cs i0 z hu hi hz0 (by rw [hz1]; omega) (by rw [hz1]; omega) ?_ h
  have e : (#[((0 : Nat), x)].map fun (i, x) => (i, a.eval x)).toList = [(0, a.eval x)] := by simp
  rw [e, hx, hz1]
  exact fill_one h0 (.agg cs) hs _ (by simp)
/-- A slice of one struct, written down. -/
theorem wpList_slice1 (hu : P.underlying t = some (.slice T)) (hinfo : (P.info? T).map (fun i => (i.zero, i.size, i.bytes)) = some (some z, C, bytes)) (hz : z.cells.size = C) (h0 : 0 < C) (hC : C ≤ 1000)
    {w : World} {ops : Array Oper} {rest : List Oper} {o : Oper} {a : Act} {Q : Exit → Act → World → Prop} (hg : o.guard = none) (x : Operand) (ho : o.op = .buildSlice t 1 #[(0, x)]) (cs : Array Value) (hx : a.eval x = .agg cs) (hs : cs.size = C)
    (h : wpList P ops Q rest (a.put o.dst (.slice (some ⟨w.heap.size, 0, none⟩) 1 1)) (w.alloc (.cells cs T))) : wpList P ops Q (o :: rest) a w := by
  exact wpList_plain hg fun _ hK => wp_slice1 hu hinfo hz h0 hC x ho cs hx hs (hK _ _ h)
/-- The same at a step of a region that draws its order. -/
theorem step_slice1 (hu : P.underlying t = some (.slice T)) (hinfo : (P.info? T).map (fun i => (i.zero, i.size, i.bytes)) = some (some z, C, bytes)) (hz : z.cells.size = C) (h0 : 0 < C) (hC : C ≤ 1000)
    {w : World} {ops : Array Oper} {o : Oper} {a : Act} {K : Act → World → Prop} {Q : Exit → Act → World → Prop} {E : Prop} (hg : o.guard = none) (x : Operand) (ho : o.op = .buildSlice t 1 #[(0, x)]) (cs : Array Value) (hx : a.eval x = .agg cs) (hs : cs.size = C)
    (h : K (a.put o.dst (.slice (some ⟨w.heap.size, 0, none⟩) 1 1)) (w.alloc (.cells cs T))) : if Region.wanted o (yielded ops a.tmps) = true then Oper.wp P o a w K Q else E := by
  have hw : Region.wanted o (yielded ops a.tmps) = true := by simp [Region.wanted, hg]
  rw [if_pos hw]
  exact wp_slice1 hu hinfo hz h0 hC x ho cs hx hs h
end
end Go.Proofs.Ytkkncijbedfdfaa

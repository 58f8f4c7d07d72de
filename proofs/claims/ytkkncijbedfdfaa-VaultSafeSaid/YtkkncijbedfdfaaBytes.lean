/-
  Lists of bytes in memory: those that came in, and those that a call owns; which blocks a call changes.
-/
import Derived.Test.YtkkncijbedfdfaaMem
import Derived.Maps.AppendAt
import Derived.Laws.OwnMore
import Derived.Deep.AppendLies
import Derived.Deep.OwnRows
import Derived.RegionTactic
import Derived.OwnWalk
namespace Go.Proofs.Ytkkncijbedfdfaa
open Go.RowKit
set_option linter.unusedVariables false

/-! ### Which blocks a call changes -/
/-- Of what there was only the blocks of S have turned. -/
structure Chg (S : Nat → Prop) (w w' : World) : Prop where
  os : w'.os = w.os
  tape : w'.tape = w.tape
  output : w'.output = w.output
  size : w.heap.size ≤ w'.heap.size
  block : ∀ k, k < w.heap.size → ¬ S k → w'.heap[k]? = w.heap[k]?
namespace Chg
variable {S S' : Nat → Prop} {w W W' : World}
theorem refl (S : Nat → Prop) (w : World) : Chg S w w := ⟨rfl, rfl, rfl, Nat.le_refl _, fun _ _ _ => rfl⟩
theorem of_below {B : Nat} (h : Below B w W) (hB : w.heap.size ≤ B) : Chg S w W := ⟨h.os, h.tape, h.output, h.size, fun k hk _ => h.block k (Nat.lt_of_lt_of_le hk hB)⟩
theorem andThen (h : Chg S w W) (h' : Chg S' W W') (hS : ∀ k, S' k → S k ∨ w.heap.size ≤ k) : Chg S w W' :=
  ⟨h'.os.trans h.os, h'.tape.trans h.tape, h'.output.trans h.output, Nat.le_trans h.size h'.size, fun k hk hn => (h'.block k (Nat.lt_of_lt_of_le hk h.size) (fun hs => by
    rcases hS k hs with h1 | h1
    · exact hn h1
    · omega)).trans (h.block k hk hn)⟩
theorem mono (h : Chg S w W) (hS : ∀ k, S k → S' k) : Chg S' w W := ⟨h.os, h.tape, h.output, h.size, fun k hk hn => h.block k hk (fun hs => hn (hS k hs))⟩
theorem below_then {B : Nat} (h : Chg S w W) (h' : Below B W W') (hB : W.heap.size ≤ B) : Chg S w W' := h.andThen (of_below (S := fun _ => False) h' hB) (fun _ h => h.elim)
theorem alloc (h : Chg S w W) (o : Obj) : Chg S w (W.alloc o) := h.below_then ((Below.refl _ _).alloc (Nat.le_refl _) o) (Nat.le_refl _)
theorem drew (h : Chg S w W) : Chg S w W.drew := ⟨h.os, h.tape, h.output, h.size, h.block⟩
theorem drewN (h : Chg S w W) (n : Nat) : Chg S w (W.drewN n) := ⟨h.os, h.tape, h.output, h.size, h.block⟩
theorem setCell (h : Chg S w W) {p : Addr} (hp : S p.block ∨ w.heap.size ≤ p.block) (u : Value) : Chg S w (W.setCell p u) :=
  ⟨h.os, h.tape, h.output, by simpa [World.setCell] using h.size, fun k hk hn => (Below.heap_setCell W p u k (fun e => by
    subst e
    rcases hp with h1 | h1
    · exact hn h1
    · omega)).trans (h.block k hk hn)⟩
theorem setRow (h : Chg S w W) {g : Nat} (hp : S g ∨ w.heap.size ≤ g) (cs : Array Value) : Chg S w (W.setRow g cs) :=
  ⟨h.os, h.tape, h.output, by simpa [World.setRow] using h.size, fun k hk hn => by
    rw [← h.block k hk hn]
    have hne : g ≠ k := fun e => by
      subst e
      rcases hp with h1 | h1
      · exact hn h1
      · omega
    unfold World.setRow
    simp [Array.getElem?_modify, hne]⟩
theorem grown (h : Chg S w W) {r : Option Nat} (hg : W.grownBy W' r) (hr : ∀ k, r = some k → S k ∨ w.heap.size ≤ k) : Chg S w W' :=
  h.andThen (S' := fun k => r = some k) ⟨hg.os, hg.tape, hg.output, hg.size, fun k hk hn => hg.block k hk (fun e => hn e.symm)⟩ hr
theorem toBelow {B : Nat} (h : Chg S w W) (hS : ∀ k, S k → B ≤ k) (hB : B ≤ w.heap.size) : Below B w W := ⟨h.os, h.tape, h.output, h.size, fun k hk => h.block k (by omega) (fun hs => by have := hS k hs; omega)⟩
theorem cell (h : Chg S w W) {b : Nat} (hb : b < w.heap.size) (hn : ¬ S b) (o : Nat) : W.cell? ⟨b, o, none⟩ = w.cell? ⟨b, o, none⟩ := World.cell?_of_block (h.block b hb hn)
theorem row (h : Chg S w W) {g : Nat} (hb : g < w.heap.size) (hn : ¬ S g) : row W g = row w g := by
  unfold Go.Proofs.Ytkkncijbedfdfaa.row
  rw [h.block g hb hn]
end Chg
theorem below_drewN {B : Nat} {a w : World} (h : Below B a w) (n : Nat) : Below B a (w.drewN n) := ⟨h.os, h.tape, h.output, h.size, h.block⟩
/-! ### Bytes that are read -/
/-- A slice that reads as these bytes. -/
def Bys (w : World) (A : Option Addr) (xs : List Nat) : Prop :=
  0 < xs.length → ∃ b off, A = some ⟨b, off, none⟩ ∧ b < w.heap.size ∧ ∀ i, i < xs.length → w.cell? ⟨b, off + i, none⟩ = some (.int .u8 ((xs.getD i 0 : Nat) : Int))
def bytesOk (xs : List Nat) : Prop := ∀ i, xs.getD i 0 < 256
theorem bytesOk.nil : bytesOk [] := fun i => by simp
theorem bytesOk.mem {xs : List Nat} (h : bytesOk xs) : ∀ x ∈ xs, x < 256 := fun x hx => by
  obtain ⟨i, hi, rfl⟩ := List.mem_iff_getElem.1 hx
  have := h i
  rwa [List.getD_eq_getElem?_getD, List.getElem?_eq_getElem hi] at this
theorem bytesOk.of {xs : List Nat} (h : ∀ x ∈ xs, x < 256) : bytesOk xs := fun i => by
  rw [List.getD_eq_getElem?_getD]
  rcases Nat.lt_or_ge i xs.length with hi | hi
  · rw [List.getElem?_eq_getElem hi]; exact h _ (List.getElem_mem hi)
  · rw [List.getElem?_eq_none hi]; simp
theorem bytesOk.append {xs ys : List Nat} (h : bytesOk xs) (k : bytesOk ys) : bytesOk (xs ++ ys) := .of fun x hx => by
  rcases List.mem_append.1 hx with hx | hx
  · exact h.mem x hx
  · exact k.mem x hx
theorem bytesOk.drop {xs : List Nat} (h : bytesOk xs) (k : Nat) : bytesOk (xs.drop k) := .of fun x hx => h.mem x (List.mem_of_mem_drop hx)
theorem bytesOk.take {xs : List Nat} (h : bytesOk xs) (k : Nat) : bytesOk (xs.take k) := .of fun x hx => h.mem x (List.mem_of_mem_take hx)
theorem Bys.nil (w : World) (A : Option Addr) : Bys w A [] := fun h => by simp at h
theorem Bys.chg {w w' : World} {A : Option Addr} {xs : List Nat} {S : Nat → Prop} (h : Bys w A xs) (hc : Chg S w w') (hS : ∀ a, A = some a → ¬ S a.block) : Bys w' A xs := fun hn => by
  obtain ⟨b, off, e, hg, hcell⟩ := h hn
  exact ⟨b, off, e, Nat.lt_of_lt_of_le hg hc.size, fun i hi => (hc.cell hg (hS _ e) _).trans (hcell i hi)⟩
theorem Bys.chg' {w w' : World} {A : Option Addr} {xs : List Nat} {S : Nat → Prop} (h : Bys w A xs) (hc : Chg S w w') (hS : 0 < xs.length → ∀ a, A = some a → ¬ S a.block) : Bys w' A xs := fun hn => h.chg hc (hS hn) hn
theorem Bys.lt {w : World} {A : Option Addr} {xs : List Nat} (h : Bys w A xs) (hp : 0 < xs.length) : ∀ a, A = some a → a.block < w.heap.size := fun a ha => by
  obtain ⟨b, off, e, hb, _⟩ := h hp
  rw [e] at ha; cases ha; exact hb
theorem Bys.below {w w' : World} {A : Option Addr} {xs : List Nat} {B : Nat} (h : Bys w A xs) (hb : Below B w w') (hB : w.heap.size ≤ B) : Bys w' A xs := h.chg (Chg.of_below (S := fun _ => False) hb hB) (fun _ _ h => h)
theorem Bys.stay {w w' : World} {A : Option Addr} {xs : List Nat} (h : Bys w A xs) (hb : Below w.heap.size w w') : Bys w' A xs := h.below hb (Nat.le_refl _)
/-- A piece of a slice: 's[i:j]', the address as the model gives it. -/
theorem Bys.cut {w : World} {b off : Nat} {xs : List Nat} (h : Bys w (some ⟨b, off, none⟩) xs) (i k : Nat) (hk : i + k ≤ xs.length) : Bys w (some ⟨b, off + i, none⟩) ((xs.drop i).take k) := fun hn => by
  have hl : ((xs.drop i).take k).length = k := by simp; omega
  obtain ⟨b', off', e, hg, hcell⟩ := h (by omega)
  cases e
  refine ⟨b, off + i, rfl, hg, fun j hj => ?_⟩
  rw [hl] at hj
  rw [Nat.add_assoc, hcell (i + j) (by omega)]
  congr 3
  rw [List.getD_eq_getElem?_getD, List.getD_eq_getElem?_getD, List.getElem?_take_of_lt hj, List.getElem?_drop]
/-! ### Bytes that a call owns -/
def OwnB (W : World) (v : Value) (l : List Nat) : Prop := W.ownsRow 0 5 1 v l.length (l.map fun x : Nat => Value.int .u8 ((x : Nat) : Int))
theorem u8_info : (Try.prog.info? 5).map (fun i => (i.zero, i.size, i.bytes)) = some (some (.int .u8 0), 1, 1) := by kernel_rfl
theorem u8s_under : Try.prog.underlying 22 = some (.slice 5) := by kernel_rfl
theorem OwnB.nil (W : World) : OwnB W (.slice none 0 0) [] := World.ownsRow_nil _ _ _ _
theorem OwnB.chg {W W' : World} {v : Value} {l : List Nat} {S : Nat → Prop} (h : OwnB W v l) (hc : Chg S W W') (hS : ∀ k, v.ownBlock = some k → ¬ S k) : OwnB W' v l := by
  refine ⟨h.1, ?_⟩
  rcases h.2 with hn | ⟨g, cap, cur, rfl, hb, hgg, rest⟩
  · exact .inl hn
  · refine .inr ⟨g, cap, cur, rfl, hb, ?_, rest⟩
    rw [hc.block g (Array.getElem?_eq_some_iff.1 hgg).1 (hS g rfl)]
    exact hgg
theorem OwnB.below {W W' : World} {v : Value} {l : List Nat} {B : Nat} (h : OwnB W v l) (hb : Below B W W') (hB : W.heap.size ≤ B) : OwnB W' v l := h.chg (Chg.of_below (S := fun _ => False) hb hB) (fun _ _ h => h)
theorem OwnB.stay {W W' : World} {v : Value} {l : List Nat} (h : OwnB W v l) (hb : Below W.heap.size W W') : OwnB W' v l := h.below hb (Nat.le_refl _)
theorem OwnB.alloc {W : World} {v : Value} {l : List Nat} (h : OwnB W v l) (o : Obj) : OwnB (W.alloc o) v l := World.ownsRow.alloc h o
theorem OwnB.lt {W : World} {v : Value} {l : List Nat} (h : OwnB W v l) : ∀ k, v.ownBlock = some k → k < W.heap.size := fun k hk => (World.ownsRow.lt h k hk).2
theorem OwnB.form {W : World} {v : Value} {l : List Nat} (h : OwnB W v l) : ∃ A c, v = .slice A l.length c ∧ Bys W A l ∧ l.length ≤ 9223372036854775807 ∧ l.length ≤ c ∧ c ≤ 9223372036854775807 ∧ (∀ a, A = some a → v.ownBlock = some a.block) := by
  rcases h.2 with ⟨rfl, h0⟩ | ⟨g, cap, cur, rfl, hg, hb, hn, hm, hs, ht⟩
  · exact ⟨none, 0, by rw [h0], fun hp => by omega, by omega, by omega, by omega, fun a e => by cases e⟩
  · have hlt := (Array.getElem?_eq_some_iff.1 hb).1
    unfold maxLen at hm
    refine ⟨some ⟨g, 0, none⟩, cap, rfl, fun _ => ⟨g, 0, rfl, hlt, fun i hi => ?_⟩, by omega, hn, by omega, fun a e => by cases e; rfl⟩
    have hc := cell_of_row W g (0 + i) cur 5 (0, 0) hb
    rw [hc]
    have h1 : (cur.toList.take (l.length * 1))[i]? = (l.map fun x : Nat => Value.int .u8 ((x : Nat) : Int))[i]? := by rw [ht]
    rw [List.getElem?_take_of_lt (by omega), List.getElem?_map, List.getElem?_eq_getElem hi] at h1
    rw [Nat.zero_add, ← Array.getElem?_toList, h1, List.getD_eq_getElem?_getD, List.getElem?_eq_getElem hi]
    rfl
theorem OwnB.lit (W : World) (l : List Nat) (cs : Array Value) (hl : l.length ≤ 1000000) (h : cs = (l.map fun x : Nat => Value.int .u8 ((x : Nat) : Int)).toArray) : OwnB (W.alloc (.cells cs 5)) (.slice (some ⟨W.heap.size, 0, none⟩) l.length l.length) l := by
  subst h
  exact World.ownsRow_lit (base := 0) W _ l.length (by omega) (by unfold maxLen; omega) (by simp)
theorem run_append_no {W : World} {v : Value} {l : List Nat} (h : OwnB W v l) (ty : TypeId) (c : Nat) : (Builtin.append_ #[22, 22] ty #[v, .slice none 0 c]).run Try.prog W = .ok v W := by
  obtain ⟨i0, hi, hz0, hz1, hz2⟩ := info_parts u8_info
  rcases h.2 with ⟨rfl, h0⟩ | ⟨g, cap, cur, rfl, _, _, hnc, _⟩
  · simp [Builtin.append_, run_underlying u8s_under, sizeOf, typeInfo, hi, Builtin.lenOf, Builtin.firstCells]
  · simp [Builtin.append_, run_underlying u8s_under, sizeOf, typeInfo, hi, Builtin.lenOf, Builtin.firstCells, hnc, storeCells]
/-- What append leaves: a list of the call's own, in its old block or in a new one. -/
def Appended (W : World) (v : Value) (l m : List Nat) (v' : Value) (W' : World) : Prop := OwnB W' v' (l ++ m) ∧ W.grownBy W' v.ownBlock ∧ (v'.ownBlock = v.ownBlock ∨ v'.ownBlock = some W.heap.size)
theorem Appended.form {W : World} {v : Value} {l m : List Nat} {v' : Value} {W' : World} (h : Appended W v l m v' W') : ∃ A c, v' = .slice A (l.length + m.length) c := by
  obtain ⟨A, c, e, _⟩ := h.1.form
  exact ⟨A, c, by rw [e, List.length_append]⟩
theorem run_appb {W : World} {v : Value} {l m : List Nat} (h : OwnB W v l) {A : Option Addr} (ty : TypeId) (c : Nat) (hm : Bys W A m) (hlen : l.length + m.length ≤ 70368744177664) :
    ∃ v' W', (Builtin.append_ #[22, 22] ty #[v, .slice A m.length c]).run Try.prog W = .ok v' W' ∧ Appended W v l m v' W' := by
  obtain ⟨i0, hi, hz0, hz1, hz2⟩ := info_parts u8_info
  cases A with
  | none =>
    have h0 : m = [] := by
      rcases Nat.eq_zero_or_pos m.length with h0 | h0
      · exact List.eq_nil_of_length_eq_zero h0
      · obtain ⟨_, _, e, _⟩ := hm h0; cases e
    subst h0
    exact ⟨v, W, run_append_no h ty c, by simpa using h, ⟨rfl, rfl, rfl, Nat.le_refl _, fun _ _ _ => rfl⟩, .inl rfl⟩
  | some a =>
    have hnews : ∀ j u, (m.map fun x : Nat => Value.int .u8 ((x : Nat) : Int))[j]? = some u → W.cell? (a.add j) = some u := fun j u hu => by
      have hj : j < m.length := by
        have := (List.getElem?_eq_some_iff.1 hu).1
        simpa using this
      obtain ⟨b, off, e, _, hc⟩ := hm (by omega)
      cases e
      have hadd : (⟨b, off, none⟩ : Addr).add j = ⟨b, off + j, none⟩ := by unfold Addr.add; split <;> simp_all
      rw [hadd, hc j hj, ← hu, List.getElem?_map, List.getD_eq_getElem?_getD, List.getElem?_eq_getElem hj]
      rfl
    obtain ⟨v', W', h1, h2, h3, _, h5⟩ := run_append_own_at (P := Try.prog) W 0 22 ty 5 i0 (.int .u8 0) 1 1 u8s_under hi hz0 hz1 hz2 rfl (by decide) v l.length _ h a m.length c (m.map fun x : Nat => Value.int .u8 ((x : Nat) : Int)) (by simp) hnews
      (fun u hu => by obtain ⟨x, _, rfl⟩ := List.mem_map.1 hu; rfl) (by unfold maxLen; omega) (by omega) (by omega)
    refine ⟨v', W', h1, ?_, h3, h5⟩
    unfold OwnB
    rw [List.length_append, List.map_append]
    exact h2
theorem wp_appb {W : World} {o : Oper} {a : Act} {K : Act → World → Prop} {Q : Exit → Act → World → Prop} (s x : Operand)
    (ho : o.op = .call { callee := .builtin .append, args := #[s, x], argTypes := #[22, 22] })
    (v : Value) (l m : List Nat) (A : Option Addr) (n c : Nat) (h : OwnB W v l) (hm : Bys W A m) (hs : a.eval s = v) (hx : a.eval x = .slice A n c) (hn : m.length = n) (hlen : l.length + m.length ≤ 70368744177664)
    (hk : ∀ v' W', Appended W v l m v' W' → K (a.put o.dst v') W') : o.wp Try.prog a W K Q := by
  subst hn
  obtain ⟨v', W', hr, h2⟩ := run_appb h o.type c hm hlen
  unfold Oper.wp execOp
  simp only [ho, resolve, invoke, builtin, Sem.run_bind, Sem.run_pure, Result.andThen_ok, List.map_toArray, List.map_cons, List.map_nil, hs, hx, hr]
  exact hk v' W' h2
theorem wpList_appb {W : World} {ops : Array Oper} {rest : List Oper} {o : Oper} {a : Act} {Q : Exit → Act → World → Prop} (hgd : o.guard = none) (s x : Operand)
    (ho : o.op = .call { callee := .builtin .append, args := #[s, x], argTypes := #[22, 22] })
    (v : Value) (l m : List Nat) (A : Option Addr) (n c : Nat) (h : OwnB W v l) (hm : Bys W A m) (hs : a.eval s = v) (hx : a.eval x = .slice A n c) (hn : m.length = n) (hlen : l.length + m.length ≤ 70368744177664)
    (hk : ∀ v' W', Appended W v l m v' W' → wpList Try.prog ops Q rest (a.put o.dst v') W') : wpList Try.prog ops Q (o :: rest) a W :=
  wpList_plain hgd fun _ hK => wp_appb s x ho v l m A n c h hm hs hx hn hlen fun v' W' h2 => hK _ _ (hk v' W' h2)
theorem byte_new (W : World) (z : Int) (x : Nat) (h : z = (x : Int)) : Bys (W.alloc (.cells #[.int .u8 z] 5)) (some ⟨W.heap.size, 0, none⟩) [x] := fun _ => by
  subst h
  refine ⟨W.heap.size, 0, rfl, by simp, fun i hi => ?_⟩
  obtain rfl : i = 0 := by simpa using hi
  exact row_cell (row_at W _ _ _ rfl) 0
theorem bytes_new (W : World) (l : List Nat) (cs : Array Value) (h : cs = (l.map fun x : Nat => Value.int .u8 ((x : Nat) : Int)).toArray) : Bys (W.alloc (.cells cs 5)) (some ⟨W.heap.size, 0, none⟩) l := fun _ => by
  refine ⟨W.heap.size, 0, rfl, by simp, fun i hi => ?_⟩
  rw [row_cell (row_at W cs 5 _ rfl) (0 + i), h, Nat.zero_add]
  simp [hi]
end Go.Proofs.Ytkkncijbedfdfaa

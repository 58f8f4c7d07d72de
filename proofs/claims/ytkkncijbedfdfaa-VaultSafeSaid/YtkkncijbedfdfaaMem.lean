/-
  Small laws of memory: blocks that are known whole; structs loaded and stored in one step.
-/
import Derived.Test.YtkkncijbedfdfaaRows
import Derived.WalkKit
import Derived.WalkSpells
import Derived.WalkLawsBesides
import Derived.Lib.Hide
import Derived.Deep.QuietTactic
import Derived.BigQuiet
import Derived.Deep.RegionWith
import Derived.Deep.RegionHeld3
namespace Go.Proofs.Ytkkncijbedfdfaa
open Go.RowKit
set_option linter.unusedVariables false

theorem bcell {W w1 : World} (hb : Below W.heap.size W w1) : (∀ b o, b < W.heap.size → w1.cell? ⟨b, o, none⟩ = W.cell? ⟨b, o, none⟩) ∧ (∀ b o, b < W.heap.size → w1.frozen? ⟨b, o, none⟩ = W.frozen? ⟨b, o, none⟩) :=
  ⟨fun b o h => hb.cell (p := ⟨b, o, none⟩) h, fun b o h => hb.frozen (p := ⟨b, o, none⟩) h⟩
theorem ret_bool {a b : Bool} (h : a = b) : Ending.returned (.bool a) = .returned (.bool b) := by rw [h]
theorem ret_ii {k k' : IntKind} {a b a' b' : Int} (h : a = a') (h' : b = b') : Ending.returned (.tuple #[.int k a, .int k' b]) = .returned (.tuple #[.int k a', .int k' b']) := by rw [h, h']
theorem ret_int {k : IntKind} {a b : Int} (h : a = b) : Ending.returned (.int k a) = .returned (.int k b) := by rw [h]

/-- A call that leaves the world alone, in a region that only reads: the first one, and one behind others. -/
theorem calm_more {P : Program} {f : FuncId} {args : Array Value} {w : World} {a n : Nat} {v : Value} (h : Calls P f args (w.drewN (a + n)) fun e w' => e = .returned v ∧ w' = w.drewN (a + n)) :
    Calls P f args (w.drewN (a + n)) fun e w'' => e = .returned v ∧ ∃ m, w'' = w.drewN (a + m) :=
  h.mono fun _ _ ⟨he, hw⟩ => ⟨he, n, hw⟩
def i64ok (n : Int) : Prop := -9223372036854775808 ≤ n ∧ n ≤ 9223372036854775807
theorem Below.allocT {w W : World} (h : Below w.heap.size w W) (o : Obj) : Below w.heap.size w (W.alloc o) := h.alloc h.size o
theorem Below.then {w W w1 : World} (h : Below w.heap.size w W) (hb : Below W.heap.size W w1) : Below w.heap.size w w1 := h.trans (hb.mono h.size)
theorem Below.then' {w W w1 : World} {B : Nat} (h : Below w.heap.size w W) (hb : Below B W w1) (hB : w.heap.size ≤ B) : Below w.heap.size w w1 := h.trans (hb.mono hB)

section
variable (w : World)
theorem heap_at (o : Obj) (n : Nat) (hn : n = w.heap.size) : (w.alloc o).heap[n]? = some o := by subst hn; show (w.heap.push o)[w.heap.size]? = _; simp
theorem heap_past (o : Obj) (n : Nat) (hn : n < w.heap.size) : (w.alloc o).heap[n]? = w.heap[n]? := by show (w.heap.push o)[n]? = _; rw [Array.getElem?_push, if_neg (Nat.ne_of_lt hn)]
theorem heap_drew (n : Nat) : w.drew.heap[n]? = w.heap[n]? := rfl
theorem heap_drewN (k n : Nat) : (w.drewN k).heap[n]? = w.heap[n]? := rfl
end

/-- A store of a whole struct into a block of its own: the newest block, or one that lies under others. -/
theorem setRow_new (w : World) (old new : Array Value) (t : TypeId) (n : Nat) (hn : n = w.heap.size) : (w.alloc (.cells old t)).setRow n new = w.alloc (.cells new t) := by
  subst hn
  unfold World.setRow World.alloc
  congr 1
  apply Array.ext
  · simp
  · intro k h1 h2
    simp only [Array.getElem_modify, Array.getElem_push]
    by_cases hk : w.heap.size = k
    · subst hk; simp
    · rw [if_neg hk]
      split
      · rfl
      · simp at h2; omega
theorem setRow_past (w : World) (o : Obj) (new : Array Value) (n : Nat) (hn : n < w.heap.size) : (w.alloc o).setRow n new = (w.setRow n new).alloc o := by
  unfold World.setRow World.alloc
  congr 1
  apply Array.ext
  · simp
  · intro k h1 h2
    simp only [Array.getElem_modify, Array.getElem_push, Array.size_modify]
    by_cases hk : n = k
    · subst hk; simp [hn]
    · rw [if_neg hk]
      split
      · rename_i h3; simp
      · rfl
theorem setRow_drew (w : World) (new : Array Value) (n : Nat) : w.drew.setRow n new = (w.setRow n new).drew := rfl
theorem Below.setRow {B : Nat} {a w : World} (h : Below B a w) {g : Nat} (hp : B ≤ g) (cs : Array Value) : Below B a (w.setRow g cs) :=
  ⟨h.os, h.tape, h.output, by simpa using h.size, fun k hk => by
    rw [← h.block k hk]
    unfold World.setRow
    simp [Array.getElem?_modify, show g ≠ k by omega]⟩

section
variable {P : Program}
theorem wpList_build_to {ops : Array Oper} {rest : List Oper} {o : Oper} {a : Act} {w : World} {Q : Exit → Act → World → Prop} (cs : Array Value) (hg : o.guard = none) (t : TypeId) (parts : Array (Nat × Operand)) (ho : o.op = .build t parts)
    (hf : P.built t (parts.map fun (i, x) => (i, a.eval x)).toList = some cs)
    (h : wpList P ops Q rest (a.put o.dst (.agg cs)) w) : wpList P ops Q (o :: rest) a w :=
  wpList_build hg t parts ho (by rw [hf]; rfl) (by rw [hf]; exact h)
end
/-- What a block holds, if it is known whole and none of it is frozen. -/
def row (W : World) (g : Nat) : Option (Array Value) := match W.heap[g]? with
  | some (.cells cs _ f) => if f = (0, 0) then some cs else none
  | _ => none
theorem row_at (w : World) (c : Array Value) (t : TypeId) (n : Nat) (hn : n = w.heap.size) : row (w.alloc (.cells c t)) n = some c := by
  unfold row; rw [heap_at w _ n hn]; rfl
theorem row_past (w : World) (o : Obj) (n : Nat) (hn : n < w.heap.size) : row (w.alloc o) n = row w n := by
  unfold row; rw [heap_past w _ n hn]
theorem row_drew (w : World) (n : Nat) : row w.drew n = row w n := rfl
theorem row_drewN (w : World) (k n : Nat) : row (w.drewN k) n = row w n := rfl
theorem row_far (w : World) (p : Addr) (u : Value) (n : Nat) (hn : n ≠ p.block) : row (w.setCell p u) n = row w n := by
  unfold row; rw [Below.heap_setCell w p u n hn]
theorem row_heap {W : World} {g : Nat} {cs : Array Value} (h : row W g = some cs) : ∃ t, W.heap[g]? = some (.cells cs t (0, 0)) := by
  unfold row at h
  split at h
  · rename_i c t f he
    split at h
    · rename_i hf; subst hf; exact ⟨t, by rw [he]; simpa using h⟩
    · cases h
  · cases h
theorem row_below {B : Nat} {w w' : World} (h : Below B w w') {g : Nat} (hg : g < B) : row w' g = row w g := by
  unfold row; rw [h.block g hg]
theorem row_lt {w : World} {g : Nat} {cs : Array Value} (h : row w g = some cs) : g < w.heap.size := by
  obtain ⟨t, ht⟩ := row_heap h
  rcases Nat.lt_or_ge g w.heap.size with hlt | hge
  · exact hlt
  · rw [Array.getElem?_eq_none hge] at ht; cases ht
theorem row_cell {w : World} {g : Nat} {cs : Array Value} (h : row w g = some cs) (i : Nat) : w.cell? ⟨g, i, none⟩ = cs[i]? := by
  obtain ⟨t, ht⟩ := row_heap h
  exact cell_of_row w g i cs t (0, 0) ht
theorem row_frozen {w : World} {g : Nat} {cs : Array Value} (h : row w g = some cs) (i : Nat) : w.frozen? ⟨g, i, none⟩ = false := by
  obtain ⟨t, ht⟩ := row_heap h
  simp [World.frozen?, ht]
theorem row_set {w : World} {g : Nat} {cs : Array Value} (h : row w g = some cs) (i : Nat) (u : Value) : row (w.setCell ⟨g, i, none⟩ u) g = some (cs.setIfInBounds i u) := by
  obtain ⟨t, ht⟩ := row_heap h
  unfold row
  have : (w.setCell ⟨g, i, none⟩ u).heap[g]? = some (.cells (cs.setIfInBounds i u) t (0, 0)) := by
    unfold World.setCell
    simp [Array.getElem?_modify, ht]
  rw [this]; rfl
/-- What lies in a lies in w, unturned: for a region that draws its order. -/
abbrev Stays (a w : World) : Prop := Below a.heap.size a w ∧ (∀ b o, b < a.heap.size → w.cell? ⟨b, o, none⟩ = a.cell? ⟨b, o, none⟩) ∧ (∀ b, b < a.heap.size → row w b = row a b)
theorem stays_of {a w : World} (h : Below a.heap.size a w) : Stays a w := ⟨h, fun b o hb => h.cell (p := ⟨b, o, none⟩) hb, fun _ hb => row_below h hb⟩
theorem stays_drew (a : World) : Stays a a.drew := stays_of (Below.refl _ _).drew
theorem stays_step {a W w : World} (hb : Below W.heap.size W w) (h : Stays a W) : Stays a w := stays_of (Below.then h.1 hb)
theorem stays_alloc {a W : World} (h : Stays a W) (o : Obj) : Stays a (W.alloc o) := stays_of (Below.allocT h.1 o)
/-! ### A region that draws its order, whose calls make memory and answer plain numbers: one walk in the text's order -/
section
variable {P : Program} {ops : Array Oper} {W : World}
def OnTop (W : World) : World → Prop := fun w' => Below W.heap.size W w'
theorem wp_region_calm {id : Nat} {Q : Exit → Act → World → Prop} {a : Act} {l : List Oper} (hm : P.follows .mixedOrders = true) (hB : Region.lexB .any l.toArray = true)
    (h : wpQuiet P l.toArray (OnTop W) (fun a' => ∀ w', Below W.heap.size W w' → Q .normal a' w') l a) : (Code.region id l.toArray true).wp P Q a W :=
  wp_region_quiet (C := OnTop W) hm hB ((Below.refl W.heap.size W).drew) (by rw [List.toList_toArray]; exact h)
theorem calm_no {o : Oper} {a : Act} {K : Act → Prop} (hw : Region.wanted o (yielded ops a.tmps) = false) (h : K (a.put o.dst undef)) :
    if Region.wanted o (yielded ops a.tmps) then o.quiet P a (OnTop W) K else K (a.put o.dst undef) := by
  rw [hw]; exact h
theorem calm_go {o : Oper} {a : Act} {K : Act → Prop} {v : Value} (hw : Region.wanted o (yielded ops a.tmps) = true) (hv : ∀ w, Below W.heap.size W w → o.quietAt P a (OnTop W) w v) (h : K (a.put o.dst v)) :
    if Region.wanted o (yielded ops a.tmps) then o.quiet P a (OnTop W) K else K (a.put o.dst undef) := by
  rw [hw]; exact ⟨v, hv, h⟩
theorem calm_call {f : FuncId} {args : Array Value} {w : World} {v : Value} (hb : Below W.heap.size W w) (h : Calls P f args w fun e w' => e = .returned v ∧ Below w.heap.size w w') :
    Calls P f args w fun e w' => e = .returned v ∧ OnTop W w' :=
  h.mono fun _ _ ⟨he, hb'⟩ => ⟨he, Below.then hb hb'⟩
end
def blk (v : Value) : Nat := match v with
  | .pointer (some p) => p.block
  | _ => 0
theorem blk_ptr (g o : Nat) : blk (.pointer (some ⟨g, o, none⟩)) = g := rfl

section
variable {P : Program}
theorem wp_load_agg (T : TypeId) (n : Nat) (d : TypeDesc) (hu : P.underlying T = some d) (hd : (match d with | .struct _ | .array _ _ => true | _ => false) = true) (hi : (P.info? T).map (·.size) = some n)
    {dst : Option Tmp} {x : Operand} {ty : TypeId} {pos : String} {after : Array Edge} {gd : Option (Nat × Bool)} {a : Act} {w : World} {K : Act → World → Prop} {Q : Exit → Act → World → Prop}
    (h1 : a.eval x = .pointer (some ⟨blk (a.eval x), 0, none⟩)) (h2 : (row w (blk (a.eval x))).map (·.size) = some n) :
    Oper.wp P ⟨dst, .load T x, ty, pos, after, gd⟩ a w K Q = K (a.put dst (.agg ((row w (blk (a.eval x))).getD #[]))) w := by
  obtain ⟨cs, hc, hs⟩ := Option.map_eq_some_iff.1 h2
  obtain ⟨t, ht⟩ := row_heap hc
  rw [hc]
  generalize blk (a.eval x) = g at *
  unfold Oper.wp execOp
  simp only [h1, Instr.loadAt, Instr.sureAddr, Sem.run_bind, Sem.run_pure, Result.andThen_ok, run_loadVar_row w g t T cs (0, 0) d ht hu hd (by rw [hi, hs])]
  rfl
theorem quiet_load_agg (T : TypeId) (n : Nat) (d : TypeDesc) (hu : P.underlying T = some d) (hd : (match d with | .struct _ | .array _ _ => true | _ => false) = true) (hi : (P.info? T).map (·.size) = some n)
    {C : World → Prop} {dst : Option Tmp} {x : Operand} {ty : TypeId} {pos : String} {after : Array Edge} {gd : Option (Nat × Bool)} {a : Act} {w : World} {g : Nat} {cs : Array Value}
    (h1 : a.eval x = .pointer (some ⟨g, 0, none⟩)) (h2 : row w g = some cs) (hs : cs.size = n) : Oper.quietAt P ⟨dst, .load T x, ty, pos, after, gd⟩ a C w (.agg cs) := by
  obtain ⟨t, ht⟩ := row_heap h2
  unfold Oper.quietAt execOp
  simp only [h1, Instr.loadAt, Instr.sureAddr, Sem.run_bind, Sem.run_pure, Result.andThen_ok, run_loadVar_row w g t T cs (0, 0) d ht hu hd (by rw [hi, hs])]
  exact ⟨rfl, rfl⟩
def aggOf (v : Value) : Array Value := match v with
  | .agg cs => cs
  | _ => #[]
theorem aggOf_agg (cs : Array Value) : aggOf (.agg cs) = cs := rfl
def allOne (cs : Array Value) : Bool := cs.all (·.oneCell')
theorem wp_store_agg (T : TypeId) (n : Nat) (hi : (P.info? T).map (·.size) = some n)
    {dst : Option Tmp} {x y : Operand} {ty : TypeId} {pos : String} {after : Array Edge} {gd : Option (Nat × Bool)} {a : Act} {w : World} {K : Act → World → Prop} {Q : Exit → Act → World → Prop}
    (h1 : a.eval x = .pointer (some ⟨blk (a.eval x), 0, none⟩)) (h2 : (row w (blk (a.eval x))).map (·.size) = some n)
    (h3 : a.eval y = .agg (aggOf (a.eval y))) (h4 : (aggOf (a.eval y)).size = n) (h5 : allOne (aggOf (a.eval y)) = true) :
    Oper.wp P ⟨dst, .store T x y, ty, pos, after, gd⟩ a w K Q = K (a.put dst undef) (w.setRow (blk (a.eval x)) (aggOf (a.eval y))) := by
  obtain ⟨cs, hc, hs⟩ := Option.map_eq_some_iff.1 h2
  obtain ⟨t, ht⟩ := row_heap hc
  generalize blk (a.eval x) = g at *
  generalize aggOf (a.eval y) = new at *
  unfold Oper.wp execOp
  simp only [h1, h3, Instr.storeAt, Instr.sureAddr, Sem.run_bind, Sem.run_pure, Result.andThen_ok, run_storeVar_row w g t T cs new ht (by rw [hi, h4]) (by omega) h5]
  rfl
end
attribute [go_sem] row_at row_past row_drew row_drewN row_far blk_ptr aggOf_agg heap_at heap_past heap_drew heap_drewN setRow_new setRow_past setRow_drew
end Go.Proofs.Ytkkncijbedfdfaa

/-
  A plate: what is sure, what is pending; how it lies in memory.
-/
import Derived.Test.YtkkncijbedfdfaaOwnA
import Derived.Deep.MidRow
import Derived.Deep.RegionHeld3
namespace Go.Proofs.Ytkkncijbedfdfaa
open Go.RowKit
set_option linter.unusedVariables false

/-- A sector: 64 bytes. -/
def Sec := {d : List Nat // d.length = 64}
def secC (d : Sec) : List Value := d.1.map fun x : Nat => Value.int .u8 ((x : Nat) : Int)
theorem secC_len (d : Sec) : (secC d).length = 64 := by unfold secC; rw [List.length_map, d.2]
theorem secC_one (d : Sec) : ∀ v ∈ secC d, v.oneCell' = true := fun v hv => by
  obtain ⟨x, _, rfl⟩ := List.mem_map.1 hv; rfl
def entC (e : Nat × Sec) : Array Value := (Value.int .i64 (e.1 : Int) :: secC e.2).toArray
theorem entC_size (e : Nat × Sec) : (entC e).size = 65 := by unfold entC; rw [List.size_toArray, List.length_cons, secC_len]
theorem entC_one (e : Nat × Sec) : allOne (entC e) = true := by
  unfold allOne entC
  rw [Array.all_eq_true']
  intro v hv
  rw [List.mem_toArray] at hv
  rcases List.mem_cons.1 hv with rfl | hv
  · rfl
  · exact secC_one _ _ hv
def boolK (b : Bool) : Array Value := #[.bool b]
structure Ps where
  sure : List Sec
  pend : List (Nat × Sec)
  armed : Bool
  left : Int
  keep : List Bool
  down : Bool
def landS (S : List Sec) (e : Nat × Sec) : List Sec := S.set e.1 e.2
theorem landS_len (S : List Sec) (e : Nat × Sec) : (landS S e).length = S.length := by simp [landS]
def Ps.Ok (s : Ps) : Prop := (∀ e ∈ s.pend, e.1 < s.sure.length) ∧ 0 < s.sure.length ∧ i64ok s.left
/-- Does an operation get through? With the one behind the last that does the power goes. -/
def Ps.power (s : Ps) : Bool × Ps :=
  if s.down then (false, s) else if s.armed = true ∧ s.left ≤ 0 then (false, { s with down := true }) else (true, { s with left := IntKind.i64.wrap (s.left - 1) })
def Ps.write (s : Ps) (e : Nat × Sec) : Int × Ps := (if s.power.1 then 0 else 280, { s.power.2 with pend := s.pend ++ [e] })
def Ps.sync (s : Ps) : Int × Ps := if s.power.1 then (0, { s.power.2 with sure := s.pend.foldl landS s.sure, pend := [] }) else (280, s.power.2)
def Ps.arm (s : Ps) (ops : Int) (keep : List Bool) : Ps := if s.down then s else { s with armed := true, left := max ops 0, keep := keep }
/-- The pending writes land of which the power lets any stay. -/
def upL (keep : List Bool) (k : Nat) : List Sec → List (Nat × Sec) → List Sec
  | S, [] => S
  | S, e :: r => upL keep (k + 1) (if keep.getD k false then landS S e else S) r
def Ps.up (s : Ps) : Ps := { sure := upL s.keep 0 s.sure s.pend, pend := [], armed := false, left := 0, keep := [], down := false }
theorem upL_len (keep : List Bool) : ∀ (P : List (Nat × Sec)) (k : Nat) (S : List Sec), (upL keep k S P).length = S.length
  | [], _, _ => rfl
  | e :: r, k, S => by
    rw [upL, upL_len keep r]
    split
    · exact landS_len S e
    · rfl
theorem fold_land_len : ∀ (P : List (Nat × Sec)) (S : List Sec), (P.foldl landS S).length = S.length
  | [], _ => rfl
  | e :: r, S => by rw [List.foldl_cons, fold_land_len r, landS_len]
/-- What is read of a sector: what is sure, or the last that is pending. -/
def seen (i : Nat) (d : Sec) : List (Nat × Sec) → Sec
  | [] => d
  | e :: r => seen i (if e.1 = i then e.2 else d) r
/-! ### In memory -/
theorem sec_under : Try.prog.underlying 79 = some (.array 64 5) := by kernel_rfl
theorem sec_info : (Try.prog.info? 79).map (·.size) = some 64 := by kernel_rfl
theorem ent_under : Try.prog.underlying 81 = some (.struct (Try.prog.fieldsOf 81)) := by kernel_rfl
theorem ent_size : (Try.prog.info? 81).map (·.size) = some 65 := by kernel_rfl
theorem ents_under : Try.prog.underlying 35 = some (.slice 81) := by kernel_rfl
theorem bools_under' : Try.prog.underlying 23 = some (.slice 4) := by kernel_rfl
theorem bool_info : (Try.prog.info? 4).map (fun i => (i.zero, i.size, i.bytes)) = some (some (.bool false), 1, 1) := by kernel_rfl
def PlS (s : Ps) (gs : Nat) (pv : Value) (A : Option Addr) (c : Nat) : Array Value := #[.slice (some ⟨gs, 0, none⟩) s.sure.length s.sure.length, pv, .bool s.armed, .int .i64 s.left, .slice A s.keep.length c, .bool s.down]
structure PlAt (W : World) (g gs : Nat) (pv : Value) (A : Option Addr) (c : Nat) (s : Ps) : Prop where
  row : row W g = some (PlS s gs pv A c)
  sec : ∀ i d, s.sure[i]? = some d → W.rangeAt gs (i * 64) (secC d)
  there : W.there gs 0 (s.sure.length * 64)
  pend : OwnC 81 65 entC W 0 pv s.pend
  keep : SliceOf 1 boolK W A s.keep
  lt : gs < W.heap.size
  klt : ∀ a, A = some a → a.block < W.heap.size
  ne1 : gs ≠ g
  ne2 : pv.ownBlock ≠ some g
  ne3 : pv.ownBlock ≠ some gs
  ne4 : ∀ a, A = some a → a.block ≠ g ∧ a.block ≠ gs ∧ pv.ownBlock ≠ some a.block
  ok : s.Ok
  few : s.pend.length ≤ 50000
  fewk : s.keep.length ≤ 500000
  fews : s.sure.length ≤ 16384
def PS (g gs : Nat) (pv : Value) (A : Option Addr) : Nat → Prop := fun x => x = g ∨ x = gs ∨ pv.ownBlock = some x ∨ ∃ a, A = some a ∧ a.block = x
/-- The plate behind a call: where its blocks lie, and what has turned. -/
def PlTo (w : World) (F : Nat → Prop) (g : Nat) (s : Ps) (W : World) : Prop := ∃ gs pv A c, PlAt W g gs pv A c s ∧ (∀ x, PS g gs pv A x → F x ∨ w.heap.size ≤ x) ∧ Chg F w W
theorem PlAt.blocks {W : World} {g gs : Nat} {pv : Value} {A : Option Addr} {c : Nat} {s : Ps} (h : PlAt W g gs pv A c s) : ∀ x, PS g gs pv A x → x < W.heap.size := fun x hx => by
  rcases hx with rfl | rfl | hx | ⟨a, ha, rfl⟩
  · exact row_lt h.row
  · exact h.lt
  · exact (h.pend.lt x hx).2
  · exact h.klt a ha
theorem PlAt.self {W : World} {g gs : Nat} {pv : Value} {A : Option Addr} {c : Nat} {s : Ps} (h : PlAt W g gs pv A c s) : PlTo W (PS g gs pv A) g s W := ⟨gs, pv, A, c, h, fun x hx => .inl hx, Chg.refl _ _⟩
theorem PlTo.trans {w W W' : World} {F F' : Nat → Prop} {g : Nat} {s' : Ps} (hF : ∀ x, F' x → F x ∨ w.heap.size ≤ x) (hc : Chg F w W) (h : PlTo W F' g s' W') : PlTo w F g s' W' := by
  obtain ⟨gs, pv, A, c, h1, h2, h3⟩ := h
  refine ⟨gs, pv, A, c, h1, fun x hx => ?_, hc.andThen h3 hF⟩
  rcases h2 x hx with h4 | h4
  · exact hF x h4
  · exact .inr (Nat.le_trans hc.size h4)
theorem PlTo.call {P : Program} {f : FuncId} {args : Array Value} {w W : World} {F : Nat → Prop} {g : Nat} {s s' : Ps} {e0 : Ending} (h : PlTo w F g s W)
    (hc : ∀ gs pv A c, PlAt W g gs pv A c s → Calls P f args W fun e w' => e = e0 ∧ PlTo W (PS g gs pv A) g s' w') : Calls P f args W fun e w' => e = e0 ∧ PlTo w F g s' w' := by
  obtain ⟨gs, pv, A, c, h1, h2, h3⟩ := h
  exact (hc gs pv A c h1).mono fun e w' ⟨he, hp⟩ => ⟨he, PlTo.trans h2 h3 hp⟩
theorem range_chg {S : Nat → Prop} {W W' : World} {b o : Nat} {cs : List Value} (h : W.rangeAt b o cs) (hc : Chg S W W') (hb : b < W.heap.size) (hn : ¬ S b) : W'.rangeAt b o cs := fun j v hv => (hc.cell hb hn _).trans (h j v hv)
theorem there_chg {S : Nat → Prop} {W W' : World} {b o n : Nat} (h : W.there b o n) (hc : Chg S W W') (hb : b < W.heap.size) (hn : ¬ S b) : W'.there b o n := fun j hj => by
  rw [hc.cell hb hn]
  refine ⟨(h j hj).1, ?_⟩
  rw [World.frozen?_of_block (hc.block b hb hn)]
  exact (h j hj).2
theorem PlAt.chg {W W' : World} {g gs : Nat} {pv : Value} {A : Option Addr} {c : Nat} {s : Ps} {S : Nat → Prop} (h : PlAt W g gs pv A c s) (hc : Chg S W W') (hS : ∀ x, PS g gs pv A x → ¬ S x) : PlAt W' g gs pv A c s :=
  ⟨(hc.row (row_lt h.row) (hS g (.inl rfl))).trans h.row, fun i d hd => range_chg (h.sec i d hd) hc h.lt (hS gs (.inr (.inl rfl))), there_chg h.there hc h.lt (hS gs (.inr (.inl rfl))), h.pend.chg hc (fun k hk => hS k (.inr (.inr (.inl hk)))), h.keep.chg hc (fun a ha => hS _ (.inr (.inr (.inr ⟨a, ha, rfl⟩)))), Nat.lt_of_lt_of_le h.lt hc.size, fun a ha => Nat.lt_of_lt_of_le (h.klt a ha) hc.size, h.ne1, h.ne2, h.ne3, h.ne4, h.ok, h.few, h.fewk, h.fews⟩
theorem PlAt.stay {W W' : World} {g gs : Nat} {pv : Value} {A : Option Addr} {c : Nat} {s : Ps} (h : PlAt W g gs pv A c s) (hb : Below W.heap.size W W') : PlAt W' g gs pv A c s := h.chg (Chg.of_below (S := fun _ => False) hb (Nat.le_refl _)) (fun _ _ h => h)
theorem PlTo.below {w W W' : World} {F : Nat → Prop} {g : Nat} {s : Ps} (h : PlTo w F g s W) (hb : Below W.heap.size W W') : PlTo w F g s W' := by
  obtain ⟨gs, pv, A, c, h1, h2, h3⟩ := h
  exact ⟨gs, pv, A, c, h1.stay hb, h2, h3.below_then hb (Nat.le_refl _)⟩
theorem PlAt.cells {W : World} {g gs : Nat} {pv : Value} {A : Option Addr} {c : Nat} {s : Ps} (h : PlAt W g gs pv A c s) (i : Nat) : W.cell? ⟨g, i, none⟩ = (PlS s gs pv A c)[i]? := row_cell h.row i
theorem PlAt.free {W : World} {g gs : Nat} {pv : Value} {A : Option Addr} {c : Nat} {s : Ps} (h : PlAt W g gs pv A c s) (i : Nat) : W.frozen? ⟨g, i, none⟩ = false := row_frozen h.row i
/-- The plate's head turned, all else as it was. -/
theorem PlAt.head {W W' : World} {g gs : Nat} {pv : Value} {A : Option Addr} {c : Nat} {s s' : Ps} (h : PlAt W g gs pv A c s) (hc : Chg (fun x => x = g) W W') (hr : Go.Proofs.Ytkkncijbedfdfaa.row W' g = some (PlS s' gs pv A c)) (h1 : s'.sure = s.sure) (h2 : s'.pend = s.pend) (h3 : s'.keep = s.keep) (h4 : s'.Ok) : PlTo W (PS g gs pv A) g s' W' :=
  ⟨gs, pv, A, c, ⟨hr, by rw [h1]; exact fun i d hd => range_chg (h.sec i d hd) hc h.lt h.ne1, by rw [h1]; exact there_chg h.there hc h.lt h.ne1, by rw [h2]; exact h.pend.chg hc (fun k hk e => h.ne2 (by rw [hk]; exact congrArg some e)), by rw [h3]; exact h.keep.chg hc (fun a ha => (h.ne4 a ha).1), Nat.lt_of_lt_of_le h.lt hc.size, fun a ha => Nat.lt_of_lt_of_le (h.klt a ha) hc.size, h.ne1, h.ne2, h.ne3, h.ne4, h4, by rw [h2]; exact h.few, by rw [h3]; exact h.fewk, by rw [h1]; exact h.fews⟩, fun x hx => .inl hx, hc.mono (fun k hk => .inl hk)⟩
end Go.Proofs.Ytkkncijbedfdfaa

/-
  The ops of a vault's play, as they come in; what a first opening is begun with.
-/
import Derived.Test.YtkkncijbedfdfaaOpenB
import Derived.Test.YtkkncijbedfdfaaOpenS
import Derived.Test.YtkkncijbedfdfaaPlate
namespace Go.Proofs.Ytkkncijbedfdfaa
open Go.ChangeShapes Go.WideShapes Go.ChangeAt Go.RowKit Go.Deep
set_option linter.unusedVariables false

structure Op29 where
  kind : Int
  i : Int
  A : Option Addr
  c : Nat
  b : List Nat
  K : Option Addr
  d : Nat
  keep : List Bool
def Op29.cells (o : Op29) : Array Value := #[.int .i64 o.kind, .int .i64 o.i, .slice o.A o.b.length o.c, .slice o.K o.keep.length o.d]
structure Op29.Ok (W : World) (o : Op29) : Prop where
  kind : i64ok o.kind
  i : i64ok o.i
  b : BysIn W o.A o.c o.b
  len : o.keep.length ≤ 9223372036854775807
  keep : SliceOf 1 boolK W o.K o.keep
theorem op29_cells {W : World} {b o : Nat} {x : Op29} (h : W.rangeAt b o x.cells.toList) : W.cell? ⟨b, o, none⟩ = some (.int .i64 x.kind) ∧ W.cell? ⟨b, o + 1, none⟩ = some (.int .i64 x.i) ∧ W.cell? ⟨b, o + 2, none⟩ = some (.slice x.A x.b.length x.c) ∧ W.cell? ⟨b, o + 3, none⟩ = some (.slice x.K x.keep.length x.d) :=
  ⟨h 0 _ rfl, h 1 _ rfl, h 2 _ rfl, h 3 _ rfl⟩
structure St29 where
  A : Option Addr
  c : Nat
  b : List Nat
  A2 : Option Addr
  c2 : Nat
  b2 : List Nat
  K : Option Addr
  d : Nat
  keep : List Bool
def St29.cells (o : St29) : Array Value := #[.slice o.A o.b.length o.c, .slice o.A2 o.b2.length o.c2, .slice o.K o.keep.length o.d]
structure St29.Ok (W : World) (o : St29) : Prop where
  b : BysIn W o.A o.c o.b
  b2 : BysIn W o.A2 o.c2 o.b2
  len : o.keep.length ≤ 9223372036854775807
  keep : SliceOf 1 boolK W o.K o.keep
theorem boolsV_under : Try.prog.underlying 23 = some (.slice 4) := by kernel_rfl
theorem boolsV_cs {H : Type} {enc : TypeId × Value → H} {W : World} {spare : Nat → Bool} {held : Bool} (cs : List Value) (fuel : Nat) (x : DataW H × List MemPlace) (hx : DataW.trod enc Try.prog W 0 spare held fuel 4 cs = some x) : ∃ a : Bool, cs = (boolK a).toList ∧ True := by
  obtain ⟨y, hy, _⟩ := DataW.trod_bool under_bool hx
  exact ⟨y, hy, trivial⟩
theorem op29_under : Try.prog.underlying 25 = some (.struct (Try.prog.fieldsOf 25)) := by kernel_rfl
set_option maxRecDepth 100000 in
theorem open_op29_cs {H : Type} {enc : TypeId × Value → H} {W : World} {spare : Nat → Bool} {held : Bool} {l : List Value} {fuel : Nat} {x : DataW H × List MemPlace} (hx : DataW.trod enc Try.prog W 0 spare held fuel 25 l = some x) : ∃ o : Op29, l = o.cells.toList ∧ o.Ok W := by
  obtain ⟨hlen, hF⟩ := flat_cells op29_under hx
  have hlen' : l.length = 4 := hlen.trans (by kernel_rfl)
  obtain ⟨a0, e0, o0⟩ := at_i64 under_i64 cells_i64 (hF 0 3 0 (by kernel_rfl))
  obtain ⟨a1, e1, o1⟩ := at_i64 under_i64 cells_i64 (hF 1 3 1 (by kernel_rfl))
  obtain ⟨A, c, b, e2, o2⟩ := at_bytes (hF 2 22 2 (by kernel_rfl))
  obtain ⟨K, n, d, xs, e3, hn, _, hl, hs⟩ := at_slice 1 boolK (fun _ => True) boolsV_under (by kernel_rfl) (by omega) (by kernel_rfl) boolsV_cs (hF 3 23 3 (by kernel_rfl))
  subst hn
  refine ⟨⟨a0, a1, A, c, b, K, d, xs⟩, list_ext 4 hlen' rfl (fun i hi => ?_), o0, o1, o2, hl, hs⟩
  match i with
  | 0 => exact e0
  | 1 => exact e1
  | 2 => exact e2
  | 3 => exact e3
  | n + 4 => omega
set_option maxRecDepth 100000 in
theorem open_op29 {H : Type} {enc : TypeId × Value → H} {W : World} {spare : Nat → Bool} {held : Bool} {r : Reach} {b0 : Nat} {v : Value} {d : DataW H} {p : List MemPlace}
    (hv : Value.okWide Try.prog W r b0 25 v) (h : DataW.Trod enc Try.prog W 0 spare held 25 v d p) : ∃ o : Op29, v = .agg o.cells ∧ o.Ok W := by
  obtain ⟨⟨l⟩, rfl, _⟩ := okWide_struct op29_under hv
  obtain ⟨fuel, hf⟩ := h
  obtain ⟨o, rfl, ho⟩ := open_op29_cs hf
  exact ⟨o, rfl, ho⟩
theorem op29s_under : Try.prog.underlying 28 = some (.slice 25) := by kernel_rfl
set_option maxRecDepth 100000 in
theorem open_op29s {H : Type} {enc : TypeId × Value → H} {W : World} {spare : Nat → Bool} {held : Bool} {r : Reach} {b0 : Nat} {v : Value} {d : DataW H} {p : List MemPlace}
    (hv : Value.okWide Try.prog W r b0 28 v) (h : DataW.Trod enc Try.prog W 0 spare held 28 v d p) :
    ∃ A n c xs, v = .slice A n c ∧ xs.length = n ∧ (∀ x ∈ xs, Op29.Ok W x) ∧ n ≤ 9223372036854775807 ∧ SliceOf 4 Op29.cells W A xs :=
  open_slice_of 4 Op29.cells (Op29.Ok W) op29s_under (by kernel_rfl) (by omega) (fun l fuel x hx => open_op29_cs hx) hv h
theorem st29_under : Try.prog.underlying 55 = some (.struct (Try.prog.fieldsOf 55)) := by kernel_rfl
set_option maxRecDepth 100000 in
theorem open_st29_cs {H : Type} {enc : TypeId × Value → H} {W : World} {spare : Nat → Bool} {held : Bool} {l : List Value} {fuel : Nat} {x : DataW H × List MemPlace} (hx : DataW.trod enc Try.prog W 0 spare held fuel 55 l = some x) : ∃ o : St29, l = o.cells.toList ∧ o.Ok W := by
  obtain ⟨hlen, hF⟩ := flat_cells st29_under hx
  have hlen' : l.length = 3 := hlen.trans (by kernel_rfl)
  obtain ⟨A, c, b, e0, o0⟩ := at_bytes (hF 0 22 0 (by kernel_rfl))
  obtain ⟨A2, c2, b2, e1, o1⟩ := at_bytes (hF 1 22 1 (by kernel_rfl))
  obtain ⟨K, n, d, xs, e2, hn, _, hl, hs⟩ := at_slice 1 boolK (fun _ => True) boolsV_under (by kernel_rfl) (by omega) (by kernel_rfl) boolsV_cs (hF 2 23 2 (by kernel_rfl))
  subst hn
  refine ⟨⟨A, c, b, A2, c2, b2, K, d, xs⟩, list_ext 3 hlen' rfl (fun i hi => ?_), o0, o1, hl, hs⟩
  match i with
  | 0 => exact e0
  | 1 => exact e1
  | 2 => exact e2
  | n + 3 => omega
set_option maxRecDepth 100000 in
theorem open_st29 {H : Type} {enc : TypeId × Value → H} {W : World} {spare : Nat → Bool} {held : Bool} {r : Reach} {b0 : Nat} {v : Value} {d : DataW H} {p : List MemPlace}
    (hv : Value.okWide Try.prog W r b0 55 v) (h : DataW.Trod enc Try.prog W 0 spare held 55 v d p) : ∃ o : St29, v = .agg o.cells ∧ o.Ok W := by
  obtain ⟨⟨l⟩, rfl, _⟩ := okWide_struct st29_under hv
  obtain ⟨fuel, hf⟩ := h
  obtain ⟨o, rfl, ho⟩ := open_st29_cs hf
  exact ⟨o, rfl, ho⟩
end Go.Proofs.Ytkkncijbedfdfaa

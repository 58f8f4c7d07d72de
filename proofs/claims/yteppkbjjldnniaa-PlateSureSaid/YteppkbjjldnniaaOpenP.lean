/-
  The ops of a plate's play, as they come in.
-/
import Derived.Test.YteppkbjjldnniaaOpenS
import Derived.Test.YteppkbjjldnniaaPlate
namespace Go.Proofs.Yteppkbjjldnniaa
open Go.ChangeShapes Go.WideShapes Go.ChangeAt Go.RowKit Go.Deep
set_option linter.unusedVariables false

structure Op28 where
  kind : Int
  i : Int
  b : Nat
  short : Bool
  A : Option Addr
  c : Nat
  keep : List Bool
def Op28.cells (o : Op28) : Array Value := #[.int .i64 o.kind, .int .i64 o.i, .int .u8 o.b, .bool o.short, .slice o.A o.keep.length o.c]
structure Op28.Ok (W : World) (o : Op28) : Prop where
  kind : i64ok o.kind
  i : i64ok o.i
  b : o.b < 256
  len : o.keep.length ≤ 9223372036854775807
  keep : SliceOf 1 boolK W o.A o.keep
theorem Op28.Ok.below {W W' : World} {o : Op28} (h : o.Ok W) (hb : Below W.heap.size W W') : o.Ok W' := ⟨h.kind, h.i, h.b, h.len, h.keep.below hb (Nat.le_refl _)⟩
theorem op28_cells {W : World} {b o : Nat} {x : Op28} (h : W.rangeAt b o x.cells.toList) : W.cell? ⟨b, o, none⟩ = some (.int .i64 x.kind) ∧ W.cell? ⟨b, o + 1, none⟩ = some (.int .i64 x.i) ∧ W.cell? ⟨b, o + 2, none⟩ = some (.int .u8 x.b) ∧ W.cell? ⟨b, o + 3, none⟩ = some (.bool x.short) ∧ W.cell? ⟨b, o + 4, none⟩ = some (.slice x.A x.keep.length x.c) :=
  ⟨h 0 _ rfl, h 1 _ rfl, h 2 _ rfl, h 3 _ rfl, h 4 _ rfl⟩
theorem under_i64' : Try.prog.underlying 3 = some (.int .i64) := by kernel_rfl
theorem under_u8' : Try.prog.underlying 5 = some (.int .u8) := by kernel_rfl
theorem under_bool' : Try.prog.underlying 4 = some .bool := by kernel_rfl
theorem bools_cs {H : Type} {enc : TypeId × Value → H} {W : World} {spare : Nat → Bool} {held : Bool} (cs : List Value) (fuel : Nat) (x : DataW H × List MemPlace) (hx : DataW.trod enc Try.prog W 0 spare held fuel 4 cs = some x) : ∃ a : Bool, cs = (boolK a).toList ∧ True := by
  obtain ⟨y, hy, _⟩ := DataW.trod_bool under_bool' hx
  exact ⟨y, hy, trivial⟩
theorem op28_under : Try.prog.underlying 73 = some (.struct (Try.prog.fieldsOf 73)) := by kernel_rfl
set_option maxRecDepth 100000 in
theorem open_op28_cs {H : Type} {enc : TypeId × Value → H} {W : World} {spare : Nat → Bool} {held : Bool} {l : List Value} {fuel : Nat} {x : DataW H × List MemPlace} (hx : DataW.trod enc Try.prog W 0 spare held fuel 73 l = some x) : ∃ o : Op28, l = o.cells.toList ∧ o.Ok W := by
  obtain ⟨hlen, hF⟩ := flat_cells op28_under hx
  have hlen' : l.length = 5 := hlen.trans (by kernel_rfl)
  obtain ⟨a0, e0, o0⟩ := at_i64 under_i64' (by kernel_rfl) (hF 0 3 0 (by kernel_rfl))
  obtain ⟨a1, e1, o1⟩ := at_i64 under_i64' (by kernel_rfl) (hF 1 3 1 (by kernel_rfl))
  obtain ⟨a2, e2, o2⟩ := at_u8 under_u8' (by kernel_rfl) (hF 2 5 2 (by kernel_rfl))
  obtain ⟨a3, e3⟩ := at_bool under_bool' (by kernel_rfl) (hF 3 4 3 (by kernel_rfl))
  obtain ⟨A, n, c, xs, e4, hn, _, hl, hs⟩ := at_slice 1 boolK (fun _ => True) bools_under' (by kernel_rfl) (by omega) (by kernel_rfl) bools_cs (hF 4 64 4 (by kernel_rfl))
  subst hn
  refine ⟨⟨a0, a1, a2, a3, A, c, xs⟩, list_ext 5 hlen' rfl (fun i hi => ?_), o0, o1, o2, hl, hs⟩
  match i with
  | 0 => exact e0
  | 1 => exact e1
  | 2 => exact e2
  | 3 => exact e3
  | 4 => exact e4
  | n + 5 => omega
set_option maxRecDepth 100000 in
theorem open_op28 {H : Type} {enc : TypeId × Value → H} {W : World} {spare : Nat → Bool} {held : Bool} {r : Reach} {b0 : Nat} {v : Value} {d : DataW H} {p : List MemPlace}
    (hv : Value.okWide Try.prog W r b0 73 v) (h : DataW.Trod enc Try.prog W 0 spare held 73 v d p) : ∃ o : Op28, v = .agg o.cells ∧ o.Ok W := by
  obtain ⟨⟨l⟩, rfl, _⟩ := okWide_struct op28_under hv
  obtain ⟨fuel, hf⟩ := h
  obtain ⟨o, rfl, ho⟩ := open_op28_cs hf
  exact ⟨o, rfl, ho⟩
theorem op28s_under : Try.prog.underlying 63 = some (.slice 73) := by kernel_rfl
set_option maxRecDepth 100000 in
theorem open_op28s {H : Type} {enc : TypeId × Value → H} {W : World} {spare : Nat → Bool} {held : Bool} {r : Reach} {b0 : Nat} {v : Value} {d : DataW H} {p : List MemPlace}
    (hv : Value.okWide Try.prog W r b0 63 v) (h : DataW.Trod enc Try.prog W 0 spare held 63 v d p) :
    ∃ A n c xs, v = .slice A n c ∧ xs.length = n ∧ (∀ x ∈ xs, Op28.Ok W x) ∧ n ≤ 9223372036854775807 ∧ SliceOf 5 Op28.cells W A xs :=
  open_slice_of 5 Op28.cells (Op28.Ok W) op28s_under (by kernel_rfl) (by omega) (fun l fuel x hx => open_op28_cs hx) hv h
set_option maxRecDepth 100000 in
theorem open_bools28 {H : Type} {enc : TypeId × Value → H} {W : World} {spare : Nat → Bool} {held : Bool} {r : Reach} {b0 : Nat} {v : Value} {d : DataW H} {p : List MemPlace}
    (hv : Value.okWide Try.prog W r b0 64 v) (h : DataW.Trod enc Try.prog W 0 spare held 64 v d p) :
    ∃ A n c xs, v = .slice A n c ∧ xs.length = n ∧ (∀ x ∈ xs, True) ∧ n ≤ 9223372036854775807 ∧ SliceOf 1 boolK W A xs :=
  open_slice_of 1 boolK (fun x => True) bools_under' (by kernel_rfl) (by omega) bools_cs hv h
end Go.Proofs.Yteppkbjjldnniaa

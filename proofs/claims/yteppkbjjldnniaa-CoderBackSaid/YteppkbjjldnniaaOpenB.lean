/-
  Strings of bytes that came in, by themselves or within a struct.
-/
import Derived.Test.YteppkbjjldnniaaFrame
import Derived.Test.YteppkbjjldnniaaSlices
import Derived.Test.YteppkbjjldnniaaBytes
namespace Go.Proofs.Yteppkbjjldnniaa
open Go.ChangeShapes Go.WideShapes Go.ChangeAt Go.RowKit Go.Deep
set_option linter.unusedVariables false

structure BysIn (W : World) (A : Option Addr) (c : Nat) (xs : List Nat) : Prop where
  ok : bytesOk xs
  cap : xs.length ≤ c
  top : c ≤ 9223372036854775807
  nil : A = none → c = 0
  bys : Bys W A xs
theorem under_u8 : Try.prog.underlying 5 = some (.int .u8) := by kernel_rfl
theorem cells_u8 : Try.prog.cellsOf 5 = 1 := by kernel_rfl
theorem cells_u8s : Try.prog.cellsOf 22 = 1 := by kernel_rfl
section
variable {H : Type} {enc : TypeId × Value → H} {W : World} {spare : Nat → Bool} {held : Bool}
theorem open_bytes_cs {cs : List Value} {fuel : Nat} {x : DataW H × List MemPlace} (h : DataW.trod enc Try.prog W 0 spare held fuel 22 cs = some x) : ∃ A c xs, cs = [.slice A xs.length c] ∧ BysIn W A c xs := by
  rcases open_ints u8s_under under_u8 cells_u8 h with ⟨hcs, _⟩ | ⟨x, l, c', zs, hcs, _, hl, hm, hz, _, hcell, hwz⟩
  · exact ⟨none, 0, [], by rw [hcs]; rfl, bytesOk.nil, by simp, by omega, fun _ => rfl, Bys.nil _ _⟩
  · unfold maxLen at hm
    have hzl : l ≤ zs.length := by rw [hz]; split <;> omega
    have hnn : ∀ i, i < zs.length → ∃ m : Nat, zs.getD i 0 = (m : Int) ∧ m < 256 := fun i hi => by
      have : zs.getD i 0 ∈ zs := by rw [List.getD_eq_getElem?_getD, List.getElem?_eq_getElem hi]; exact List.getElem_mem hi
      have hx : 0 ≤ zs.getD i 0 ∧ zs.getD i 0 ≤ 255 := by simpa [Lit.wf, IntKind.min, IntKind.max, IntKind.signed, IntKind.bits] using hwz _ this
      obtain ⟨n, hn⟩ := Int.eq_ofNat_of_zero_le hx.1
      exact ⟨n, hn, by omega⟩
    have hg : ∀ i, ((zs.take l).map Int.toNat).getD i 0 = if i < l then (zs.getD i 0).toNat else 0 := fun i => by
      rw [List.getD_eq_getElem?_getD, List.getD_eq_getElem?_getD, List.getElem?_map]
      by_cases hi : i < l
      · rw [List.getElem?_take_of_lt hi, if_pos hi, List.getElem?_eq_getElem (by omega)]; rfl
      · rw [List.getElem?_eq_none (by simp; omega), if_neg hi]; rfl
    have hlen : ((zs.take l).map Int.toNat).length = l := by simp; omega
    refine ⟨some x, c', (zs.take l).map Int.toNat, by rw [hcs, hlen], fun i => ?_, by rw [hlen]; omega, by omega, (fun e => by cases e), fun hp => ?_⟩
    · rw [hg]
      split
      · obtain ⟨m, e, hm'⟩ := hnn i (by omega)
        rw [e]; simpa using hm'
      · omega
    · rw [hlen] at hp
      obtain ⟨b, off, rfl, hb⟩ := addr_plain' (hcell 0 (by omega))
      refine ⟨b, off, rfl, hb, fun i hi => ?_⟩
      rw [hlen] at hi
      have h1 := hcell i (by omega)
      rw [add_plain'] at h1
      obtain ⟨m, e, _⟩ := hnn i (by omega)
      rw [h1, hg, if_pos hi, e]; rfl
set_option maxRecDepth 100000 in
theorem open_bytes {r : Reach} {b0 : Nat} {v : Value} {d : DataW H} {p : List MemPlace}
    (hv : Value.okWide Try.prog W r b0 22 v) (h : DataW.Trod enc Try.prog W 0 spare held 22 v d p) : ∃ A c xs, v = .slice A xs.length c ∧ BysIn W A c xs := by
  obtain ⟨A, n, c, rfl⟩ := okWide_slice u8s_under hv
  obtain ⟨fuel, hf⟩ := h
  obtain ⟨A', c', xs, hcs, hB⟩ := open_bytes_cs hf
  simp [Value.cells] at hcs
  obtain ⟨rfl, rfl, rfl⟩ := hcs
  exact ⟨A, c, xs, rfl, hB⟩
theorem at_bytes {cs : List Value} {off : Nat} (h : ∃ y n, DataW.trod enc Try.prog W 0 spare held n 22 ((cs.drop off).take (Try.prog.cellsOf 22)) = some y) :
    ∃ A c xs, cs[off]? = some (.slice A xs.length c) ∧ BysIn W A c xs := by
  obtain ⟨y, n, h⟩ := h
  obtain ⟨A, c, xs, hcs, hB⟩ := open_bytes_cs h
  rw [cells_u8s] at hcs
  exact ⟨A, c, xs, take_one hcs, hB⟩
end
theorem BysIn.below {W W' : World} {A : Option Addr} {c : Nat} {xs : List Nat} {B : Nat} (h : BysIn W A c xs) (hb : Below B W W') (hB : W.heap.size ≤ B) : BysIn W' A c xs := ⟨h.ok, h.cap, h.top, h.nil, h.bys.below hb hB⟩
structure Op5 where
  kind : Int
  i : Int
  n : Nat
  A : Option Addr
  c : Nat
  b : List Nat
def Op5.cells (o : Op5) : Array Value := #[.int .i64 o.kind, .int .i64 o.i, .int .u64 o.n, .slice o.A o.b.length o.c]
structure Op5.Ok (W : World) (o : Op5) : Prop where
  kind : i64ok o.kind
  i : i64ok o.i
  n : o.n < 18446744073709551616
  b : BysIn W o.A o.c o.b
theorem op5_under : Try.prog.underlying 47 = some (.struct (Try.prog.fieldsOf 47)) := by kernel_rfl
set_option maxRecDepth 100000 in
theorem open_op5_cs {H : Type} {enc : TypeId × Value → H} {W : World} {spare : Nat → Bool} {held : Bool} {l : List Value} {fuel : Nat} {x : DataW H × List MemPlace} (hx : DataW.trod enc Try.prog W 0 spare held fuel 47 l = some x) : ∃ o : Op5, l = o.cells.toList ∧ o.Ok W := by
  obtain ⟨hlen, hF⟩ := flat_cells op5_under hx
  have hlen' : l.length = 4 := hlen.trans (by kernel_rfl)
  obtain ⟨a0, e0, o0⟩ := at_i64 under_i64 cells_i64 (hF 0 3 0 (by kernel_rfl))
  obtain ⟨a1, e1, o1⟩ := at_i64 under_i64 cells_i64 (hF 1 3 1 (by kernel_rfl))
  obtain ⟨a2, e2, o2⟩ := at_u64 under_u64 cells_u64 (hF 2 27 2 (by kernel_rfl))
  obtain ⟨A, c, b, e3, o3⟩ := at_bytes (hF 3 22 3 (by kernel_rfl))
  refine ⟨⟨a0, a1, a2, A, c, b⟩, list_ext 4 hlen' rfl (fun i hi => ?_), o0, o1, o2, o3⟩
  match i with
  | 0 => exact e0
  | 1 => exact e1
  | 2 => exact e2
  | 3 => exact e3
  | n + 4 => omega
set_option maxRecDepth 100000 in
theorem open_op5 {H : Type} {enc : TypeId × Value → H} {W : World} {spare : Nat → Bool} {held : Bool} {r : Reach} {b0 : Nat} {v : Value} {d : DataW H} {p : List MemPlace}
    (hv : Value.okWide Try.prog W r b0 47 v) (h : DataW.Trod enc Try.prog W 0 spare held 47 v d p) : ∃ o : Op5, v = .agg o.cells ∧ o.Ok W := by
  obtain ⟨⟨l⟩, rfl, _⟩ := okWide_struct op5_under hv
  obtain ⟨fuel, hf⟩ := h
  obtain ⟨o, rfl, ho⟩ := open_op5_cs hf
  exact ⟨o, rfl, ho⟩
theorem op5s_under : Try.prog.underlying 40 = some (.slice 47) := by kernel_rfl
set_option maxRecDepth 100000 in
theorem open_op5s {H : Type} {enc : TypeId × Value → H} {W : World} {spare : Nat → Bool} {held : Bool} {r : Reach} {b0 : Nat} {v : Value} {d : DataW H} {p : List MemPlace}
    (hv : Value.okWide Try.prog W r b0 40 v) (h : DataW.Trod enc Try.prog W 0 spare held 40 v d p) :
    ∃ A n c xs, v = .slice A n c ∧ xs.length = n ∧ (∀ x ∈ xs, Op5.Ok W x) ∧ n ≤ 9223372036854775807 ∧ SliceOf 4 Op5.cells W A xs :=
  open_slice_of 4 Op5.cells (Op5.Ok W) op5s_under (by kernel_rfl) (by omega) (fun l fuel x hx => open_op5_cs hx) hv h
end Go.Proofs.Yteppkbjjldnniaa

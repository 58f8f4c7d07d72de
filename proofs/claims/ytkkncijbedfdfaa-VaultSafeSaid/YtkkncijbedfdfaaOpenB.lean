/-
  Strings of bytes that came in, by themselves or within a struct.
-/
import Derived.Test.YtkkncijbedfdfaaFrame
import Derived.Test.YtkkncijbedfdfaaSlices
import Derived.Test.YtkkncijbedfdfaaBytes
namespace Go.Proofs.Ytkkncijbedfdfaa
open Go.ChangeShapes Go.WideShapes Go.ChangeAt Go.RowKit Go.Deep
set_option linter.unusedVariables false

structure BysIn (W : World) (A : Option Addr) (c : Nat) (xs : List Nat) : Prop where
  ok : bytesOk xs
  cap : xs.length ≤ c
  top : c ≤ 9223372036854775807
  nil : A = none → c = 0
  bys : Bys W A xs
theorem under_u8 : Try.prog.underlying 5 = some (.int .u8) := by kernel_rfl
theorem cells_u8 : Try.prog.cellsOf 5 = 1 := by kernel_rfl
theorem cells_u8s : Try.prog.cellsOf 22 = 1 := by kernel_rfl
section
variable {H : Type} {enc : TypeId × Value → H} {W : World} {spare : Nat → Bool} {held : Bool}
theorem open_bytes_cs {cs : List Value} {fuel : Nat} {x : DataW H × List MemPlace} (h : DataW.trod enc Try.prog W 0 spare held fuel 22 cs = some x) : ∃ A c xs, cs = [.slice A xs.length c] ∧ BysIn W A c xs := by
  rcases open_ints u8s_under under_u8 cells_u8 h with ⟨hcs, _⟩ | ⟨x, l, c', zs, hcs, _, hl, hm, hz, _, hcell, hwz⟩
  · exact ⟨none, 0, [], by rw [hcs]; rfl, bytesOk.nil, by simp, by omega, fun _ => rfl, Bys.nil _ _⟩
  · unfold maxLen at hm
    have hzl : l ≤ zs.length := by rw [hz]; split <;> omega
    have hnn : ∀ i, i < zs.length → ∃ m : Nat, zs.getD i 0 = (m : Int) ∧ m < 256 := fun i hi => by
      have : zs.getD i 0 ∈ zs := by rw [List.getD_eq_getElem?_getD, List.getElem?_eq_getElem hi]; exact List.getElem_mem hi
      have hx : 0 ≤ zs.getD i 0 ∧ zs.getD i 0 ≤ 255 := by simpa [Lit.wf, IntKind.min, IntKind.max, IntKind.signed, IntKind.bits] using hwz _ this
      obtain ⟨n, hn⟩ := Int.eq_ofNat_of_zero_le hx.1
      exact ⟨n, hn, by omega⟩
    have hg : ∀ i, ((zs.take l).map Int.toNat).getD i 0 = if i < l then (zs.getD i 0).toNat else 0 := fun i => by
      rw [List.getD_eq_getElem?_getD, List.getD_eq_getElem?_getD, List.getElem?_map]
      by_cases hi : i < l
      · rw [List.getElem?_take_of_lt hi, if_pos hi, List.getElem?_eq_getElem (by omega)]; rfl
      · rw [List.getElem?_eq_none (by simp; omega), if_neg hi]; rfl
    have hlen : ((zs.take l).map Int.toNat).length = l := by simp; omega
    refine ⟨some x, c', (zs.take l).map Int.toNat, by rw [hcs, hlen], fun i => ?_, by rw [hlen]; omega, by omega, (fun e => by cases e), fun hp => ?_⟩
    · rw [hg]
      split
      · obtain ⟨m, e, hm'⟩ := hnn i (by omega)
        rw [e]; simpa using hm'
      · omega
    · rw [hlen] at hp
      obtain ⟨b, off, rfl, hb⟩ := addr_plain' (hcell 0 (by omega))
      refine ⟨b, off, rfl, hb, fun i hi => ?_⟩
      rw [hlen] at hi
      have h1 := hcell i (by omega)
      rw [add_plain'] at h1
      obtain ⟨m, e, _⟩ := hnn i (by omega)
      rw [h1, hg, if_pos hi, e]; rfl
set_option maxRecDepth 100000 in
theorem open_bytes {r : Reach} {b0 : Nat} {v : Value} {d : DataW H} {p : List MemPlace}
    (hv : Value.okWide Try.prog W r b0 22 v) (h : DataW.Trod enc Try.prog W 0 spare held 22 v d p) : ∃ A c xs, v = .slice A xs.length c ∧ BysIn W A c xs := by
  obtain ⟨A, n, c, rfl⟩ := okWide_slice u8s_under hv
  obtain ⟨fuel, hf⟩ := h
  obtain ⟨A', c', xs, hcs, hB⟩ := open_bytes_cs hf
  simp [Value.cells] at hcs
  obtain ⟨rfl, rfl, rfl⟩ := hcs
  exact ⟨A, c, xs, rfl, hB⟩
theorem at_bytes {cs : List Value} {off : Nat} (h : ∃ y n, DataW.trod enc Try.prog W 0 spare held n 22 ((cs.drop off).take (Try.prog.cellsOf 22)) = some y) :
    ∃ A c xs, cs[off]? = some (.slice A xs.length c) ∧ BysIn W A c xs := by
  obtain ⟨y, n, h⟩ := h
  obtain ⟨A, c, xs, hcs, hB⟩ := open_bytes_cs h
  rw [cells_u8s] at hcs
  exact ⟨A, c, xs, take_one hcs, hB⟩
end
theorem BysIn.below {W W' : World} {A : Option Addr} {c : Nat} {xs : List Nat} {B : Nat} (h : BysIn W A c xs) (hb : Below B W W') (hB : W.heap.size ≤ B) : BysIn W' A c xs := ⟨h.ok, h.cap, h.top, h.nil, h.bys.below hb hB⟩
end Go.Proofs.Ytkkncijbedfdfaa

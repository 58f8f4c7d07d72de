/-
  A slice of numbers of 64 bits that came in.
-/
import Derived.Test.YtncobbhhjkdllaaFrame
import Derived.Test.YtncobbhhjkdllaaMoney
namespace Go.Proofs.Ytncobbhhjkdllaa
open Go.ChangeShapes Go.WideShapes Go.ChangeAt Go.RowKit
set_option linter.unusedVariables false

theorem addr_plain {W : World} {x : Addr} {v : Value} (h : W.cell? (x.add 0) = some v) : ∃ b off, x = ⟨b, off, none⟩ ∧ b < W.heap.size := by
  rw [show x.add 0 = x from by simp [Addr.add]] at h
  obtain ⟨b, off, spot⟩ := x
  have := World.cell?_spot h
  simp only at this
  subst this
  exact ⟨b, off, rfl, by simpa using World.block_lt_of_cell? W _ h⟩
theorem add_plain (b off i : Nat) : (⟨b, off, none⟩ : Addr).add i = ⟨b, off + i, none⟩ := by unfold Addr.add; split <;> simp_all
theorem u64s_under : Try.prog.underlying 55 = some (.slice 22) := by kernel_rfl
set_option maxRecDepth 100000 in
theorem open_u64s {H : Type} {enc : TypeId × Value → H} {W : World} {spare : Nat → Bool} {held : Bool} {r : Reach} {b0 : Nat} {v : Value} {d : DataW H} {p : List MemPlace}
    (hv : Value.okWide Try.prog W r b0 55 v) (h : DataW.Trod enc Try.prog W 0 spare held 55 v d p) :
    ∃ A n c xs, v = .slice A n c ∧ xs.length = n ∧ (∀ i, xs.getD i 0 < 18446744073709551616) ∧ n ≤ 9223372036854775807 ∧ U64s W A xs := by
  obtain ⟨A, n, c, rfl⟩ := okWide_slice u64s_under hv
  obtain ⟨fuel, hf⟩ := h
  rcases open_ints u64s_under under_u64 cells_u64 hf with ⟨hcs, _⟩ | ⟨x, l, c', zs, hcs, _, hl, hm, hz, _, hcell, hwz⟩
  · simp [Value.cells] at hcs
    obtain ⟨rfl, rfl, rfl⟩ := hcs
    exact ⟨none, 0, 0, [], rfl, rfl, by intro i; simp, by omega, fun h => by simp at h⟩
  · simp [Value.cells] at hcs
    obtain ⟨rfl, rfl, rfl⟩ := hcs
    unfold maxLen at hm
    have hzl : n ≤ zs.length := by rw [hz]; split <;> omega
    have hnn : ∀ i, i < zs.length → ∃ m : Nat, zs.getD i 0 = (m : Int) ∧ m < 18446744073709551616 := fun i hi => by
      have : zs.getD i 0 ∈ zs := by rw [List.getD_eq_getElem?_getD, List.getElem?_eq_getElem hi]; exact List.getElem_mem hi
      exact wf_u64 (hwz _ this)
    have hg : ∀ i, ((zs.take n).map Int.toNat).getD i 0 = if i < n then (zs.getD i 0).toNat else 0 := fun i => by
      rw [List.getD_eq_getElem?_getD, List.getD_eq_getElem?_getD, List.getElem?_map]
      by_cases hi : i < n
      · rw [List.getElem?_take_of_lt hi, if_pos hi, List.getElem?_eq_getElem (by omega)]; rfl
      · rw [List.getElem?_eq_none (by simp; omega), if_neg hi]; rfl
    refine ⟨some x, n, c, (zs.take n).map Int.toNat, rfl, by simp; omega, fun i => ?_, by omega, fun hp => ?_⟩
    · rw [hg]
      split
      · obtain ⟨m, e, hm'⟩ := hnn i (by omega)
        rw [e]; simpa using hm'
      · omega
    · simp at hp
      obtain ⟨b, off, rfl, hb⟩ := addr_plain (hcell 0 (by omega))
      refine ⟨b, off, rfl, hb, fun i hi => ?_⟩
      have hi' : i < n := by simp at hi; omega
      have h1 := hcell i (by omega)
      rw [add_plain] at h1
      obtain ⟨m, e, _⟩ := hnn i (by omega)
      rw [h1, hg, if_pos hi', e]; rfl
end Go.Proofs.Ytncobbhhjkdllaa

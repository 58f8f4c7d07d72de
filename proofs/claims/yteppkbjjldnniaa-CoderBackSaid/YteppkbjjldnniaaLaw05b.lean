/-
  Layer 5: few; by a writer or a reader that is none nothing is written or read.
-/
import Derived.Test.YteppkbjjldnniaaLaw05
namespace Go.Proofs.Yteppkbjjldnniaa
open Go.RowKit
set_option linter.unusedVariables false

def shortOp (o : Op5) : Prop := o.b.length ≤ 140000
def fewL (xs : List Op5) : Prop := xs.length ≤ 60 ∧ ∀ o ∈ xs, shortOp o
/-- The cells of an op in a list that came in. -/
theorem op5_cells {W : World} {b off j : Nat} {o : Op5} (h : W.rangeAt b (off + j * 4) o.cells.toList) : W.cell? ⟨b, off + j * 4, none⟩ = some (.int .i64 o.kind) ∧ W.cell? ⟨b, off + j * 4 + 1, none⟩ = some (.int .i64 o.i) ∧ W.cell? ⟨b, off + j * 4 + 2, none⟩ = some (.int .u64 o.n) ∧ W.cell? ⟨b, off + j * 4 + 3, none⟩ = some (.slice o.A o.b.length o.c) :=
  ⟨h 0 _ rfl, h 1 _ rfl, h 2 _ rfl, h 3 _ rfl⟩
/-- What few tells of ops. -/
def FewPost (w : World) (xs : List Op5) (e : Ending) (w' : World) : Prop := ((e = .returned (.bool true) ∧ fewL xs) ∨ (e = .returned (.bool false) ∧ ¬ fewL xs)) ∧ Below w.heap.size w w'
set_option maxRecDepth 100000 in
set_option maxHeartbeats 2000000 in
theorem few05_any (A : Option Addr) (n c : Nat) (xs : List Op5) (hn : xs.length = n) (hm : n ≤ 9223372036854775807) (hl : ∀ x ∈ xs, x.b.length ≤ 9223372036854775807) (w : World) (hU : SliceOf 4 Op5.cells w A xs) :
    Calls Try.prog 23 #[.slice A n c] w (FewPost w xs) := by
  have HN := Lib.hid hn
  have HU := Lib.hid hU
  have HLen := Lib.hid hl
  clear hn hU hl
  go_enter Try.func23, Try.ntmps23
  go_wp2_with fail
  go_loopw [7] (fun i wr => ∃ j : Nat, i = .int .i64 j ∧ j ≤ n ∧ Hid (∀ k, k < j → ∀ o, xs[k]? = some o → shortOp o) ∧ Below w.heap.size w wr) (fun i _ => n - (intOf i).toNat)
  case atStart => exact ⟨0, rfl, by omega, Lib.hid (fun k hk => by omega), Below.refl _ _⟩
  case round =>
    obtain ⟨j, rfl, hj, hI, hB⟩ := hrel
    by_cases hlt : j < n
    · obtain ⟨b, off, rfl, hbb, hcell⟩ := HU.out (by rw [HN.out]; omega)
      obtain ⟨o, hxj⟩ : ∃ o, xs[j]? = some o := ⟨_, List.getElem?_eq_getElem (by rw [HN.out]; omega)⟩
      have hrg := range_below (hcell j _ hxj) hB hbb
      obtain ⟨k0, k1, k2, k3⟩ := op5_cells hrg
      have hlen := HLen.out o (List.mem_of_getElem? hxj)
      have HXJ := Lib.hid hxj
      have HS : Hid (shortOp o ↔ o.b.length ≤ 140000) := Lib.hid Iff.rfl
      generalize o.b.length = m at *
      have z1 : (0 : Int) ≤ (j : Int) := by omega
      have z2 : (j : Int) < (n : Int) := by omega
      clear hcell hrg hxj
      by_cases hs : (140000 : Int) < (m : Int)
      · have HF : Hid (¬ fewL xs) := Lib.hid fun h => by
          have := HS.out.1 (h.2 o (List.mem_of_getElem? HXJ.out)); omega
        go_wp2_with fail
        go_ret
        exact ⟨.inr ⟨rfl, HF.out⟩, (hB.alloc hB.size _)⟩
      · have HI2 : Hid (∀ k, k < j + 1 → ∀ o, xs[k]? = some o → shortOp o) := Lib.hid fun k hk o' ho' => by
          rcases Nat.lt_or_ge k j with h | h
          · exact hI.out k h o' ho'
          · obtain rfl : k = j := by omega
            rw [HXJ.out] at ho'
            cases ho'
            exact HS.out.2 (by omega)
        go_wp2_with fail
        exact ⟨⟨j + 1, by go_num, by omega, HI2, (hB.alloc hB.size _)⟩, by simp [intOf]; omega⟩
    · obtain rfl : j = n := by omega
      have HAll : Hid (∀ o ∈ xs, shortOp o) := Lib.hid fun o ho => by
        obtain ⟨k, hk, rfl⟩ := List.mem_iff_getElem.1 ho
        exact hI.out k (by rw [← HN.out]; exact hk) _ (List.getElem?_eq_getElem hk)
      have HN2 := HN
      clear HU
      by_cases h60 : (j : Int) ≤ 60
      · have HF : Hid (fewL xs) := Lib.hid ⟨by rw [HN.out]; omega, HAll.out⟩
        go_wp2_with fail
        go_ret
        exact ⟨.inl ⟨rfl, HF.out⟩, hB⟩
      · have HF : Hid (¬ fewL xs) := Lib.hid fun h => by have := h.1; rw [HN.out] at this; omega
        have h61 : decide ((j : Int) ≤ 60) = false := decide_eq_false h60
        go_wp2_with fail
        go_ret
        exact ⟨.inr ⟨rfl, HF.out⟩, hB⟩
end Go.Proofs.Yteppkbjjldnniaa

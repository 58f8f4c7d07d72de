/-
  Whether two texts of bytes are the same: bullionref05.Same.
-/
import Derived.Test.YtkkncijbedfdfaaBytes
import Derived.IntWalk
import Derived.Deep.QuietTactic
namespace Go.Proofs.Ytkkncijbedfdfaa
open Go.RowKit
set_option linter.unusedVariables false

def sameL (xs ys : List Nat) : Bool := decide (xs = ys)
theorem take_eq_of' {xs ys : List Nat} {i : Nat} (h : xs.take i = ys.take i) (h1 : i < xs.length) (h2 : i < ys.length) (he : xs.getD i 0 = ys.getD i 0) : xs.take (i + 1) = ys.take (i + 1) := by
  rw [List.take_succ_eq_append_getElem h1, List.take_succ_eq_append_getElem h2, h]
  congr 2
  simpa [List.getD_eq_getElem?_getD, h1, h2] using he
set_option maxHeartbeats 2000000 in
theorem same5_any (A1 A2 : Option Addr) (xs ys : List Nat) (n c m d : Nat) (hn : xs.length = n) (hm : ys.length = m) (h1 : n ≤ 9223372036854775807) (h2 : m ≤ 9223372036854775807) (w : World) (hU : Bys w A1 xs) (hV : Bys w A2 ys) :
    Calls Try.prog 33 #[.slice A1 n c, .slice A2 m d] w fun e w' => e = .returned (.bool (sameL xs ys)) ∧ Below w.heap.size w w' := by
  by_cases hnm : n = m
  · subst hnm
    have HN := Lib.hid hn
    have HM := Lib.hid hm
    clear hn hm
    go_enter Try.func33, Try.ntmps33
    go_wp2_with fail
    go_loopw [5] (fun x wr => ∃ i : Nat, x = .int .i64 i ∧ i ≤ n ∧ Hid (xs.take i = ys.take i) ∧ Below w.heap.size w wr) (fun x _ => n - (intOf x).toNat)
    case atStart => exact ⟨0, rfl, by omega, Lib.hid rfl, Below.refl _ _⟩
    case round =>
      obtain ⟨i, rfl, hi, hT, hB⟩ := hrel
      by_cases hlt : i < n
      · obtain ⟨b1, o1, rfl, g1, c1⟩ := (hU.below hB (Nat.le_refl _)) (by rw [HN.out]; omega)
        obtain ⟨b2, o2, rfl, g2, c2⟩ := (hV.below hB (Nat.le_refl _)) (by rw [HM.out]; omega)
        have k1 := c1 i (by rw [HN.out]; omega)
        have k2 := c2 i (by rw [HM.out]; omega)
        have HS : Hid (xs.getD i 0 = ys.getD i 0 → xs.take (i + 1) = ys.take (i + 1)) := Lib.hid (take_eq_of' hT.out (by rw [HN.out]; exact hlt) (by rw [HM.out]; exact hlt))
        have HX : Hid (xs.getD i 0 ≠ ys.getD i 0 → sameL xs ys = false) := Lib.hid fun hne => by
          unfold sameL
          exact decide_eq_false (fun h => hne (by rw [h]))
        generalize xs.getD i 0 = x at *
        generalize ys.getD i 0 = y at *
        have z1 : (0 : Int) ≤ (i : Int) := by omega
        have z2 : (i : Int) < (n : Int) := by omega
        clear c1 c2 hU hV
        by_cases hxy : x = y
        · subst hxy
          have HS2 := Lib.hid (HS.out rfl)
          clear HS HX
          go_wp2_with fail
          go_quiet (fail)
          go_wp2_with fail
          exact ⟨⟨i + 1, by go_num, by omega, HS2, below_drewN hB _⟩, by simp [intOf]; omega⟩
        · have HX2 := Lib.hid (HX.out hxy)
          have hb : ((x : Int) != (y : Int)) = true := bne_iff_ne.2 (by omega)
          clear HS HX hxy
          go_wp2_with fail
          go_quiet (fail)
          go_wp2_with fail
          go_ret
          exact ⟨by rw [HX2.out]; rfl, below_drewN hB _⟩
      · obtain rfl : i = n := by omega
        have HR : Hid (sameL xs ys = true) := Lib.hid (by
          have h := hT.out
          rw [List.take_of_length_le (by rw [HN.out]; exact Nat.le_refl _), List.take_of_length_le (by rw [HM.out]; exact Nat.le_refl _)] at h
          exact decide_eq_true h)
        clear hU hV
        go_wp2_with fail
        go_ret
        exact ⟨by rw [HR.out]; rfl, hB⟩
  · have HR : Hid (sameL xs ys = false) := Lib.hid (decide_eq_false (fun h => hnm (by rw [← hn, ← hm, h])))
    have hb : ((n : Int) != (m : Int)) = true := bne_iff_ne.2 (by omega)
    clear hU hV hn hm hnm
    go_enter Try.func33, Try.ntmps33
    go_wp2_with fail
    go_ret
    exact ⟨by rw [HR.out]; rfl, Below.refl _ _⟩
end Go.Proofs.Ytkkncijbedfdfaa

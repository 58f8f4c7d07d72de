/-
  Lists of whole numbers; two of them held against each other (ref16.Same).
-/
import Derived.Test.YtnakkjgnjffkpaaOwnC
import Derived.Test.YtnakkjgnjffkpaaSlices
import Derived.Test.YtnakkjgnjffkpaaFrame
namespace Go.Proofs.Ytnakkjgnjffkpaa
open Go.RowKit
set_option linter.unusedVariables false

def intJ (z : Int) : Array Value := #[.int .i64 z]
theorem intJ_size (z : Int) : (intJ z).size = 1 := rfl
theorem intJ_one (z : Int) : allOne (intJ z) = true := by unfold allOne intJ; simp [Value.oneCell']
theorem ints_underJ : Try.prog.underlying 34 = some (.slice 3) := by kernel_rfl
theorem int_infoJ : (Try.prog.info? 3).map (fun i => (i.zero, i.size, i.bytes)) = some (some (.int .i64 0), 1, 8) := by kernel_rfl
theorem intJ_at {W : World} {A : Option Addr} {xs : List Int} (h : SliceOf 1 intJ W A xs) {j : Nat} {z : Int} (hz : xs[j]? = some z) : ∃ b o, A = some ⟨b, o, none⟩ ∧ b < W.heap.size ∧ W.cell? ⟨b, o + j, none⟩ = some (.int .i64 z) := by
  have hl : 0 < xs.length := by have := (List.getElem?_eq_some_iff.1 hz).1; omega
  obtain ⟨b, o, hA, hb, hc⟩ := h hl
  refine ⟨b, o, hA, hb, ?_⟩
  have := hc j z hz 0 (.int .i64 z) rfl
  simpa using this
theorem same16j_any (A1 A2 : Option Addr) (n1 c1 n2 c2 : Nat) (xs ys : List Int) (hn1 : xs.length = n1) (hn2 : ys.length = n2) (hm : n1 ≤ 9223372036854775807) (w : World) (h1 : SliceOf 1 intJ w A1 xs) (h2 : SliceOf 1 intJ w A2 ys) :
    Calls Try.prog 49 #[.slice A1 n1 c1, .slice A2 n2 c2] w fun e w' => e = .returned (.bool (decide (xs = ys))) ∧ Below w.heap.size w w' := by
  have HX := Lib.hid h1
  have HY := Lib.hid h2
  have HN1 := Lib.hid hn1
  have HN2 := Lib.hid hn2
  clear h1 h2
  by_cases hne : n1 = n2
  · subst hne
    clear hn1 hn2
    go_enter Try.func49, Try.ntmps49
    go_wp2_with fail
    go_loopw [5] (fun i wr => ∃ j : Nat, i = .int .i64 j ∧ j ≤ n1 ∧ Hid (xs.take j = ys.take j) ∧ Hid (Below w.heap.size w wr)) (fun i _ => n1 - (intOf i).toNat)
    case atStart => exact ⟨0, rfl, by omega, Lib.hid rfl, Lib.hid (Below.refl _ _)⟩
    case round =>
      obtain ⟨j, rfl, hj, hI, hBw⟩ := hrel
      by_cases hlt : j < n1
      · obtain ⟨x, hx⟩ : ∃ x, xs[j]? = some x := ⟨_, List.getElem?_eq_getElem (by rw [HN1.out]; exact hlt)⟩
        obtain ⟨y, hy⟩ : ∃ y, ys[j]? = some y := ⟨_, List.getElem?_eq_getElem (by rw [HN2.out]; exact hlt)⟩
        obtain ⟨b1, o1, rfl, _, kx⟩ := intJ_at (HX.out.below hBw.out (Nat.le_refl _)) hx
        obtain ⟨b2, o2, rfl, _, ky⟩ := intJ_at (HY.out.below hBw.out (Nat.le_refl _)) hy
        have z1 : (0 : Int) ≤ (j : Int) := by omega
        have z2 : (j : Int) < (n1 : Int) := by omega
        by_cases hxy : x = y
        · have HI2 : Hid (xs.take (j + 1) = ys.take (j + 1)) := Lib.hid (by
            obtain ⟨hjl, hjz⟩ := List.getElem?_eq_some_iff.1 hx
            obtain ⟨hjl2, hjz2⟩ := List.getElem?_eq_some_iff.1 hy
            rw [List.take_succ_eq_append_getElem hjl, hjz, List.take_succ_eq_append_getElem hjl2, hjz2, hI.out, hxy])
          subst hxy
          clear hx hy
          go_wp2_with fail
          go_quiet (fail)
          go_wp2_with fail
          exact ⟨⟨j + 1, by go_num, by omega, HI2, Lib.hid (below_drewN hBw.out _)⟩, by simp [intOf]; omega⟩
        · have HV : Hid (decide (xs = ys) = false) := Lib.hid (decide_eq_false fun e => hxy (by rw [e] at hx; exact Option.some.inj (hx.symm.trans hy)))
          have e1 : (x != y) = true := by simp [hxy]
          have e2 : (x == y) = false := beq_eq_false_iff_ne.2 hxy
          clear hx hy
          go_wp2_with fail
          go_quiet (fail)
          go_wp2_with fail
          go_ret
          exact ⟨by rw [HV.out]; rfl, below_drewN hBw.out _⟩
      · obtain rfl : j = n1 := by omega
        have HV : Hid (decide (xs = ys) = true) := Lib.hid (decide_eq_true (by
          have := hI.out
          rwa [List.take_of_length_le (by rw [HN1.out]; exact Nat.le_refl _), List.take_of_length_le (by rw [HN2.out]; exact Nat.le_refl _)] at this))
        clear HX HY
        go_wp2_with fail
        go_ret
        exact ⟨by rw [HV.out]; rfl, hBw.out⟩
  · have HV : Hid (decide (xs = ys) = false) := Lib.hid (decide_eq_false fun e => hne (by rw [← hn1, ← hn2, e]))
    have e1 : ((n1 : Int) != (n2 : Int)) = true := by simp [hne]; omega
    have e2 : ((n1 : Int) == (n2 : Int)) = false := beq_eq_false_iff_ne.2 (by omega)
    clear hn1 hn2 HN1 HN2 HX HY
    go_enter Try.func49, Try.ntmps49
    go_wp2_with fail
    go_ret
    exact ⟨by rw [HV.out]; rfl, Below.refl _ _⟩
end Go.Proofs.Ytnakkjgnjffkpaa

/-
  What bullionref05 answers: a number's bytes, a string's bytes, whether two texts are the same, what its writer does.
-/
import Derived.Test.YtnakkjgnjffkpaaCoder6
namespace Go.Proofs.Ytnakkjgnjffkpaa
open Go.RowKit
set_option linter.unusedVariables false

set_option maxRecDepth 100000 in
set_option maxHeartbeats 2000000 in
theorem rform_any (n : Nat) (hn : n < 18446744073709551616) (w : World) : Calls Try.prog 125 #[.int .u64 n] w (RetB w (formN n)) := by
  induction n using Nat.strongRecOn generalizing w with
  | ind n ih =>
    by_cases h0 : n < 128
    · have HV : Hid (formN n = [n]) := Lib.hid (formN_low h0)
      have a1 : (n : Int) < 128 := by omega
      have E1 : IntKind.u8.wrap (n : Int) = (n : Int) := by rw [IntKind.wrap_u8]; omega
      clear ih h0
      go_enter Try.func125, Try.ntmps125
      go_wp2_with fail
      go_ret
      rw [HV.out]
      exact ⟨_, _, rfl, OwnB.lit w [n] _ (by simp) rfl, (fun a e => by cases e; exact Nat.le_refl _), (Below.refl _ _).alloc (Nat.le_refl _) _⟩
    · have HV : Hid (formN n = [n % 128 + 128] ++ formN (n / 128)) := Lib.hid (formN_high (by omega))
      have HI := Lib.hid (ih (n / 128) (by omega) (by omega))
      have HL := Lib.hid (formN_len10 (n := n / 128) (by omega))
      have a1 : ¬ (n : Int) < 128 := by omega
      have E0 : (n : Int) % 128 = ((n % 128 : Nat) : Int) := by omega
      have E3 : (n : Int) / 128 = ((n / 128 : Nat) : Int) := by omega
      have hz : n % 128 < 128 := by omega
      have hd : n / 128 < 18446744073709551616 := by omega
      generalize n % 128 = z at *
      generalize n / 128 = d at *
      have E1 : IntKind.u8.wrap ((z : Int) + 128) = ((z + 128 : Nat) : Int) := by rw [IntKind.wrap_u8]; omega
      have E4 : IntKind.u64.wrap ((z : Int) + 128) = (z : Int) + 128 := by rw [IntKind.wrap_u64]; omega
      clear ih h0
      go_enter Try.func125, Try.ntmps125
      go_wp2_with (at_builtin; refine wpList_app1 rfl _ _ rfl (.slice none 0 0) [] _ (z + 128) (OwnB.nil _) rfl rfl ?_ ?_ ?_; (focus (simp; done)); (focus (simp; done)); intro v' w1 b1 b2 b3; obtain ⟨A1, c1, e1', _⟩ := b1.form; subst e1'; have B1 := Lib.hid b1; have B2 := Lib.hid b2; have B3 := Lib.hid b3; clear b1 b2 b3)
      refine (HI.out w1).mono ?_
      intro e w2 hF
      obtain ⟨A2, c2, rfl, hB, hO, hA, hb⟩ := hF.bys
      have O1 := Lib.hid (B1.out.stay hb)
      have HB2 := Lib.hid hB
      have HA2 := Lib.hid hA
      have HBb := Lib.hid hb
      clear hF hB hO hA hb
      go_wp2_with (at_builtin; refine wpList_appb rfl _ _ rfl _ ([] ++ [z + 128]) (formN d) A2 _ c2 O1.out HB2.out rfl rfl rfl (by have := HL.out; simp; omega) ?_; intro v' w3 hAp; obtain ⟨A3, c3, rfl⟩ := hAp.form; have HAp := Lib.hid hAp; clear hAp)
      go_ret
      have hb1 : Below w.heap.size w w1 := B2.out.toBelow (fun k hk => by cases hk) (Nat.le_refl _)
      have hb2 := Below.then hb1 HBb.out
      have ho1 : ∀ k, (Value.slice A1 ([] ++ [z + 128]).length c1).ownBlock = some k → w.heap.size ≤ k := fun k hk => by
        rcases B3.out with h | h
        · rw [h] at hk; cases hk
        · rw [h] at hk; cases hk; omega
      rw [HV.out]
      refine retB_of (v := .slice A3 (1 + (formN d).length) c3) rfl HAp.out.1 (fun k hk => ?_) (hb2.grown HAp.out.2.1 hb2.size ho1)
      rcases HAp.out.2.2 with h | h
      · exact ho1 k (h ▸ hk)
      · have h' : some k = some w2.heap.size := hk.symm.trans h
        cases h'
        exact hb2.size
def sameL (xs ys : List Nat) : Bool := decide (xs = ys)
theorem take_eq_of' {xs ys : List Nat} {i : Nat} (h : xs.take i = ys.take i) (h1 : i < xs.length) (h2 : i < ys.length) (he : xs.getD i 0 = ys.getD i 0) : xs.take (i + 1) = ys.take (i + 1) := by
  rw [List.take_succ_eq_append_getElem h1, List.take_succ_eq_append_getElem h2, h]
  congr 2
  simpa [List.getD_eq_getElem?_getD, h1, h2] using he
set_option maxHeartbeats 2000000 in
theorem same5_any (A1 A2 : Option Addr) (xs ys : List Nat) (n c m d : Nat) (hn : xs.length = n) (hm : ys.length = m) (h1 : n ≤ 9223372036854775807) (h2 : m ≤ 9223372036854775807) (w : World) (hU : Bys w A1 xs) (hV : Bys w A2 ys) :
    Calls Try.prog 27 #[.slice A1 n c, .slice A2 m d] w fun e w' => e = .returned (.bool (sameL xs ys)) ∧ Below w.heap.size w w' := by
  by_cases hnm : n = m
  · subst hnm
    have HN := Lib.hid hn
    have HM := Lib.hid hm
    clear hn hm
    go_enter Try.func27, Try.ntmps27
    go_wp2_with fail
    go_loopw [5] (fun x wr => ∃ i : Nat, x = .int .i64 i ∧ i ≤ n ∧ Hid (xs.take i = ys.take i) ∧ Below w.heap.size w wr) (fun x _ => n - (intOf x).toNat)
    case atStart => exact ⟨0, rfl, by omega, Lib.hid rfl, Below.refl _ _⟩
    case round =>
      obtain ⟨i, rfl, hi, hT, hB⟩ := hrel
      by_cases hlt : i < n
      · obtain ⟨b1, o1, rfl, g1, c1⟩ := (hU.below hB (Nat.le_refl _)) (by rw [HN.out]; omega)
        obtain ⟨b2, o2, rfl, g2, c2⟩ := (hV.below hB (Nat.le_refl _)) (by rw [HM.out]; omega)
        have k1 := c1 i (by rw [HN.out]; omega)
        have k2 := c2 i (by rw [HM.out]; omega)
        have HS : Hid (xs.getD i 0 = ys.getD i 0 → xs.take (i + 1) = ys.take (i + 1)) := Lib.hid (take_eq_of' hT.out (by rw [HN.out]; exact hlt) (by rw [HM.out]; exact hlt))
        have HX : Hid (xs.getD i 0 ≠ ys.getD i 0 → sameL xs ys = false) := Lib.hid fun hne => by
          unfold sameL
          exact decide_eq_false (fun h => hne (by rw [h]))
        generalize xs.getD i 0 = x at *
        generalize ys.getD i 0 = y at *
        have z1 : (0 : Int) ≤ (i : Int) := by omega
        have z2 : (i : Int) < (n : Int) := by omega
        clear c1 c2 hU hV
        by_cases hxy : x = y
        · subst hxy
          have HS2 := Lib.hid (HS.out rfl)
          clear HS HX
          go_wp2_with fail
          go_quiet (fail)
          go_wp2_with fail
          exact ⟨⟨i + 1, by go_num, by omega, HS2, below_drewN hB _⟩, by simp [intOf]; omega⟩
        · have HX2 := Lib.hid (HX.out hxy)
          have hb : ((x : Int) != (y : Int)) = true := bne_iff_ne.2 (by omega)
          clear HS HX hxy
          go_wp2_with fail
          go_quiet (fail)
          go_wp2_with fail
          go_ret
          exact ⟨by rw [HX2.out]; rfl, below_drewN hB _⟩
      · obtain rfl : i = n := by omega
        have HR : Hid (sameL xs ys = true) := Lib.hid (by
          have h := hT.out
          rw [List.take_of_length_le (by rw [HN.out]; exact Nat.le_refl _), List.take_of_length_le (by rw [HM.out]; exact Nat.le_refl _)] at h
          exact decide_eq_true h)
        clear hU hV
        go_wp2_with fail
        go_ret
        exact ⟨by rw [HR.out]; rfl, hB⟩
  · have HR : Hid (sameL xs ys = false) := Lib.hid (decide_eq_false (fun h => hnm (by rw [← hn, ← hm, h])))
    have hb : ((n : Int) != (m : Int)) = true := bne_iff_ne.2 (by omega)
    clear hU hV hn hm hnm
    go_enter Try.func27, Try.ntmps27
    go_wp2_with fail
    go_ret
    exact ⟨by rw [HR.out]; rfl, Below.refl _ _⟩
end Go.Proofs.Ytnakkjgnjffkpaa

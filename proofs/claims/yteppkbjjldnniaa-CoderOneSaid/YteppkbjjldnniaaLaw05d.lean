/-
  Layer 5: of any bytes what is read as a number has just the bytes that are written for it.
-/
import Derived.Test.YteppkbjjldnniaaLaw05
namespace Go.Proofs.Yteppkbjjldnniaa
open Go.RowKit
set_option linter.unusedVariables false

set_option maxRecDepth 100000 in
set_option maxHeartbeats 4000000 in
theorem coderOne_any (A : Option Addr) (n c : Nat) (xs : List Nat) (hn : xs.length = n) (w : World) (hU : BysIn w A c xs) :
    Calls Try.prog 3 #[.slice A n c] w fun e w' => e = .returned (.bool true) ∧ Below w.heap.size w w' := by
  by_cases hbig : (3000 : Int) < (n : Int)
  · clear hn hU
    go_enter Try.func3, Try.ntmps3
    go_wp2_with fail
    refine (awake05_any _).mono ?_
    rintro e w1 ⟨rfl, hb1⟩
    go_wp2_with fail
    go_ret
    exact ⟨rfl, hb1⟩
  · have HB := Lib.hid hU.bys
    have HX := Lib.hid hU.ok
    have HN := Lib.hid hn
    have HC := Lib.hid (show n ≤ c by rw [← hn]; exact hU.cap)
    have HO := Lib.hid (fun W (h : Bys W A xs) => ropen_any A n c xs hn (by omega) W h)
    clear hn hU
    go_enter Try.func3, Try.ntmps3
    go_wp2_with fail
    refine (awake05_any _).mono ?_
    rintro e w1 ⟨rfl, hb1⟩
    go_wp2_with fail
    refine (HO.out _ (HB.out.stay hb1)).mono ?_
    rintro e w2 ⟨g, A3, c3, rfl, hg, hA3, hR, hb2⟩
    have hB2 := Below.then hb1 hb2
    have hgw : w.heap.size ≤ g := Nat.le_trans hb1.size hg
    have R2 := Lib.hid hR
    have HB2 := Lib.hid hB2
    clear hb1 hb2 hB2 hR hA3 hg HO
    go_wp2_with fail
    go_loopw [18] (fun i wr => ∃ j a : Nat, i = .int .i64 j ∧ j ≤ n ∧ j ≤ a ∧ (a < n ∨ (j = 0 ∧ a = 0)) ∧ Hid (RdAt wr g A3 c3 ⟨xs, a, 0⟩) ∧ Hid (Below w.heap.size w wr)) (fun i _ => n - (intOf i).toNat)
    case atStart => exact ⟨0, 0, rfl, by omega, by omega, .inr ⟨rfl, rfl⟩, R2, HB2⟩
    case round =>
      clear R2 HB2
      obtain ⟨j, a, rfl, hj, hja, ha, hR, hB⟩ := hrel
      by_cases hlt : j < n
      · have han : a < n := by omega
        have hok : Rd.Ok ⟨xs, a, 0⟩ := ⟨HX.out, by show a ≤ xs.length; rw [HN.out]; omega, by show xs.length ≤ _; rw [HN.out]; omega, by simp, by simp⟩
        have HNum := Lib.hid (rnum_any g A3 c3 ⟨xs, a, 0⟩ hok 18446744073709551615 (by omega) wr hR.out)
        have hcases := Rd.scan_cases ⟨xs, a, 0⟩
        have hslt := Rd.scan_lt ⟨xs, a, 0⟩
        have z2 : (j : Int) < (n : Int) := by omega
        clear ha
        by_cases h0 : (Rd.scan ⟨xs, a, 0⟩).2.2 = 0
        · -- a number
          have hnum := Rd.num_good (s := ⟨xs, a, 0⟩) rfl h0 (most := 18446744073709551615) (by omega)
          rw [hnum] at HNum
          obtain ⟨m, k, hk1, hk2, hk3, hk4, hk5, _⟩ := scanL_back (xs.drop a) 0 0 (Rd.scan ⟨xs, a, 0⟩).1 (Rd.scan ⟨xs, a, 0⟩).2.1 (fun x hx => (HX.out.drop a).mem x hx) (Prod.ext rfl (Prod.ext rfl h0))
          have hm : (Rd.scan ⟨xs, a, 0⟩).1 = m := by rw [hk5]; simp
          have hk : (Rd.scan ⟨xs, a, 0⟩).2.1 = k := by rw [hk1]; simp
          rw [hm, hk] at HNum
          rw [hm] at hslt
          have hml := hslt.1
          have hak : a + k ≤ n := by rw [List.length_drop, HN.out] at hk3; omega
          have HForm := Lib.hid hk4
          have H10 := Lib.hid (formN_len10 hml)
          have HW := Lib.hid (fun g W (h : WtAt W g none Wt.none) => wnum_any g none Wt.none Wt.none_ok m hml W h)
          have hwn : Wt.none.num m = ⟨formN m, 0⟩ := by
            unfold Wt.num
            rw [Wt.put_fit rfl (by have := formN_len10 hml; simp [Wt.none]; omega)]
            rfl
          have hwok : Wt.Ok ⟨formN m, 0⟩ := by have := Wt.none_ok.num m; rwa [hwn] at this
          rw [hwn] at HW
          have HOut := Lib.hid (fun g o W (h : WtAt W g o ⟨formN m, 0⟩) => wout_any g o _ hwok W h)
          have HCut := Lib.hid (fun W => run_cutb A n c a k (by have := HC.out; omega) W)
          have HSm := Lib.hid (fun A1 c1 W (h1 : Bys W A1 (formN m)) (h2 : Bys W A xs) => same5_any A1 (cutA A c a) (formN m) ((xs.drop a).take k) (formN m).length c1 k (c - a) rfl (by simp; rw [HN.out]; omega) (by have := formN_len10 hml; omega) (by omega) W h1 (cutA_bys h2 (by rw [HN.out]; exact hak) (by rw [HN.out]; exact HC.out)))
          rw [show sameL (formN m) ((xs.drop a).take k) = true by unfold sameL; rw [hk4]; simp] at HSm
          have hok2 : Rd.Ok ⟨xs, a + k, 0⟩ := ⟨HX.out, by show a + k ≤ xs.length; rw [HN.out]; omega, by show xs.length ≤ _; rw [HN.out]; omega, by simp, by simp⟩
          have HDone := Lib.hid (fun W (h : RdAt W g A3 c3 ⟨xs, a + k, 0⟩) => rdone_any g A3 c3 _ hok2 W h)
          have HDv : Hid (a + k = n → Rd.done ⟨xs, a + k, 0⟩ = 0) := Lib.hid fun h => by unfold Rd.done; rw [if_neg]; rintro ⟨_, h2⟩; simp only [] at h2; rw [HN.out] at h2; omega
          have hk0 := hk2
          rw [hwn] at *
          generalize formN m = L at *
          have HOL : Hid (outL ⟨L, 0⟩ = L) := Lib.hid rfl
          clear hnum hk1 hk2 hk3 hk4 hk5 hm hk hslt hcases h0 hwn hwok hok hok2
          go_wp2_with fail
          refine (rat_any g A3 c3 _ _ hR.out).mono ?_
          rintro e w4 ⟨rfl, rfl⟩
          go_wp2_with fail
          refine (HNum.out).mono ?_
          rintro e w5 ⟨rfl, hR5, hc5⟩
          have R5 := Lib.hid hR5
          have B5 := Lib.hid (hB.out.trans (hc5.toBelow (B := w.heap.size) (fun q hq => by unfold only at hq; omega) hB.out.size))
          clear hR5 hc5 hR hB HNum
          go_wp2_with fail
          refine (rerr_any g A3 c3 _ _ R5.out).mono ?_
          rintro e w6 ⟨rfl, rfl⟩
          go_wp2_with fail
          refine (HW.out _ _ (WtAt.fresh _ _)).mono ?_
          rintro e w6 ⟨he, o6, hw6, -, hc6⟩
          unfold unitE at he
          subst he
          have b6 : Below w5.heap.size w5 w6 := ((Below.refl _ w5).alloc (Nat.le_refl _) _).trans (hc6.toBelow (B := w5.heap.size) (fun q hq => by rcases hq with rfl | hq; exact Nat.le_refl _; cases hq) (by simp))
          have W6 := Lib.hid hw6
          have R6 := Lib.hid (R5.out.stay b6)
          have B6 := Lib.hid (Below.then B5.out b6)
          clear hw6 hc6 b6 R5 B5
          go_wp2_with fail
          refine (HOut.out _ _ _ W6.out).mono ?_
          rintro e w7 ⟨A7, c7, rfl, hO, hA, hb⟩
          rw [HOL.out] at hO ⊢
          obtain ⟨A8, c8, e8, hBy, hrest⟩ := hO.form
          clear hrest
          simp only [Value.slice.injEq, true_and] at e8
          obtain ⟨rfl, rfl⟩ := e8
          have R7 := Lib.hid (R6.out.stay hb)
          have B7 := Lib.hid (Below.then B6.out hb)
          have Y7 := Lib.hid hBy
          clear hO hA hb hBy R6 B6 W6
          go_wp2_with fail
          refine (rat_any g A3 c3 _ _ R7.out).mono ?_
          rintro e w8 ⟨rfl, rfl⟩
          go_wp2_with fail
          refine (rat_any g A3 c3 _ _ R7.out).mono ?_
          rintro e w9 ⟨rfl, rfl⟩
          go_wp2_with fail
          refine (rat_any g A3 c3 _ _ R7.out).mono ?_
          rintro e w10 ⟨rfl, rfl⟩
          have hcut := HCut.out
          go_wp2_with fail
          refine (HSm.out _ _ _ Y7.out (HB.out.below B7.out (Nat.le_refl _))).mono ?_
          rintro e w11 ⟨rfl, hb11⟩
          have R11 := Lib.hid (R7.out.stay hb11)
          have B11 := Lib.hid (Below.then B7.out hb11)
          clear hb11 R7 B7 hcut
          go_wp2_with fail
          refine (rat_any g A3 c3 _ _ R11.out).mono ?_
          rintro e w12 ⟨rfl, rfl⟩
          by_cases hend : a + k = n
          · have q1 : ((a : Int) + (k : Int) == (n : Int)) = true := by rw [beq_iff_eq]; omega
            have HD0 := Lib.hid (HDv.out hend)
            clear hend
            go_wp2_with fail
            refine (HDone.out _ R11.out).mono ?_
            rintro e w13 ⟨rfl, hR13, hc13⟩
            rw [HD0.out]
            go_wp2_with fail
            go_ret
            exact ⟨rfl, B11.out.trans (hc13.toBelow (B := w.heap.size) (fun q hq => by unfold only at hq; omega) B11.out.size)⟩
          · have q1 : ((a : Int) + (k : Int) == (n : Int)) = false := beq_eq_false_iff_ne.2 (by omega)
            go_wp2_with fail
            exact ⟨⟨j + 1, a + k, by go_num, by omega, by omega, .inl (by omega), R11, B11⟩, by simp [intOf]; omega⟩
        · -- none
          have hnum := Rd.num_fail (s := ⟨xs, a, 0⟩) rfl h0 18446744073709551615
          rw [hnum] at HNum
          have e1 : ((Rd.scan ⟨xs, a, 0⟩).2.2 != 0) = true := bne_iff_ne.2 h0
          generalize (Rd.scan ⟨xs, a, 0⟩).2.2 = er at *
          clear hnum hcases hslt h0 hok
          go_wp2_with fail
          refine (rat_any g A3 c3 _ _ hR.out).mono ?_
          rintro e w4 ⟨rfl, rfl⟩
          go_wp2_with fail
          refine (HNum.out).mono ?_
          rintro e w5 ⟨rfl, hR5, hc5⟩
          have R5 := Lib.hid hR5
          have B5 := Lib.hid (hB.out.trans (hc5.toBelow (B := w.heap.size) (fun q hq => by unfold only at hq; omega) hB.out.size))
          clear hR5 hc5 hR hB HNum
          go_wp2_with fail
          refine (rerr_any g A3 c3 _ _ R5.out).mono ?_
          rintro e w6 ⟨rfl, rfl⟩
          go_wp2_with fail
          refine (rat_any g A3 c3 _ _ R5.out).mono ?_
          rintro e w7 ⟨rfl, rfl⟩
          go_wp2_with fail
          go_ret
          exact ⟨rfl, B5.out⟩
      · obtain rfl : j = n := by omega
        obtain ⟨rfl, rfl⟩ : j = 0 ∧ a = 0 := by omega
        go_wp2_with fail
        go_ret
        exact ⟨rfl, hB.out⟩
end Go.Proofs.Yteppkbjjldnniaa

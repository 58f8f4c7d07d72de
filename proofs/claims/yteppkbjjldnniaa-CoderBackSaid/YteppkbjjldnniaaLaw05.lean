/-
  Layer 5: the chapter's example; who writes and reads by nothing.
-/
import Derived.Test.YteppkbjjldnniaaRef05c
import Derived.Test.YteppkbjjldnniaaOpenB
namespace Go.Proofs.Yteppkbjjldnniaa
open Go.RowKit
set_option linter.unusedVariables false

set_option maxRecDepth 100000 in
set_option maxHeartbeats 2000000 in
theorem awake05_any (w : World) : Calls Try.prog 14 #[] w fun e w' => e = .returned (.bool true) ∧ Below w.heap.size w w' := by
  have f300 : Wt.none.num 300 = ⟨[172, 2], 0⟩ := by
    have h1 : formN 300 = [172, 2] := by rw [formN_high (by omega), formN_low (by omega)]
    unfold Wt.num; rw [h1]; rfl
  have H1 := Lib.hid (fun g W (h : WtAt W g none Wt.none) => wnum_any g none Wt.none Wt.none_ok 300 (by omega) W h)
  rw [f300] at H1
  have hok : Wt.Ok ⟨[172, 2], 0⟩ := by have := Wt.none_ok.num 300; rwa [f300] at this
  have H2 := Lib.hid (fun g o W (h : WtAt W g o ⟨[172, 2], 0⟩) => wout_any g o _ hok W h)
  have b1 : bytesOk [128, 0] := .of (by simp)
  have b2 : bytesOk [128] := .of (by simp)
  have H3 := Lib.hid (fun A c W (h : Bys W A [128, 0]) => ropen_any A 2 c [128, 0] rfl (by omega) W h)
  have H4 := Lib.hid (fun A c W (h : Bys W A [128]) => ropen_any A 1 c [128] rfl (by omega) W h)
  have H5 := Lib.hid (fun g A c W (h : RdAt W g A c ⟨[128, 0], 0, 0⟩) => rnum_any g A c _ ⟨b1, by simp, by simp, by simp, by simp⟩ 9 (by omega) W h)
  have H6 := Lib.hid (fun g A c W (h : RdAt W g A c ⟨[128], 0, 0⟩) => rnum_any g A c _ ⟨b2, by simp, by simp, by simp, by simp⟩ 9 (by omega) W h)
  rw [show Rd.num ⟨[128, 0], 0, 0⟩ 9 = (0, ⟨[128, 0], 0, 51⟩) from rfl] at H5
  rw [show Rd.num ⟨[128], 0, 0⟩ 9 = (0, ⟨[128], 0, 50⟩) from rfl] at H6
  have HT := Lib.hid (fun A1 A2 c d W (h1 : Bys W A1 [172, 2]) (h2 : Bys W A2 [172, 2]) => same5_any A1 A2 [172, 2] [172, 2] 2 c 2 d rfl rfl (by omega) (by omega) W h1 h2)
  rw [show sameL [172, 2] [172, 2] = true by decide] at HT
  have HE := Lib.hid (fun g A c s W (h : RdAt W g A c s) => rerr_any g A c s W h)
  clear f300 hok b1 b2
  go_enter Try.func14, Try.ntmps14
  go_wp2_with fail
  refine (H1.out w.heap.size _ (WtAt.fresh w _)).mono ?_
  rintro e w1 ⟨he, o1, hw1, -, hc1⟩
  unfold unitE at he
  subst he
  have W1 := Lib.hid hw1
  have hB1 : Below w.heap.size w w1 := ((Below.refl _ w).alloc (Nat.le_refl _) _).trans (hc1.toBelow (fun k hk => by rcases hk with rfl | hk; exact Nat.le_refl _; cases hk) (by simp))
  clear hw1 hc1
  go_wp2_with fail
  refine (H2.out _ _ _ W1.out).mono ?_
  rintro e w2 ⟨A2, c2, rfl, hO, hA, hb⟩
  have hB2 := Below.then hB1 hb
  obtain ⟨A2', c2', e2, hBy, hrest⟩ := hO.form
  clear hrest
  simp only [Value.slice.injEq, true_and] at e2
  obtain ⟨rfl, rfl⟩ := e2
  have Y2 := Lib.hid hBy
  clear hO hA hb hB1 hBy
  go_wp2_with fail
  refine (H3.out _ 2 _ (bytes_new w2 [128, 0] _ rfl)).mono ?_
  rintro e w3 ⟨g3, A3, c3, rfl, hg3, hA3, hR3, hb3⟩
  have hs3 : Below w2.heap.size w2 w3 := Below.then ((Below.refl _ w2).alloc (Nat.le_refl _) _) hb3
  have hn3 : w2.heap.size < g3 := by simp at hg3; omega
  have R3 := Lib.hid hR3
  have HA3 := Lib.hid hA3
  clear hg3 hA3 hR3 hb3
  go_wp2_with fail
  refine (H4.out _ 1 _ (bytes_new w3 [128] _ rfl)).mono ?_
  rintro e w4 ⟨g4, A4, c4, rfl, hg4, hA4, hR4, hb4⟩
  have hs4 : Below w3.heap.size w3 w4 := Below.then ((Below.refl _ w3).alloc (Nat.le_refl _) _) hb4
  have hl3 := R3.out.lt
  have R4 := Lib.hid (R3.out.stay hs4)
  have hs24 := Below.then hs3 hs4
  have S4 := Lib.hid hR4
  have hne : g3 < g4 := by simp at hg4; omega
  have HA4 : Hid (∀ a, A4 = some a → g3 < a.block) := Lib.hid fun a ha => by have := (hA4 a ha).1; simp at this; omega
  have HA3' : Hid (∀ a, A3 = some a → a.block < g4) := Lib.hid fun a ha => by have := (HA3.out a ha).2; simp at hg4; omega
  clear hg4 hA4 hR4 hb4 hs4 hs3 R3 HA3 hl3
  go_wp2_with fail
  refine (H5.out _ _ _ _ R4.out).mono ?_
  rintro e w5 ⟨rfl, hR5, hc5⟩
  have R5 := Lib.hid hR5
  have S5 := Lib.hid (S4.out.chg hc5 (fun h => by unfold only at h; omega) (fun a ha h => by unfold only at h; have := HA4.out a ha; omega))
  have hs25 := hs24.trans (hc5.toBelow (B := w2.heap.size) (fun k hk => by unfold only at hk; omega) hs24.size)
  clear hR5 hc5 R4 S4 hs24
  go_wp2_with fail
  refine (H6.out _ _ _ _ S5.out).mono ?_
  rintro e w6 ⟨rfl, hR6, hc6⟩
  have S6 := Lib.hid hR6
  have R6 := Lib.hid (R5.out.chg hc6 (fun h => by unfold only at h; omega) (fun a ha h => by unfold only at h; have := HA3'.out a ha; omega))
  have hs26 := hs25.trans (hc6.toBelow (B := w2.heap.size) (fun k hk => by unfold only at hk; omega) hs25.size)
  have Y6 := Lib.hid (Y2.out.stay hs26)
  have hB6 := Below.then hB2 hs26
  clear hR6 hc6 R5 S5 hs25 hs26 hB2 Y2 HA3' HA4 hne hn3
  go_wp2_with fail
  refine (HT.out _ _ _ 2 _ (Y6.out.stay ((Below.refl _ w6).alloc (Nat.le_refl _) _)) (bytes_new w6 [172, 2] _ rfl)).mono ?_
  rintro e w7 ⟨rfl, hb7⟩
  have hs7 : Below w6.heap.size w6 w7 := Below.then ((Below.refl _ w6).alloc (Nat.le_refl _) _) hb7
  have R7 := Lib.hid (R6.out.stay hs7)
  have S7 := Lib.hid (S6.out.stay hs7)
  have hB7 := Below.then hB6 hs7
  clear hb7 hs7 R6 S6 hB6 Y6
  go_wp2_with fail
  refine (HE.out _ _ _ _ _ R7.out).mono ?_
  rintro e w8 ⟨rfl, rfl⟩
  go_wp2_with fail
  refine (HE.out _ _ _ _ _ S7.out).mono ?_
  rintro e w8 ⟨rfl, rfl⟩
  go_wp2_with fail
  go_ret
  exact ⟨rfl, hB7⟩
end Go.Proofs.Yteppkbjjldnniaa

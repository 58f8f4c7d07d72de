/-
  What bullionref05 answers: a number's bytes, a string's bytes, whether two texts are the same, what its writer does.
-/
import Derived.Test.YteppkbjjldnniaaCoder6
namespace Go.Proofs.Yteppkbjjldnniaa
open Go.RowKit
set_option linter.unusedVariables false

set_option maxRecDepth 100000 in
set_option maxHeartbeats 2000000 in
theorem rform_any (n : Nat) (hn : n < 18446744073709551616) (w : World) : Calls Try.prog 25 #[.int .u64 n] w (RetB w (formN n)) := by
  induction n using Nat.strongRecOn generalizing w with
  | ind n ih =>
    by_cases h0 : n < 128
    · have HV : Hid (formN n = [n]) := Lib.hid (formN_low h0)
      have a1 : (n : Int) < 128 := by omega
      have E1 : IntKind.u8.wrap (n : Int) = (n : Int) := by rw [IntKind.wrap_u8]; omega
      clear ih h0
      go_enter Try.func25, Try.ntmps25
      go_wp2_with fail
      go_ret
      rw [HV.out]
      exact ⟨_, _, rfl, OwnB.lit w [n] _ (by simp) rfl, (fun a e => by cases e; exact Nat.le_refl _), (Below.refl _ _).alloc (Nat.le_refl _) _⟩
    · have HV : Hid (formN n = [n % 128 + 128] ++ formN (n / 128)) := Lib.hid (formN_high (by omega))
      have HI := Lib.hid (ih (n / 128) (by omega) (by omega))
      have HL := Lib.hid (formN_len10 (n := n / 128) (by omega))
      have a1 : ¬ (n : Int) < 128 := by omega
      have E0 : (n : Int) % 128 = ((n % 128 : Nat) : Int) := by omega
      have E3 : (n : Int) / 128 = ((n / 128 : Nat) : Int) := by omega
      have hz : n % 128 < 128 := by omega
      have hd : n / 128 < 18446744073709551616 := by omega
      generalize n % 128 = z at *
      generalize n / 128 = d at *
      have E1 : IntKind.u8.wrap ((z : Int) + 128) = ((z + 128 : Nat) : Int) := by rw [IntKind.wrap_u8]; omega
      have E4 : IntKind.u64.wrap ((z : Int) + 128) = (z : Int) + 128 := by rw [IntKind.wrap_u64]; omega
      clear ih h0
      go_enter Try.func25, Try.ntmps25
      go_wp2_with (at_builtin; refine wpList_app1 rfl _ _ rfl (.slice none 0 0) [] _ (z + 128) (OwnB.nil _) rfl rfl ?_ ?_ ?_; (focus (simp; done)); (focus (simp; done)); intro v' w1 b1 b2 b3; obtain ⟨A1, c1, e1', _⟩ := b1.form; subst e1'; have B1 := Lib.hid b1; have B2 := Lib.hid b2; have B3 := Lib.hid b3; clear b1 b2 b3)
      refine (HI.out w1).mono ?_
      intro e w2 hF
      obtain ⟨A2, c2, rfl, hB, hO, hA, hb⟩ := hF.bys
      have O1 := Lib.hid (B1.out.stay hb)
      have HB2 := Lib.hid hB
      have HA2 := Lib.hid hA
      have HBb := Lib.hid hb
      clear hF hB hO hA hb
      go_wp2_with (at_builtin; refine wpList_appb rfl _ _ rfl _ ([] ++ [z + 128]) (formN d) A2 _ c2 O1.out HB2.out rfl rfl rfl (by have := HL.out; simp; omega) ?_; intro v' w3 hAp; obtain ⟨A3, c3, rfl⟩ := hAp.form; have HAp := Lib.hid hAp; clear hAp)
      go_ret
      have hb1 : Below w.heap.size w w1 := B2.out.toBelow (fun k hk => by cases hk) (Nat.le_refl _)
      have hb2 := Below.then hb1 HBb.out
      have ho1 : ∀ k, (Value.slice A1 ([] ++ [z + 128]).length c1).ownBlock = some k → w.heap.size ≤ k := fun k hk => by
        rcases B3.out with h | h
        · rw [h] at hk; cases hk
        · rw [h] at hk; cases hk; omega
      rw [HV.out]
      refine retB_of (v := .slice A3 (1 + (formN d).length) c3) rfl HAp.out.1 (fun k hk => ?_) (hb2.grown HAp.out.2.1 hb2.size ho1)
      rcases HAp.out.2.2 with h | h
      · exact ho1 k (h ▸ hk)
      · have h' : some k = some w2.heap.size := hk.symm.trans h
        cases h'
        exact hb2.size
set_option maxHeartbeats 1000000 in
theorem rrawb_any (A : Option Addr) (n c : Nat) (b : List Nat) (hn : b.length = n) (hlen : n ≤ 1000000) (w : World) (hb : Bys w A b) : Calls Try.prog 30 #[.slice A n c] w (RetB w (formN b.length ++ b)) := by
  have HF := Lib.hid (rform_any n (by omega))
  have HB := Lib.hid hb
  have HN := Lib.hid hn
  have HL := Lib.hid (formN_len10 (n := n) (by omega))
  have E1 : IntKind.u64.wrap (n : Int) = (n : Int) := by rw [IntKind.wrap_u64]; omega
  clear hb hn
  go_enter Try.func30, Try.ntmps30
  go_wp2_with fail
  refine (HF.out _).mono ?_
  intro e w2 hF
  obtain ⟨A2, c2, rfl, hB, hO, hA, hb⟩ := hF.bys
  have HO := Lib.hid hO
  have HB2 := Lib.hid (HB.out.stay hb)
  have HA := Lib.hid hA
  have HBb := Lib.hid hb
  clear hF hB hb hO hA
  go_wp2_with (at_builtin; refine wpList_appb rfl _ _ rfl _ (formN n) b A n c HO.out HB2.out rfl rfl HN.out (by rw [HN.out]; have := HL.out; omega) ?_; intro v' w3 hAp; obtain ⟨A3, c3, rfl⟩ := hAp.form; have HAp := Lib.hid hAp; clear hAp)
  go_ret
  have hN := HN.out
  subst hN
  have ho1 : ∀ k, (Value.slice A2 (formN b.length).length c2).ownBlock = some k → w.heap.size ≤ k := fun k hk => by
    cases A2 with
    | none => cases hk
    | some a => cases hk; exact HA.out a rfl
  refine retB_of (v := .slice A3 ((formN b.length).length + b.length) c3) rfl HAp.out.1 (fun k hk => ?_) (HBb.out.grown HAp.out.2.1 HBb.out.size ho1)
  rcases HAp.out.2.2 with h | h
  · exact ho1 k (h ▸ hk)
  · have h' : some k = some w2.heap.size := hk.symm.trans h
    cases h'
    exact HBb.out.size
def sameL (xs ys : List Nat) : Bool := decide (xs = ys)
theorem take_eq_of' {xs ys : List Nat} {i : Nat} (h : xs.take i = ys.take i) (h1 : i < xs.length) (h2 : i < ys.length) (he : xs.getD i 0 = ys.getD i 0) : xs.take (i + 1) = ys.take (i + 1) := by
  rw [List.take_succ_eq_append_getElem h1, List.take_succ_eq_append_getElem h2, h]
  congr 2
  simpa [List.getD_eq_getElem?_getD, h1, h2] using he
set_option maxHeartbeats 2000000 in
theorem same5_any (A1 A2 : Option Addr) (xs ys : List Nat) (n c m d : Nat) (hn : xs.length = n) (hm : ys.length = m) (h1 : n ≤ 9223372036854775807) (h2 : m ≤ 9223372036854775807) (w : World) (hU : Bys w A1 xs) (hV : Bys w A2 ys) :
    Calls Try.prog 21 #[.slice A1 n c, .slice A2 m d] w fun e w' => e = .returned (.bool (sameL xs ys)) ∧ Below w.heap.size w w' := by
  by_cases hnm : n = m
  · subst hnm
    have HN := Lib.hid hn
    have HM := Lib.hid hm
    clear hn hm
    go_enter Try.func21, Try.ntmps21
    go_wp2_with fail
    go_loopw [5] (fun x wr => ∃ i : Nat, x = .int .i64 i ∧ i ≤ n ∧ Hid (xs.take i = ys.take i) ∧ Below w.heap.size w wr) (fun x _ => n - (intOf x).toNat)
    case atStart => exact ⟨0, rfl, by omega, Lib.hid rfl, Below.refl _ _⟩
    case round =>
      obtain ⟨i, rfl, hi, hT, hB⟩ := hrel
      by_cases hlt : i < n
      · obtain ⟨b1, o1, rfl, g1, c1⟩ := (hU.below hB (Nat.le_refl _)) (by rw [HN.out]; omega)
        obtain ⟨b2, o2, rfl, g2, c2⟩ := (hV.below hB (Nat.le_refl _)) (by rw [HM.out]; omega)
        have k1 := c1 i (by rw [HN.out]; omega)
        have k2 := c2 i (by rw [HM.out]; omega)
        have HS : Hid (xs.getD i 0 = ys.getD i 0 → xs.take (i + 1) = ys.take (i + 1)) := Lib.hid (take_eq_of' hT.out (by rw [HN.out]; exact hlt) (by rw [HM.out]; exact hlt))
        have HX : Hid (xs.getD i 0 ≠ ys.getD i 0 → sameL xs ys = false) := Lib.hid fun hne => by
          unfold sameL
          exact decide_eq_false (fun h => hne (by rw [h]))
        generalize xs.getD i 0 = x at *
        generalize ys.getD i 0 = y at *
        have z1 : (0 : Int) ≤ (i : Int) := by omega
        have z2 : (i : Int) < (n : Int) := by omega
        clear c1 c2 hU hV
        by_cases hxy : x = y
        · subst hxy
          have HS2 := Lib.hid (HS.out rfl)
          clear HS HX
          go_wp2_with fail
          go_quiet (fail)
          go_wp2_with fail
          exact ⟨⟨i + 1, by go_num, by omega, HS2, below_drewN hB _⟩, by simp [intOf]; omega⟩
        · have HX2 := Lib.hid (HX.out hxy)
          have hb : ((x : Int) != (y : Int)) = true := bne_iff_ne.2 (by omega)
          clear HS HX hxy
          go_wp2_with fail
          go_quiet (fail)
          go_wp2_with fail
          go_ret
          exact ⟨by rw [HX2.out]; rfl, below_drewN hB _⟩
      · obtain rfl : i = n := by omega
        have HR : Hid (sameL xs ys = true) := Lib.hid (by
          have h := hT.out
          rw [List.take_of_length_le (by rw [HN.out]; exact Nat.le_refl _), List.take_of_length_le (by rw [HM.out]; exact Nat.le_refl _)] at h
          exact decide_eq_true h)
        clear hU hV
        go_wp2_with fail
        go_ret
        exact ⟨by rw [HR.out]; rfl, hB⟩
  · have HR : Hid (sameL xs ys = false) := Lib.hid (decide_eq_false (fun h => hnm (by rw [← hn, ← hm, h])))
    have hb : ((n : Int) != (m : Int)) = true := bne_iff_ne.2 (by omega)
    clear hU hV hn hm hnm
    go_enter Try.func21, Try.ntmps21
    go_wp2_with fail
    go_ret
    exact ⟨by rw [HR.out]; rfl, Below.refl _ _⟩
set_option maxHeartbeats 1000000 in
theorem pput_any (g : Nat) (o : Option Nat) (s : Wt) (hs : s.Ok) (A : Option Addr) (n c : Nat) (b : List Nat) (hn : b.length = n) (hlen : n ≤ 1000000000) (w : World) (hW : WtAt w g o s) (hb : Bys w A b) :
    Calls Try.prog 24 #[.pointer (some ⟨g, 0, none⟩), .slice A n c] w (WtPost w g o (s.put b)) := by
  have HW := Lib.hid hW
  obtain ⟨v, rfl, hne, hr, hown⟩ := hW
  obtain ⟨A0, c0, rfl, hrest⟩ := hown.form
  clear hrest
  have hxl := hs.len
  have c0' := row_cell hr 0
  have c1' : w.cell? ⟨g, 1, none⟩ = some (.int .i64 s.e) := row_cell hr 1
  have f1 := row_frozen hr 1
  have HR := Lib.hid hr
  have HO := Lib.hid hown
  have HB := Lib.hid hb
  have HN := Lib.hid hn
  have hne' := Lib.hid hne
  by_cases h0 : s.e = 0
  · rw [h0] at c1'
    by_cases hbig : 131072 < s.xs.length + n
    · have HV : Hid (s.put b = ⟨s.xs, 3⟩) := Lib.hid (Wt.put_big h0 (by rw [hn]; exact hbig))
      generalize s.xs.length = m at *
      have hb' : (131072 : Int) < (m : Int) + (n : Int) := by omega
      clear hr hown hb hn h0 hne hbig
      go_enter Try.func24, Try.ntmps24
      go_wp2_with fail
      go_end0
      refine ⟨rfl, _, ?_, .inl rfl, (Chg.refl _ _).setCell (.inl (.inl rfl)) _⟩
      rw [HV.out]
      exact ⟨_, rfl, hne'.out, row_set HR.out 1 _, HO.out.chg ((Chg.refl (fun k => k = g) _).setCell (.inl rfl) _) (fun k hk e => hne'.out (by rw [hk, e]))⟩
    · have HV : Hid (s.put b = ⟨s.xs ++ b, 0⟩) := Lib.hid (Wt.put_fit h0 (by rw [hn]; omega))
      generalize hm : s.xs.length = m at *
      have hm' := Lib.hid hm
      have h0' := Lib.hid h0
      have hb' : ¬ (131072 : Int) < (m : Int) + (n : Int) := by omega
      clear hr hown hb hn h0 hne f1 hm hbig
      go_enter Try.func24, Try.ntmps24
      go_wp2_with (at_builtin; refine wpList_appb rfl _ _ rfl _ s.xs b A n c HO.out HB.out rfl rfl HN.out (by rw [HN.out, hm'.out]; omega) ?_; intro v' w' hA; obtain ⟨A', c', rfl⟩ := hA.form; have hch := hA.chg; have hr1 := (hch.row (row_lt HR.out) hne'.out).trans HR.out; have k0 := row_cell hr1 0; have f0 := row_frozen hr1 0; have HA := Lib.hid hA; have HR1 := Lib.hid hr1; have HC := Lib.hid hch; clear hA hch hr1 c0' c1')
      go_end0
      refine ⟨rfl, (Value.slice A' (s.xs.length + b.length) c').ownBlock, ?_, ?_, HC.out.mono (fun k hk => .inr hk) |>.setCell (.inl (.inl rfl)) _⟩
      · rw [HV.out]
        have hne2 : (Value.slice A' (s.xs.length + b.length) c').ownBlock ≠ some g := by
          rcases HA.out.2.2 with h | h
          · rw [h]; exact hne'.out
          · rw [h]; intro e; cases e; have := row_lt HR.out; omega
        refine ⟨_, rfl, hne2, ?_, HA.out.1.chg ((Chg.refl (fun k => k = g) _).setCell (.inl rfl) _) (fun k hk e => hne2 (by rw [hk, e]))⟩
        rw [row_set HR1.out 0 _, h0'.out]; rfl
      · rcases HA.out.2.2 with h | h
        · exact .inl h
        · exact .inr ⟨_, h, Nat.le_refl _⟩
  · have HV : Hid (s.put b = s) := Lib.hid (Wt.put_bad h0)
    have hb' : (s.e != 0) = true := bne_iff_ne.2 h0
    clear hr hown hb hn hne f1 h0
    go_enter Try.func24, Try.ntmps24
    go_wp2_with fail
    refine bodyPost_ret (results_none rfl _ _ _) rfl ?_
    exact (WtPost.of_same HW.out).cast HV.out.symm
set_option maxHeartbeats 1000000 in
theorem pint_any (g : Nat) (o : Option Nat) (s : Wt) (hs : s.Ok) (n : Int) (hn : i64ok n) (w : World) (hW : WtAt w g o s) : Calls Try.prog 27 #[.pointer (some ⟨g, 0, none⟩), .int .i64 n] w (WtPost w g o (s.int n)) := by
  have HW := Lib.hid hW
  unfold i64ok at hn
  by_cases hneg : n < 0
  · obtain ⟨v, rfl, hne, hr, hown⟩ := hW
    have c1 : w.cell? ⟨g, 1, none⟩ = some (.int .i64 s.e) := row_cell hr 1
    have f1 := row_frozen hr 1
    have HN := Lib.hid hne
    have HR := Lib.hid hr
    have HO := Lib.hid hown
    by_cases h0 : s.e = 0
    · have HV : Hid (s.int n = ⟨s.xs, 2⟩) := Lib.hid (by unfold Wt.int; rw [if_pos hneg, if_pos h0])
      rw [h0] at c1
      clear hr hown hne h0 hs
      go_enter Try.func27, Try.ntmps27
      go_wp2_with fail
      refine bodyPost_ret (results_none rfl _ _ _) rfl ?_
      refine WtPost.cast ⟨rfl, v.ownBlock, ?_, .inl rfl, (Chg.refl _ _).setCell (.inl (.inl rfl)) _⟩ HV.out.symm
      exact ⟨_, rfl, HN.out, row_set HR.out 1 _, HO.out.chg ((Chg.refl (fun k => k = g) _).setCell (.inl rfl) _) (fun k hk e => HN.out (by rw [hk, e]))⟩
    · have HV : Hid (s.int n = s) := Lib.hid (by unfold Wt.int; rw [if_pos hneg, if_neg h0])
      have e1 : (s.e == 0) = false := beq_eq_false_iff_ne.2 h0
      clear hr hown hne h0 hs
      go_enter Try.func27, Try.ntmps27
      go_wp2_with fail
      refine bodyPost_ret (results_none rfl _ _ _) rfl ?_
      exact (WtPost.of_same HW.out).cast HV.out.symm
  · obtain ⟨m, rfl⟩ := Int.eq_ofNat_of_zero_le (show 0 ≤ n by omega)
    have HF := Lib.hid (rform_any m (by omega))
    have HP := Lib.hid (fun W A c (hb : Bys W A (formN m)) (hW : WtAt W g o s) => pput_any g o s hs A (formN m).length c (formN m) rfl (by have := formN_len10 (n := m) (by omega); omega) W hW hb)
    have HV : Hid (s.put (formN m) = s.int (m : Int)) := Lib.hid (by unfold Wt.int; rw [if_neg hneg]; rfl)
    have hneg' : ¬ (m : Int) < 0 := hneg
    have E1 : IntKind.u64.wrap (m : Int) = (m : Int) := by rw [IntKind.wrap_u64]; omega
    clear hW hs
    go_enter Try.func27, Try.ntmps27
    go_wp2_with fail
    refine (HF.out _).mono ?_
    intro e w2 hF
    obtain ⟨A2, c2, rfl, hB, hO, hA, hb⟩ := hF.bys
    have H2 := Lib.hid (HP.out w2 A2 c2 hB (HW.out.stay hb))
    have HB := Lib.hid hb
    clear hF hB hb hO hA
    go_wp2_with fail
    refine (H2.out).mono ?_
    intro e w3 hP
    have he := hP.1
    unfold unitE at he
    subst he
    have HQ := Lib.hid (hP.before HB.out)
    clear hP
    go_wp2_with fail
    go_end0
    exact HQ.out.cast HV.out
end Go.Proofs.Yteppkbjjldnniaa

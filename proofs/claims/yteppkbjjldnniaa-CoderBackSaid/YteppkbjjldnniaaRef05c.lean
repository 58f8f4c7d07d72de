/-
  What bullionref05's reader does: numbers from 0 on, strings of bytes, what is left.
-/
import Derived.Test.YteppkbjjldnniaaRef05b
namespace Go.Proofs.Yteppkbjjldnniaa
open Go.RowKit
set_option linter.unusedVariables false

set_option maxRecDepth 100000 in
set_option maxHeartbeats 4000000 in
theorem fint_any (g : Nat) (A : Option Addr) (c : Nat) (s : Rd) (hs : s.Ok) (most : Int) (hmost : i64ok most) (w : World) (hR : RfAt w g A c s) :
    Calls Try.prog 33 #[.pointer (some ⟨g, 0, none⟩), .int .i64 most] w (RfPost w g A c (.int .i64 (((s.int most).1 : Nat) : Int)) (s.int most).2) := by
  unfold i64ok at hmost
  by_cases hneg : 0 ≤ most
  · obtain ⟨m, rfl⟩ := Int.eq_ofNat_of_zero_le hneg
    have HP := Lib.hid (fnum_any g A c s hs m (by omega) w hR)
    have HV : Hid (s.int (m : Int) = s.num m) := Lib.hid (by unfold Rd.int; rw [if_pos hneg]; rfl)
    have hle := s.num_le m
    have E1 : IntKind.u64.wrap (m : Int) = (m : Int) := by rw [IntKind.wrap_u64]; omega
    have E2 : IntKind.i64.wrap ((s.num m).1 : Int) = ((s.num m).1 : Int) := IntWalk.i64_in _ (by omega)
    rw [HV.out]
    generalize (s.num m).1 = v at *
    generalize (s.num m).2 = s' at *
    clear hs hR HV
    go_enter Try.func33, Try.ntmps33
    go_wp2_with fail
    refine (HP.out).mono ?_
    rintro e w1 ⟨rfl, h1, h2⟩
    have H1 := Lib.hid h1
    have H2 := Lib.hid h2
    clear h1 h2
    go_wp2_with fail
    go_ret
    exact ⟨rfl, H1.out, H2.out⟩
  · have HR := Lib.hid hR
    have HP := Lib.hid (fnum_any g A c s hs 18446744073709551615 (by omega) w hR)
    have c1 : w.cell? ⟨g, 1, none⟩ = some (.int .i64 (s.at_ : Int)) := hR.cells 1
    have hneg' : ¬ (0 : Int) ≤ most := hneg
    have hx := s.num_xs 18446744073709551615
    have HX := Lib.hid hx
    have key : ((s.num 18446744073709551615).2.e = 0 ∧ s.int most = (0, ⟨s.xs, s.at_, 51⟩)) ∨ ((s.num 18446744073709551615).2.e ≠ 0 ∧ s.int most = (0, ⟨s.xs, s.at_, (s.num 18446744073709551615).2.e⟩)) := by
      by_cases h0 : s.e = 0
      · by_cases h1 : s.scan.2.2 = 0
        · rw [Rd.num_good h0 h1 (by have := s.scan_lt.1; omega)]
          exact .inl ⟨rfl, by unfold Rd.int; rw [if_neg hneg, if_pos h0, if_pos h1]⟩
        · rw [Rd.num_fail h0 h1]
          exact .inr ⟨h1, by unfold Rd.int; rw [if_neg hneg, if_pos h0, if_neg h1]⟩
      · rw [Rd.num_bad h0]
        exact .inr ⟨h0, by unfold Rd.int; rw [if_neg hneg, if_neg h0]⟩
    generalize (s.num 18446744073709551615).1 = v at *
    generalize (s.num 18446744073709551615).2 = s1 at *
    rcases key with ⟨h1, h2⟩ | ⟨h1, h2⟩
    · have HV := Lib.hid h2
      have HE := Lib.hid h1
      clear hs hR hx h1 h2 hneg
      go_enter Try.func33, Try.ntmps33
      go_wp2_with fail
      refine (HP.out).mono ?_
      rintro e w1 ⟨rfl, k1, k2⟩
      have H1 := Lib.hid k1
      have H2 := Lib.hid k2
      have e1 : w1.cell? ⟨g, 1, none⟩ = some (.int .i64 (s1.at_ : Int)) := k1.cells 1
      have e2 : w1.cell? ⟨g, 2, none⟩ = some (.int .i64 0) := (k1.cells 2).trans (by show some (Value.int IntKind.i64 s1.e) = _; rw [HE.out])
      have g1 := k1.free 1
      have g2 := k1.free 2
      clear k1 k2 c1
      go_wp2_with fail
      go_ret
      have hch := (H2.out.setCell (p := ⟨g, 1, none⟩) (.inl rfl) (.int .i64 (s.at_ : Int))).setCell (p := ⟨g, 2, none⟩) (.inl rfl) (.int .i64 51)
      refine RdPostC.of_turn ⟨s.xs, s.at_, 51⟩ HR.out hch ((row_set (row_set H1.out.row 1 _) 2 _).trans ?_) rfl (by rw [HV.out]) (by rw [HV.out]; rfl)
      show some #[Value.slice A s1.xs.length c, Value.int IntKind.i64 (s.at_ : Int), Value.int IntKind.i64 51] = _
      rw [HX.out]; rfl
    · have HV := Lib.hid h2
      have e0 : (s1.e == 0) = false := beq_eq_false_iff_ne.2 h1
      clear hs hR hx h1 h2 hneg
      go_enter Try.func33, Try.ntmps33
      go_wp2_with fail
      refine (HP.out).mono ?_
      rintro e w1 ⟨rfl, k1, k2⟩
      have H1 := Lib.hid k1
      have H2 := Lib.hid k2
      have e1 : w1.cell? ⟨g, 1, none⟩ = some (.int .i64 (s1.at_ : Int)) := k1.cells 1
      have e2 : w1.cell? ⟨g, 2, none⟩ = some (.int .i64 s1.e) := k1.cells 2
      have g1 := k1.free 1
      clear k1 k2 c1
      go_wp2_with fail
      go_ret
      have hch := H2.out.setCell (p := ⟨g, 1, none⟩) (.inl rfl) (.int .i64 (s.at_ : Int))
      refine RdPostC.of_turn ⟨s.xs, s.at_, s1.e⟩ HR.out hch ((row_set H1.out.row 1 _).trans ?_) rfl (by rw [HV.out]) (by rw [HV.out]; rfl)
      show some #[Value.slice A s1.xs.length c, Value.int IntKind.i64 (s.at_ : Int), Value.int IntKind.i64 s1.e] = _
      rw [HX.out]; rfl
abbrev RfRaw := RawPostC rfC
set_option maxRecDepth 100000 in
set_option maxHeartbeats 4000000 in
theorem fraw_any (g : Nat) (A : Option Addr) (c : Nat) (s : Rd) (hs : s.Ok) (hlen : s.xs.length ≤ 1000000000) (most : Int) (hmost : i64ok most) (w : World) (hR : RfAt w g A c s) :
    Calls Try.prog 36 #[.pointer (some ⟨g, 0, none⟩), .int .i64 most] w (RfRaw w g A c (s.raw most).1 (s.raw most).2) := by
  have HR := Lib.hid hR
  have c1 : w.cell? ⟨g, 1, none⟩ = some (.int .i64 (s.at_ : Int)) := hR.cells 1
  have c2 : w.cell? ⟨g, 2, none⟩ = some (.int .i64 s.e) := hR.cells 2
  by_cases h0 : s.e = 0
  · have HI := Lib.hid (fint_any g A c s hs most hmost w hR)
    have hok := hs.int most
    have hxs := s.int_xs most
    have H0 := Lib.hid h0
    rw [h0] at c2
    by_cases h1 : (s.int most).2.e = 0
    · by_cases h2 : (s.int most).2.xs.length - (s.int most).2.at_ < (s.int most).1
      · have HV : Hid (s.raw most = ([], ⟨s.xs, s.at_, 50⟩)) := Lib.hid (by unfold Rd.raw; rw [if_pos h0, if_pos h1, if_pos h2])
        have hat := hok.at_
        have HX := Lib.hid hxs
        have HE := Lib.hid h1
        generalize (s.int most).1 = n at *
        generalize (s.int most).2 = s1 at *
        have t1 : (s1.xs.length : Int) - (s1.at_ : Int) < (n : Int) := by omega
        have E1 : IntKind.i64.wrap ((s1.xs.length : Int) - (s1.at_ : Int)) = (s1.xs.length : Int) - (s1.at_ : Int) := IntWalk.i64_in _ (by have := hok.len; omega)
        clear hs hR h0 h1 h2 hok hxs hat
        go_enter Try.func36, Try.ntmps36
        go_wp2_with fail
        refine (HI.out).mono ?_
        rintro e w1 ⟨rfl, k1, k2⟩
        have H1 := Lib.hid k1
        have H2 := Lib.hid k2
        have d0 : w1.cell? ⟨g, 0, none⟩ = some (.slice A s1.xs.length c) := H1.out.cells 0
        have d1 : w1.cell? ⟨g, 1, none⟩ = some (.int .i64 (s1.at_ : Int)) := H1.out.cells 1
        have d2 : w1.cell? ⟨g, 2, none⟩ = some (.int .i64 0) := (k1.cells 2).trans (by show some (Value.int IntKind.i64 s1.e) = _; rw [HE.out])
        have f1 : w1.frozen? ⟨g, 1, none⟩ = false := H1.out.free 1
        have f2 : w1.frozen? ⟨g, 2, none⟩ = false := H1.out.free 2
        clear k1 k2 c1 c2
        go_wp2_with fail
        go_quiet (fail)
        go_wp2_with fail
        go_ret
        have hch := fun k => ((H2.out.drewN k).setCell (p := ⟨g, 1, none⟩) (.inl rfl) (.int .i64 (s.at_ : Int))).setCell (p := ⟨g, 2, none⟩) (.inl rfl) (.int .i64 50)
        have hr2 := fun k => row_set (row_set (H1.out.drewN k).row 1 (.int .i64 (s.at_ : Int))) 2 (.int .i64 50)
        refine RawPostC.of_none (s := ⟨s.xs, s.at_, 50⟩) (by rw [HV.out]) (by rw [HV.out]) (HR.out.turn (hch _) ((hr2 _).trans ?_) rfl) (hch _) rfl
        show some #[Value.slice A s1.xs.length c, Value.int IntKind.i64 (s.at_ : Int), Value.int IntKind.i64 50] = _
        rw [HX.out]; rfl
      · have HV : Hid (s.raw most = (((s.int most).2.xs.drop (s.int most).2.at_).take (s.int most).1, ⟨s.xs, (s.int most).2.at_ + (s.int most).1, 0⟩)) := Lib.hid (by unfold Rd.raw; rw [if_pos h0, if_pos h1, if_neg h2])
        have hat := hok.at_
        have HX := Lib.hid hxs
        have HE := Lib.hid h1
        have hl2 : (s.int most).2.xs.length ≤ 1000000000 := by rw [hxs]; exact hlen
        generalize (s.int most).1 = n at *
        generalize (s.int most).2 = s1 at *
        have t1 : ¬ (s1.xs.length : Int) - (s1.at_ : Int) < (n : Int) := by omega
        have E1 : IntKind.i64.wrap ((s1.xs.length : Int) - (s1.at_ : Int)) = (s1.xs.length : Int) - (s1.at_ : Int) := IntWalk.i64_in _ (by have := hok.len; omega)
        have E2 : IntKind.i64.wrap ((s1.at_ : Int) + (n : Int)) = (s1.at_ : Int) + (n : Int) := IntWalk.i64_in _ (by omega)
        have hle : s1.at_ + n ≤ s1.xs.length := by omega
        obtain ⟨l, hl⟩ : ∃ l, l = (s1.xs.drop s1.at_).take n := ⟨_, rfl⟩
        have HLv : Hid ((s1.xs.drop s1.at_).take n = l) := Lib.hid hl.symm
        have HLn : Hid (l.length = n) := Lib.hid (by rw [hl]; simp; omega)
        have HBl : Hid (∀ W, Bys W A s1.xs → Bys W (cutA A c s1.at_) l) := Lib.hid fun W h => by rw [hl]; exact cutA_bys h hle (by have := hR.cap; rw [← hxs] at this; exact this)
        have hcut := fun W => run_cutb A s1.xs.length c s1.at_ n (by have := hR.cap; rw [← hxs] at this; omega) W
        have HCut := Lib.hid hcut
        clear hs hR h0 h1 h2 hok hxs hl hcut hat
        go_enter Try.func36, Try.ntmps36
        go_wp2_with fail
        refine (HI.out).mono ?_
        rintro e w1 ⟨rfl, k1, k2⟩
        have H1 := Lib.hid k1
        have H2 := Lib.hid k2
        have d0 : w1.cell? ⟨g, 0, none⟩ = some (.slice A s1.xs.length c) := H1.out.cells 0
        have d1 : w1.cell? ⟨g, 1, none⟩ = some (.int .i64 (s1.at_ : Int)) := H1.out.cells 1
        have d2 : w1.cell? ⟨g, 2, none⟩ = some (.int .i64 0) := (k1.cells 2).trans (by show some (Value.int IntKind.i64 s1.e) = _; rw [HE.out])
        clear k1 k2 c1 c2
        go_wp2_with fail
        go_quiet (fail)
        clear d0 d1 d2
        go_wp2_with fail
        (refine region_still_tail 16 (fun wd => RfAt wd g A c s1 ∧ Chg (only g) w wd) (by kernel_rfl) (by kernel_rfl) (⟨(H1.out.drewN _).drew, (H2.out.drewN _).drew⟩) (fun wd hwd => ?_); (obtain ⟨r1, q1⟩ := hwd); have d0 : wd.cell? ⟨g, 0, none⟩ = some (Value.slice A s1.xs.length c) := r1.cells 0; have d1 : wd.cell? ⟨g, 1, none⟩ = some (Value.int IntKind.i64 (s1.at_ : Int)) := r1.cells 1; have hcut := HCut.out; have R1 := Lib.hid r1; have Q1 := Lib.hid q1; clear r1 q1; simp only [List.take_succ_cons, List.take_zero, List.drop_succ_cons, List.drop_zero]; (repeat still_step))
        (try refine wpStill_nil ?_)
        go_wp2_with (at_builtin; refine wpList_appb rfl _ _ rfl (.slice none 0 0) [] l (cutA A c s1.at_) n (c - s1.at_) (OwnB.nil _) (HBl.out _ R1.out.bys) rfl rfl HLn.out (by have := HLn.out; simp; omega) ?_; intro v' w3 hAp; obtain ⟨A3, c3, rfl⟩ := hAp.form; have r3 := R1.out.chg hAp.chg (fun h => by cases h) (fun a _ h => by cases h); have e1 : w3.cell? ⟨g, 1, none⟩ = some (.int .i64 (s1.at_ : Int)) := r3.cells 1; have f1 := r3.free 1; have R3 := Lib.hid r3; have HAp := Lib.hid hAp; clear hAp r3 d0 d1)
        go_ret
        have hch := (Q1.out.andThen HAp.out.chg (fun k hk => by cases hk)).setCell (p := ⟨g, 1, none⟩) (.inl rfl) (.int .i64 ((s1.at_ : Int) + (n : Int)))
        have h1 := HAp.out.1
        have hz : ([] : List Nat).length + l.length = l.length := by simp
        rw [List.nil_append, hz] at h1
        refine ⟨A3, c3, ?_, ?_, ?_, ?_, hch⟩
        · rw [HV.out, HLv.out]; first | rfl | (rw [hz]; rfl)
        · rw [HV.out, HLv.out]
          exact h1.chg (only_set g 1 _) (fun k hk e => by
            cases e
            have := HAp.out.2.2
            rcases this with h | h
            · rw [hz] at h; rw [h] at hk; cases hk
            · rw [hz] at h; rw [h] at hk; cases hk; have := R1.out.lt; omega)
        · intro a ha
          subst ha
          rcases HAp.out.2.2 with h | h
          · cases h
          · simp only [Value.ownBlock, Option.some.injEq] at h
            have := Q1.out.size
            omega
        · rw [HV.out]
          refine HR.out.turn hch ((row_set R3.out.row 1 _).trans ?_) rfl
          show some #[Value.slice A s1.xs.length c, Value.int IntKind.i64 ((s1.at_ : Int) + (n : Int)), Value.int IntKind.i64 s1.e] = _
          rw [HX.out, HE.out]; rfl
    · have HV : Hid (s.raw most = ([], (s.int most).2)) := Lib.hid (by unfold Rd.raw; rw [if_pos h0, if_neg h1])
      generalize (s.int most).1 = n at *
      generalize (s.int most).2 = s1 at *
      have e0 : (s1.e != 0) = true := bne_iff_ne.2 h1
      clear hs hR h0 h1 hok hxs
      go_enter Try.func36, Try.ntmps36
      go_wp2_with fail
      refine (HI.out).mono ?_
      rintro e w1 ⟨rfl, k1, k2⟩
      have H1 := Lib.hid k1
      have H2 := Lib.hid k2
      have d2 : w1.cell? ⟨g, 2, none⟩ = some (.int .i64 s1.e) := k1.cells 2
      clear k1 k2 c1 c2
      go_wp2_with fail
      go_ret
      exact RawPostC.of_none (by rw [HV.out]) (by rw [HV.out]) H1.out H2.out rfl
  · have HV : Hid (s.raw most = ([], s)) := Lib.hid (by unfold Rd.raw; rw [if_neg h0])
    have e0 : (s.e != 0) = true := bne_iff_ne.2 h0
    clear hs hR c1 h0
    go_enter Try.func36, Try.ntmps36
    go_wp2_with fail
    go_ret
    exact RawPostC.of_none (by rw [HV.out]) (by rw [HV.out]) HR.out (Chg.refl _ _) rfl
set_option maxRecDepth 100000 in
set_option maxHeartbeats 2000000 in
theorem fdone_quiet (g : Nat) (A : Option Addr) (c : Nat) (s : Rd) (hs : s.Ok) (w : World) (hR : RfAt w g A c s) :
    Calls Try.prog 37 #[.pointer (some ⟨g, 0, none⟩)] w fun e w' => e = .returned (.int .i64 s.done) ∧ ∃ k, w' = w.drewN k := by
  have HR := Lib.hid hR
  have c0 : w.cell? ⟨g, 0, none⟩ = some (.slice A s.xs.length c) := hR.cells 0
  have c1 : w.cell? ⟨g, 1, none⟩ = some (.int .i64 (s.at_ : Int)) := hR.cells 1
  have c2 : w.cell? ⟨g, 2, none⟩ = some (.int .i64 s.e) := hR.cells 2
  by_cases h0 : s.e = 0
  · rw [h0] at c2
    by_cases h1 : s.at_ < s.xs.length
    · have HV : Hid (s.done = 52) := Lib.hid (by unfold Rd.done; rw [if_pos ⟨h0, h1⟩])
      generalize s.xs.length = n at *
      clear hs hR h0
      go_enter Try.func37, Try.ntmps37
      go_wp2_with fail
      go_quiet (fail)
      go_wp2_with fail
      go_ret
      exact ⟨by rw [HV.out]; rfl, _, rfl⟩
    · have HV : Hid (s.done = 0) := Lib.hid (by unfold Rd.done; rw [if_neg (fun h => h1 h.2)]; exact h0)
      have h2 : decide (s.at_ < s.xs.length) = false := decide_eq_false h1
      generalize s.xs.length = n at *
      clear hs hR h0 h1
      go_enter Try.func37, Try.ntmps37
      go_wp2_with fail
      go_quiet (fail)
      go_wp2_with fail
      go_ret
      exact ⟨by rw [HV.out]; rfl, _, rfl⟩
  · have HV : Hid (s.done = s.e) := Lib.hid (by unfold Rd.done; rw [if_neg (fun h => h0 h.1)])
    have e0 : (s.e == 0) = false := beq_eq_false_iff_ne.2 h0
    generalize s.xs.length = n at *
    clear hs hR h0
    go_enter Try.func37, Try.ntmps37
    go_wp2_with fail
    go_quiet (fail)
    go_wp2_with fail
    go_ret
    exact ⟨by rw [HV.out]; rfl, _, rfl⟩
end Go.Proofs.Yteppkbjjldnniaa

/-
  What bullionref05's reader does: numbers from 0 on, strings of bytes, what is left.
-/
import Derived.Test.YtnakkjgnjffkpaaRef05b
namespace Go.Proofs.Ytnakkjgnjffkpaa
open Go.RowKit
set_option linter.unusedVariables false

set_option maxRecDepth 100000 in
set_option maxHeartbeats 4000000 in
theorem fint_any (g : Nat) (A : Option Addr) (c : Nat) (s : Rd) (hs : s.Ok) (most : Int) (hmost : i64ok most) (w : World) (hR : RfAt w g A c s) :
    Calls Try.prog 76 #[.pointer (some ⟨g, 0, none⟩), .int .i64 most] w (RfPost w g A c (.int .i64 (((s.int most).1 : Nat) : Int)) (s.int most).2) := by
  unfold i64ok at hmost
  by_cases hneg : 0 ≤ most
  · obtain ⟨m, rfl⟩ := Int.eq_ofNat_of_zero_le hneg
    have HP := Lib.hid (fnum_any g A c s hs m (by omega) w hR)
    have HV : Hid (s.int (m : Int) = s.num m) := Lib.hid (by unfold Rd.int; rw [if_pos hneg]; rfl)
    have hle := s.num_le m
    have E1 : IntKind.u64.wrap (m : Int) = (m : Int) := by rw [IntKind.wrap_u64]; omega
    have E2 : IntKind.i64.wrap ((s.num m).1 : Int) = ((s.num m).1 : Int) := IntWalk.i64_in _ (by omega)
    rw [HV.out]
    generalize (s.num m).1 = v at *
    generalize (s.num m).2 = s' at *
    clear hs hR HV
    go_enter Try.func76, Try.ntmps76
    go_wp2_with fail
    refine (HP.out).mono ?_
    rintro e w1 ⟨rfl, h1, h2⟩
    have H1 := Lib.hid h1
    have H2 := Lib.hid h2
    clear h1 h2
    go_wp2_with fail
    go_ret
    exact ⟨rfl, H1.out, H2.out⟩
  · have HR := Lib.hid hR
    have HP := Lib.hid (fnum_any g A c s hs 18446744073709551615 (by omega) w hR)
    have c1 : w.cell? ⟨g, 1, none⟩ = some (.int .i64 (s.at_ : Int)) := hR.cells 1
    have hneg' : ¬ (0 : Int) ≤ most := hneg
    have hx := s.num_xs 18446744073709551615
    have HX := Lib.hid hx
    have key : ((s.num 18446744073709551615).2.e = 0 ∧ s.int most = (0, ⟨s.xs, s.at_, 51⟩)) ∨ ((s.num 18446744073709551615).2.e ≠ 0 ∧ s.int most = (0, ⟨s.xs, s.at_, (s.num 18446744073709551615).2.e⟩)) := by
      by_cases h0 : s.e = 0
      · by_cases h1 : s.scan.2.2 = 0
        · rw [Rd.num_good h0 h1 (by have := s.scan_lt.1; omega)]
          exact .inl ⟨rfl, by unfold Rd.int; rw [if_neg hneg, if_pos h0, if_pos h1]⟩
        · rw [Rd.num_fail h0 h1]
          exact .inr ⟨h1, by unfold Rd.int; rw [if_neg hneg, if_pos h0, if_neg h1]⟩
      · rw [Rd.num_bad h0]
        exact .inr ⟨h0, by unfold Rd.int; rw [if_neg hneg, if_neg h0]⟩
    generalize (s.num 18446744073709551615).1 = v at *
    generalize (s.num 18446744073709551615).2 = s1 at *
    rcases key with ⟨h1, h2⟩ | ⟨h1, h2⟩
    · have HV := Lib.hid h2
      have HE := Lib.hid h1
      clear hs hR hx h1 h2 hneg
      go_enter Try.func76, Try.ntmps76
      go_wp2_with fail
      refine (HP.out).mono ?_
      rintro e w1 ⟨rfl, k1, k2⟩
      have H1 := Lib.hid k1
      have H2 := Lib.hid k2
      have e1 : w1.cell? ⟨g, 1, none⟩ = some (.int .i64 (s1.at_ : Int)) := k1.cells 1
      have e2 : w1.cell? ⟨g, 2, none⟩ = some (.int .i64 0) := (k1.cells 2).trans (by show some (Value.int IntKind.i64 s1.e) = _; rw [HE.out])
      have g1 := k1.free 1
      have g2 := k1.free 2
      clear k1 k2 c1
      go_wp2_with fail
      go_ret
      have hch := (H2.out.setCell (p := ⟨g, 1, none⟩) (.inl rfl) (.int .i64 (s.at_ : Int))).setCell (p := ⟨g, 2, none⟩) (.inl rfl) (.int .i64 51)
      refine RdPostC.of_turn ⟨s.xs, s.at_, 51⟩ HR.out hch ((row_set (row_set H1.out.row 1 _) 2 _).trans ?_) rfl (by rw [HV.out]) (by rw [HV.out]; rfl)
      show some #[Value.slice A s1.xs.length c, Value.int IntKind.i64 (s.at_ : Int), Value.int IntKind.i64 51] = _
      rw [HX.out]; rfl
    · have HV := Lib.hid h2
      have e0 : (s1.e == 0) = false := beq_eq_false_iff_ne.2 h1
      clear hs hR hx h1 h2 hneg
      go_enter Try.func76, Try.ntmps76
      go_wp2_with fail
      refine (HP.out).mono ?_
      rintro e w1 ⟨rfl, k1, k2⟩
      have H1 := Lib.hid k1
      have H2 := Lib.hid k2
      have e1 : w1.cell? ⟨g, 1, none⟩ = some (.int .i64 (s1.at_ : Int)) := k1.cells 1
      have e2 : w1.cell? ⟨g, 2, none⟩ = some (.int .i64 s1.e) := k1.cells 2
      have g1 := k1.free 1
      clear k1 k2 c1
      go_wp2_with fail
      go_ret
      have hch := H2.out.setCell (p := ⟨g, 1, none⟩) (.inl rfl) (.int .i64 (s.at_ : Int))
      refine RdPostC.of_turn ⟨s.xs, s.at_, s1.e⟩ HR.out hch ((row_set H1.out.row 1 _).trans ?_) rfl (by rw [HV.out]) (by rw [HV.out]; rfl)
      show some #[Value.slice A s1.xs.length c, Value.int IntKind.i64 (s.at_ : Int), Value.int IntKind.i64 s1.e] = _
      rw [HX.out]; rfl
set_option maxRecDepth 100000 in
set_option maxHeartbeats 2000000 in
theorem fdone_quiet (g : Nat) (A : Option Addr) (c : Nat) (s : Rd) (hs : s.Ok) (w : World) (hR : RfAt w g A c s) :
    Calls Try.prog 79 #[.pointer (some ⟨g, 0, none⟩)] w fun e w' => e = .returned (.int .i64 s.done) ∧ ∃ k, w' = w.drewN k := by
  have HR := Lib.hid hR
  have c0 : w.cell? ⟨g, 0, none⟩ = some (.slice A s.xs.length c) := hR.cells 0
  have c1 : w.cell? ⟨g, 1, none⟩ = some (.int .i64 (s.at_ : Int)) := hR.cells 1
  have c2 : w.cell? ⟨g, 2, none⟩ = some (.int .i64 s.e) := hR.cells 2
  by_cases h0 : s.e = 0
  · rw [h0] at c2
    by_cases h1 : s.at_ < s.xs.length
    · have HV : Hid (s.done = 52) := Lib.hid (by unfold Rd.done; rw [if_pos ⟨h0, h1⟩])
      generalize s.xs.length = n at *
      clear hs hR h0
      go_enter Try.func79, Try.ntmps79
      go_wp2_with fail
      go_quiet (fail)
      go_wp2_with fail
      go_ret
      exact ⟨by rw [HV.out]; rfl, _, rfl⟩
    · have HV : Hid (s.done = 0) := Lib.hid (by unfold Rd.done; rw [if_neg (fun h => h1 h.2)]; exact h0)
      have h2 : decide (s.at_ < s.xs.length) = false := decide_eq_false h1
      generalize s.xs.length = n at *
      clear hs hR h0 h1
      go_enter Try.func79, Try.ntmps79
      go_wp2_with fail
      go_quiet (fail)
      go_wp2_with fail
      go_ret
      exact ⟨by rw [HV.out]; rfl, _, rfl⟩
  · have HV : Hid (s.done = s.e) := Lib.hid (by unfold Rd.done; rw [if_neg (fun h => h0 h.1)])
    have e0 : (s.e == 0) = false := beq_eq_false_iff_ne.2 h0
    generalize s.xs.length = n at *
    clear hs hR h0
    go_enter Try.func79, Try.ntmps79
    go_wp2_with fail
    go_quiet (fail)
    go_wp2_with fail
    go_ret
    exact ⟨by rw [HV.out]; rfl, _, rfl⟩
end Go.Proofs.Ytnakkjgnjffkpaa

/-
  What package coder's writer does: numbers, flags, bytes; what it hands out.
-/
import Derived.Test.YtnakkjgnjffkpaaCoder
import Derived.Deep.QuietTactic
import Derived.BigQuiet
namespace Go.Proofs.Ytnakkjgnjffkpaa
open Go.RowKit
set_option linter.unusedVariables false

theorem RetB.bys {w w' : World} {l : List Nat} {e : Ending} (h : RetB w l e w') : ∃ A c, e = .returned (.slice A l.length c) ∧ Bys w' A l ∧ OwnB w' (.slice A l.length c) l ∧ (∀ a, A = some a → w.heap.size ≤ a.block) ∧ Below w.heap.size w w' := by
  obtain ⟨A, c, rfl, ho, ha, hb⟩ := h
  obtain ⟨A', c', e, hB, _⟩ := ho.form
  cases e
  exact ⟨A, c, rfl, hB, ho, ha, hb⟩
theorem WtPost.cast {w w' : World} {g : Nat} {o : Option Nat} {s s' : Wt} {e : Ending} (h : WtPost w g o s e w') (hs : s = s') : WtPost w g o s' e w' := hs ▸ h
theorem ret_sl {A : Option Addr} {c n n' : Nat} {v : Value} (h : n = n') : Ending.returned (.tuple #[.slice A n c, v]) = .returned (.tuple #[.slice A n' c, v]) := by rw [h]
def outL (s : Wt) : List Nat := if s.e = 0 then s.xs else []
/-- What a writer hands out: bytes of their own, or its failure. -/
def OutPost (w : World) (s : Wt) (e : Ending) (w' : World) : Prop := ∃ A c, e = .returned (.tuple #[.slice A (outL s).length c, .int .i64 s.e]) ∧ OwnB w' (.slice A (outL s).length c) (outL s) ∧ (∀ a, A = some a → w.heap.size ≤ a.block) ∧ Below w.heap.size w w'
set_option maxHeartbeats 1000000 in
theorem wnum_any (g : Nat) (o : Option Nat) (s : Wt) (hs : s.Ok) (n : Nat) (hn : n < 18446744073709551616) (w : World) (hW : WtAt w g o s) : Calls Try.prog 64 #[.pointer (some ⟨g, 0, none⟩), .int .u64 n] w (WtPost w g o (s.num n)) := by
  have HW := Lib.hid hW
  obtain ⟨v, hv, hne, hr, hown⟩ := hW
  have c1 := row_cell hr 1
  have HF := Lib.hid (cform_any n hn)
  by_cases h0 : s.e = 0
  · have HP := Lib.hid (fun W A c (hb : Bys W A (formN n)) (hW : WtAt W g o s) => wput_any g o s hs h0 A (formN n).length c (formN n) rfl (by have := formN_len10 hn; omega) W hW hb)
    have HG := Lib.hid (good_yes g w (by rw [c1, h0]; rfl))
    clear hv hne hr hown c1 h0 hs
    go_enter Try.func64, Try.ntmps64
    go_wp2_with fail
    refine (HG.out).mono ?_
    rintro e w1 ⟨rfl, rfl⟩
    go_wp2_with fail
    refine (HF.out _).mono ?_
    intro e w2 hF
    obtain ⟨A, c, rfl, hB, _, _, hb⟩ := hF.bys
    have H2 := Lib.hid (HP.out w2 A c hB (HW.out.stay hb))
    have HB := Lib.hid hb
    clear hF hB hb
    go_wp2_with fail
    refine (H2.out).mono ?_
    intro e w3 hP
    have he := hP.1
    unfold unitE at he
    subst he
    have HQ := Lib.hid (hP.before HB.out)
    clear hP
    go_wp2_with fail
    first | go_end0 | refine bodyPost_ret (results_none rfl _ _ _) rfl ?_
    exact HQ.out
  · have HG := Lib.hid (good_no g s.e h0 w (by rw [c1]; rfl))
    have HV : Hid (s.num n = s) := Lib.hid (Wt.put_bad h0)
    clear hv hne hr hown c1 h0 hs
    go_enter Try.func64, Try.ntmps64
    go_wp2_with fail
    refine (HG.out).mono ?_
    rintro e w1 ⟨rfl, rfl⟩
    go_wp2_with fail
    first | go_end0 | refine bodyPost_ret (results_none rfl _ _ _) rfl ?_
    exact (WtPost.of_same HW.out).cast HV.out.symm
theorem wnum_nil (n : Int) (w : World) : Calls Try.prog 64 #[.pointer none, .int .u64 n] w fun e w' => e = unitE ∧ w = w' := by
  go_enter Try.func64, Try.ntmps64
  go_wp2_with fail
  first | go_end0 | refine bodyPost_ret (results_none rfl _ _ _) rfl ?_
  exact ⟨rfl, rfl⟩
set_option maxHeartbeats 1000000 in
theorem wint_any (g : Nat) (o : Option Nat) (s : Wt) (hs : s.Ok) (n : Int) (hn : i64ok n) (w : World) (hW : WtAt w g o s) : Calls Try.prog 62 #[.pointer (some ⟨g, 0, none⟩), .int .i64 n] w (WtPost w g o (s.int n)) := by
  have HW := Lib.hid hW
  unfold i64ok at hn
  by_cases hneg : n < 0
  · obtain ⟨v, rfl, hne, hr, hown⟩ := hW
    have c1 := row_cell hr 1
    have f1 := row_frozen hr 1
    have HN := Lib.hid hne
    have HR := Lib.hid hr
    have HO := Lib.hid hown
    by_cases h0 : s.e = 0
    · have HV : Hid (s.int n = ⟨s.xs, 2⟩) := Lib.hid (by unfold Wt.int; rw [if_pos hneg, if_pos h0])
      have HG := Lib.hid (fail_set g 2 w (by rw [c1, h0]; rfl) f1)
      clear hr hown hne c1 f1 h0 hs
      go_enter Try.func62, Try.ntmps62
      go_wp2_with fail
      refine (HG.out).mono ?_
      rintro e w1 ⟨rfl, rfl⟩
      go_wp2_with fail
      first | go_end0 | refine bodyPost_ret (results_none rfl _ _ _) rfl ?_
      refine WtPost.cast ⟨rfl, v.ownBlock, ?_, .inl rfl, (Chg.refl _ _).setCell (.inl (.inl rfl)) _⟩ HV.out.symm
      exact ⟨_, rfl, HN.out, row_set HR.out 1 _, HO.out.chg ((Chg.refl (fun k => k = g) _).setCell (.inl rfl) _) (fun k hk e => HN.out (by rw [hk, e]))⟩
    · have HV : Hid (s.int n = s) := Lib.hid (by unfold Wt.int; rw [if_pos hneg, if_neg h0])
      have HG := Lib.hid (fail_keep g s.e 2 h0 w (by rw [c1]; rfl))
      clear hr hown hne c1 f1 h0 hs
      go_enter Try.func62, Try.ntmps62
      go_wp2_with fail
      refine (HG.out).mono ?_
      rintro e w1 ⟨rfl, rfl⟩
      go_wp2_with fail
      first | go_end0 | refine bodyPost_ret (results_none rfl _ _ _) rfl ?_
      exact (WtPost.of_same HW.out).cast HV.out.symm
  · obtain ⟨m, rfl⟩ := Int.eq_ofNat_of_zero_le (show 0 ≤ n by omega)
    have HP := Lib.hid (wnum_any g o s hs m (by omega) w hW)
    have HV : Hid (s.int (m : Int) = s.num m) := Lib.hid (by unfold Wt.int; rw [if_neg hneg]; rfl)
    have hneg' : ¬ (m : Int) < 0 := hneg
    have E1 : IntKind.u64.wrap (m : Int) = (m : Int) := by rw [IntKind.wrap_u64]; omega
    clear hW hs
    go_enter Try.func62, Try.ntmps62
    go_wp2_with fail
    refine (HP.out).mono ?_
    intro e w1 hP
    have he := hP.1
    unfold unitE at he
    subst he
    have HQ := Lib.hid hP
    clear hP
    go_wp2_with fail
    first | go_end0 | refine bodyPost_ret (results_none rfl _ _ _) rfl ?_
    exact HQ.out.cast HV.out.symm
theorem wint_nil (n : Int) (w : World) : Calls Try.prog 62 #[.pointer none, .int .i64 n] w fun e w' => e = unitE ∧ w = w' := by
  go_enter Try.func62, Try.ntmps62
  go_wp2_with fail
  first | go_end0 | refine bodyPost_ret (results_none rfl _ _ _) rfl ?_
  exact ⟨rfl, rfl⟩
def flagN (on : Bool) : Nat := if on then 1 else 0
theorem wflag_any (g : Nat) (o : Option Nat) (s : Wt) (hs : s.Ok) (on : Bool) (w : World) (hW : WtAt w g o s) : Calls Try.prog 63 #[.pointer (some ⟨g, 0, none⟩), .bool on] w (WtPost w g o (s.num (flagN on))) := by
  cases on
  · have HP := Lib.hid (wnum_any g o s hs 0 (by omega) w hW)
    clear hW hs
    go_enter Try.func63, Try.ntmps63
    go_wp2_with fail
    refine (HP.out).mono ?_
    intro e w1 hP
    have he := hP.1
    unfold unitE at he
    subst he
    have HQ := Lib.hid hP
    clear hP
    go_wp2_with fail
    first | go_end0 | refine bodyPost_ret (results_none rfl _ _ _) rfl ?_
    exact HQ.out
  · have HP := Lib.hid (wnum_any g o s hs 1 (by omega) w hW)
    clear hW hs
    go_enter Try.func63, Try.ntmps63
    go_wp2_with fail
    refine (HP.out).mono ?_
    intro e w1 hP
    have he := hP.1
    unfold unitE at he
    subst he
    have HQ := Lib.hid hP
    clear hP
    go_wp2_with fail
    first | go_end0 | refine bodyPost_ret (results_none rfl _ _ _) rfl ?_
    exact HQ.out
theorem wflag_nil (on : Bool) (w : World) : Calls Try.prog 63 #[.pointer none, .bool on] w fun e w' => e = unitE ∧ w = w' := by
  cases on
  all_goals
    go_enter Try.func63, Try.ntmps63
    go_wp2_with fail
    refine (wnum_nil _ _).mono ?_
    rintro e w1 ⟨rfl, rfl⟩
    go_wp2_with fail
    first | go_end0 | refine bodyPost_ret (results_none rfl _ _ _) rfl ?_
    exact ⟨rfl, rfl⟩
set_option maxHeartbeats 1000000 in
theorem wout_any (g : Nat) (o : Option Nat) (s : Wt) (hs : s.Ok) (w : World) (hW : WtAt w g o s) : Calls Try.prog 65 #[.pointer (some ⟨g, 0, none⟩)] w (OutPost w s) := by
  obtain ⟨v, rfl, hne, hr, hown⟩ := hW
  obtain ⟨A0, c0, rfl, hB0, _⟩ := hown.form
  have c1 := row_cell hr 1
  by_cases h0 : s.e = 0
  · have HG := Lib.hid (good_yes g w (by rw [c1, h0]; rfl))
    have HV : Hid (outL s = s.xs) := Lib.hid (by simp [outL, h0])
    have H0 := Lib.hid h0
    have HB := Lib.hid hB0
    have HL := Lib.hid hs.len
    have k0 := row_cell hr 0
    clear hne hr hown c1 h0 hs hB0
    go_enter Try.func65, Try.ntmps65
    go_wp2_with fail
    refine (HG.out).mono ?_
    rintro e w1 ⟨rfl, rfl⟩
    go_wp2_with (at_builtin; refine wpList_appb rfl _ _ rfl (.slice none 0 0) [] s.xs A0 _ c0 (OwnB.nil _) HB.out rfl rfl rfl (by have := HL.out; simp; omega) ?_; intro v' w3 hAp; obtain ⟨A3, c3, rfl⟩ := hAp.form; have HAp := Lib.hid hAp; clear hAp)
    go_ret2
    have hAp := HAp.out
    have h1 := hAp.1
    rw [List.nil_append, show ([] : List Nat).length + s.xs.length = s.xs.length by simp] at h1
    refine ⟨A3, c3, by rw [HV.out, H0.out]; exact ret_sl (by simp), by rw [HV.out]; exact h1, fun a ha => ?_, (Below.refl _ _).grown hAp.2.1 (Nat.le_refl _) (fun k hk => by cases hk)⟩
    subst ha
    rcases hAp.2.2 with h | h
    · cases h
    · simp only [Value.ownBlock, Option.some.injEq] at h; omega
  · have HG := Lib.hid (good_no g s.e h0 w (by rw [c1]; rfl))
    have HV : Hid (outL s = []) := Lib.hid (by simp [outL, h0])
    clear hne hr hown h0 hs hB0
    go_enter Try.func65, Try.ntmps65
    go_wp2_with fail
    refine (HG.out).mono ?_
    rintro e w1 ⟨rfl, rfl⟩
    go_wp2_with fail
    go_quiet (fail)
    go_wp2_with fail
    go_ret2
    exact ⟨none, 0, by rw [HV.out]; rfl, by rw [HV.out]; exact OwnB.nil _, (fun a h => by cases h), below_drewN (Below.refl _ _) _⟩
theorem wout_nil (w : World) : Calls Try.prog 65 #[.pointer none] w fun e w' => e = .returned (.tuple #[.slice none 0 0, .int .i64 1]) ∧ w = w' := by
  go_enter Try.func65, Try.ntmps65
  go_wp2_with fail
  go_ret2
  exact ⟨rfl, rfl⟩
end Go.Proofs.Ytnakkjgnjffkpaa

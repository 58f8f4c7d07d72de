/-
  What package coder's writer does: numbers, flags, bytes; what it hands out.
-/
import Derived.Test.YtkkncijbedfdfaaCoder
import Derived.Deep.QuietTactic
import Derived.BigQuiet
namespace Go.Proofs.Ytkkncijbedfdfaa
open Go.RowKit
set_option linter.unusedVariables false

theorem RetB.bys {w w' : World} {l : List Nat} {e : Ending} (h : RetB w l e w') : ∃ A c, e = .returned (.slice A l.length c) ∧ Bys w' A l ∧ OwnB w' (.slice A l.length c) l ∧ (∀ a, A = some a → w.heap.size ≤ a.block) ∧ Below w.heap.size w w' := by
  obtain ⟨A, c, rfl, ho, ha, hb⟩ := h
  obtain ⟨A', c', e, hB, _⟩ := ho.form
  cases e
  exact ⟨A, c, rfl, hB, ho, ha, hb⟩
theorem WtPost.cast {w w' : World} {g : Nat} {o : Option Nat} {s s' : Wt} {e : Ending} (h : WtPost w g o s e w') (hs : s = s') : WtPost w g o s' e w' := hs ▸ h
theorem ret_sl {A : Option Addr} {c n n' : Nat} {v : Value} (h : n = n') : Ending.returned (.tuple #[.slice A n c, v]) = .returned (.tuple #[.slice A n' c, v]) := by rw [h]
def outL (s : Wt) : List Nat := if s.e = 0 then s.xs else []
/-- What a writer hands out: bytes of their own, or its failure. -/
def OutPost (w : World) (s : Wt) (e : Ending) (w' : World) : Prop := ∃ A c, e = .returned (.tuple #[.slice A (outL s).length c, .int .i64 s.e]) ∧ OwnB w' (.slice A (outL s).length c) (outL s) ∧ (∀ a, A = some a → w.heap.size ≤ a.block) ∧ Below w.heap.size w w'
set_option maxRecDepth 100000 in
set_option maxHeartbeats 1000000 in
theorem wraw_any (g : Nat) (o : Option Nat) (s : Wt) (hs : s.Ok) (A : Option Addr) (n c : Nat) (b : List Nat) (hn : b.length = n) (hlen : n ≤ 1000000) (w : World) (hb : Bys w A b) (hW : WtAt w g o s) : Calls Try.prog 26 #[.pointer (some ⟨g, 0, none⟩), .slice A n c] w (WtPost w g o (s.raw b)) := by
  have HW := Lib.hid hW
  obtain ⟨v, hv, hne, hr, hown⟩ := hW
  have c1 := row_cell hr 1
  have HF := Lib.hid (cform_any n (by omega))
  have HBb := Lib.hid hb
  have HN := Lib.hid hn
  by_cases h0 : s.e = 0
  · have HP := Lib.hid (fun W A k c (hk : (formN n ++ b).length = k) (hb : Bys W A (formN n ++ b)) (hW : WtAt W g o s) => wput_any g o s hs h0 A k c (formN n ++ b) hk (by have := formN_len10 (n := n) (by omega); rw [List.length_append] at hk; omega) W hW hb)
    have HG := Lib.hid (good_yes g w (by rw [c1, h0]; rfl))
    have HV : Hid (s.put (formN n ++ b) = s.raw b) := Lib.hid (by unfold Wt.raw; rw [hn])
    have HL := Lib.hid (formN_len10 (n := n) (by omega))
    have E1 : IntKind.u64.wrap (n : Int) = (n : Int) := by rw [IntKind.wrap_u64]; omega
    clear hv hne hr hown c1 h0 hs hb hn
    go_enter Try.func26, Try.ntmps26
    go_wp2_with fail
    refine (HG.out).mono ?_
    rintro e w1 ⟨rfl, rfl⟩
    go_wp2_with fail
    refine (HF.out _).mono ?_
    intro e w2 hF
    obtain ⟨A2, c2, rfl, hB, hO, hA, hb⟩ := hF.bys
    have HB := Lib.hid hb
    have HO := Lib.hid hO
    have HB2 := Lib.hid (HBb.out.stay hb)
    have HA := Lib.hid hA
    clear hF hB hb hO hA
    go_wp2_with (at_builtin; refine wpList_appb rfl _ _ rfl _ (formN n) b A n c HO.out HB2.out rfl rfl HN.out (by rw [HN.out]; have := HL.out; omega) ?_; intro v' w3 hAp; obtain ⟨A3, c3, rfl⟩ := hAp.form; have HAp := Lib.hid hAp; clear hAp)
    have hb3 : Below w.heap.size w w3 := (HB.out).grown HAp.out.2.1 HB.out.size (fun k hk => by
      cases A2 with
      | none => cases hk
      | some a => cases hk; exact HA.out a rfl)
    obtain ⟨A4, c4, e4, hB4, hrest⟩ := HAp.out.1.form
    clear hrest
    simp only [Value.slice.injEq] at e4
    obtain ⟨rfl, hl0, rfl⟩ := e4
    clear hl0
    have H3 := Lib.hid (HP.out w3 A3 _ c3 (List.length_append ..) hB4 (HW.out.stay hb3))
    have HB3 := Lib.hid hb3
    clear hb3 hB4
    refine (H3.out).mono ?_
    intro e w4 hP
    have he := hP.1
    unfold unitE at he
    subst he
    have HQ := Lib.hid (hP.before HB3.out)
    clear hP
    go_wp2_with fail
    first | go_end0 | refine bodyPost_ret (results_none rfl _ _ _) rfl ?_
    exact HQ.out.cast HV.out
  · have HG := Lib.hid (good_no g s.e h0 w (by rw [c1]; rfl))
    have HV : Hid (s.raw b = s) := Lib.hid (Wt.put_bad h0)
    clear hv hne hr hown c1 h0 hs hb hn
    go_enter Try.func26, Try.ntmps26
    go_wp2_with fail
    refine (HG.out).mono ?_
    rintro e w1 ⟨rfl, rfl⟩
    go_wp2_with fail
    first | go_end0 | refine bodyPost_ret (results_none rfl _ _ _) rfl ?_
    exact (WtPost.of_same HW.out).cast HV.out.symm
theorem wraw_nil (v : Value) (w : World) : Calls Try.prog 26 #[.pointer none, v] w fun e w' => e = unitE ∧ w = w' := by
  go_enter Try.func26, Try.ntmps26
  go_wp2_with fail
  first | go_end0 | refine bodyPost_ret (results_none rfl _ _ _) rfl ?_
  exact ⟨rfl, rfl⟩
set_option maxHeartbeats 1000000 in
theorem wout_any (g : Nat) (o : Option Nat) (s : Wt) (hs : s.Ok) (w : World) (hW : WtAt w g o s) : Calls Try.prog 27 #[.pointer (some ⟨g, 0, none⟩)] w (OutPost w s) := by
  obtain ⟨v, rfl, hne, hr, hown⟩ := hW
  obtain ⟨A0, c0, rfl, hB0, _⟩ := hown.form
  have c1 := row_cell hr 1
  by_cases h0 : s.e = 0
  · have HG := Lib.hid (good_yes g w (by rw [c1, h0]; rfl))
    have HV : Hid (outL s = s.xs) := Lib.hid (by simp [outL, h0])
    have H0 := Lib.hid h0
    have HB := Lib.hid hB0
    have HL := Lib.hid hs.len
    have k0 := row_cell hr 0
    clear hne hr hown c1 h0 hs hB0
    go_enter Try.func27, Try.ntmps27
    go_wp2_with fail
    refine (HG.out).mono ?_
    rintro e w1 ⟨rfl, rfl⟩
    go_wp2_with (at_builtin; refine wpList_appb rfl _ _ rfl (.slice none 0 0) [] s.xs A0 _ c0 (OwnB.nil _) HB.out rfl rfl rfl (by have := HL.out; simp; omega) ?_; intro v' w3 hAp; obtain ⟨A3, c3, rfl⟩ := hAp.form; have HAp := Lib.hid hAp; clear hAp)
    go_ret2
    have hAp := HAp.out
    have h1 := hAp.1
    rw [List.nil_append, show ([] : List Nat).length + s.xs.length = s.xs.length by simp] at h1
    refine ⟨A3, c3, by rw [HV.out, H0.out]; exact ret_sl (by simp), by rw [HV.out]; exact h1, fun a ha => ?_, (Below.refl _ _).grown hAp.2.1 (Nat.le_refl _) (fun k hk => by cases hk)⟩
    subst ha
    rcases hAp.2.2 with h | h
    · cases h
    · simp only [Value.ownBlock, Option.some.injEq] at h; omega
  · have HG := Lib.hid (good_no g s.e h0 w (by rw [c1]; rfl))
    have HV : Hid (outL s = []) := Lib.hid (by simp [outL, h0])
    clear hne hr hown h0 hs hB0
    go_enter Try.func27, Try.ntmps27
    go_wp2_with fail
    refine (HG.out).mono ?_
    rintro e w1 ⟨rfl, rfl⟩
    go_wp2_with fail
    go_quiet (fail)
    go_wp2_with fail
    go_ret2
    exact ⟨none, 0, by rw [HV.out]; rfl, by rw [HV.out]; exact OwnB.nil _, (fun a h => by cases h), below_drewN (Below.refl _ _) _⟩
theorem wout_nil (w : World) : Calls Try.prog 27 #[.pointer none] w fun e w' => e = .returned (.tuple #[.slice none 0 0, .int .i64 1]) ∧ w = w' := by
  go_enter Try.func27, Try.ntmps27
  go_wp2_with fail
  go_ret2
  exact ⟨rfl, rfl⟩
end Go.Proofs.Ytkkncijbedfdfaa

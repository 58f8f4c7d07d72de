/-
  What package coder's reader does: numbers, flags, bytes, its place and its failure.
-/
import Derived.Test.YtkkncijbedfdfaaCoder3
import Derived.Test.YtkkncijbedfdfaaAgg
import Derived.StillTailTactics
namespace Go.Proofs.Ytkkncijbedfdfaa
open Go.RowKit
set_option linter.unusedVariables false

/-- A reader in block g, its fields in the order that C tells: its bytes, its failure, its place. -/
structure RdAtC (C : Option Addr → Nat → Rd → Array Value) (W : World) (g : Nat) (A : Option Addr) (c : Nat) (s : Rd) : Prop where
  row : row W g = some (C A c s)
  bys : Bys W A s.xs
  cap : s.xs.length ≤ c
  top : c ≤ 9223372036854775807
  off : 0 < s.xs.length → ∀ a, A = some a → a.block ≠ g
  nil : A = none → c = 0
def rdC (A : Option Addr) (c : Nat) (s : Rd) : Array Value := #[.slice A s.xs.length c, .int .i64 s.e, .int .i64 (s.at_ : Int)]
abbrev RdAt := RdAtC rdC
def only (g : Nat) : Nat → Prop := fun k => k = g
theorem RdAtC.turn {C : Option Addr → Nat → Rd → Array Value} {W W' : World} {g : Nat} {A : Option Addr} {c : Nat} {s s' : Rd} (h : RdAtC C W g A c s) (hc : Chg (only g) W W') (hr : Go.Proofs.Ytkkncijbedfdfaa.row W' g = some (C A c s')) (hx : s'.xs = s.xs) : RdAtC C W' g A c s' :=
  ⟨hr, by rw [hx]; exact h.bys.chg' hc h.off, by rw [hx]; exact h.cap, h.top, by rw [hx]; exact h.off, h.nil⟩
theorem RdAtC.chg {C : Option Addr → Nat → Rd → Array Value} {W W' : World} {g : Nat} {A : Option Addr} {c : Nat} {s : Rd} {S : Nat → Prop} (h : RdAtC C W g A c s) (hc : Chg S W W') (hg : ¬ S g) (hA : ∀ a, A = some a → ¬ S a.block) : RdAtC C W' g A c s :=
  ⟨(hc.row (row_lt h.row) hg).trans h.row, h.bys.chg hc hA, h.cap, h.top, h.off, h.nil⟩
theorem RdAtC.chg' {C : Option Addr → Nat → Rd → Array Value} {W W' : World} {g : Nat} {A : Option Addr} {c : Nat} {s : Rd} {S : Nat → Prop} (h : RdAtC C W g A c s) (hc : Chg S W W') (hg : ¬ S g) (hA : 0 < s.xs.length → ∀ a, A = some a → ¬ S a.block) : RdAtC C W' g A c s :=
  ⟨(hc.row (row_lt h.row) hg).trans h.row, h.bys.chg' hc hA, h.cap, h.top, h.off, h.nil⟩
theorem RdAtC.stay {C : Option Addr → Nat → Rd → Array Value} {W W' : World} {g : Nat} {A : Option Addr} {c : Nat} {s : Rd} (h : RdAtC C W g A c s) (hb : Below W.heap.size W W') : RdAtC C W' g A c s := h.chg (Chg.of_below (S := fun _ => False) hb (Nat.le_refl _)) (fun h => h) (fun _ _ h => h)
theorem RdAtC.lt {C : Option Addr → Nat → Rd → Array Value} {W : World} {g : Nat} {A : Option Addr} {c : Nat} {s : Rd} (h : RdAtC C W g A c s) : g < W.heap.size := row_lt h.row
/-- What a call on a reader leaves: a value, and the reader as s tells. -/
def RdPostC (C : Option Addr → Nat → Rd → Array Value) (w : World) (g : Nat) (A : Option Addr) (c : Nat) (v : Value) (s : Rd) (e : Ending) (w' : World) : Prop := e = .returned v ∧ RdAtC C w' g A c s ∧ Chg (only g) w w'
abbrev RdPost := RdPostC rdC
theorem RdPostC.of_same {C : Option Addr → Nat → Rd → Array Value} {w : World} {g : Nat} {A : Option Addr} {c : Nat} {s s' : Rd} {v v' : Value} (h : RdAtC C w g A c s) (hs : s' = s) (hv : v = v') : RdPostC C w g A c v' s' (.returned v) w := ⟨by rw [hv], hs ▸ h, Chg.refl _ _⟩
theorem RdPostC.of_turn {C : Option Addr → Nat → Rd → Array Value} {w w' : World} {g : Nat} {A : Option Addr} {c : Nat} {s : Rd} (s1 : Rd) {s2 : Rd} {v v' : Value} (h : RdAtC C w g A c s) (hc : Chg (only g) w w') (hr : Go.Proofs.Ytkkncijbedfdfaa.row w' g = some (C A c s1)) (hx : s1.xs = s.xs) (hs : s2 = s1) (hv : v = v') : RdPostC C w g A c v' s2 (.returned v) w' := ⟨by rw [hv], hs ▸ h.turn hc hr hx, hc⟩
theorem only_set {w : World} (g o : Nat) (v : Value) : Chg (only g) w (w.setCell ⟨g, o, none⟩ v) := (Chg.refl (only g) w).setCell (p := ⟨g, o, none⟩) (.inl rfl) v
theorem RdAtC.cells {C : Option Addr → Nat → Rd → Array Value} {W : World} {g : Nat} {A : Option Addr} {c : Nat} {s : Rd} (h : RdAtC C W g A c s) (i : Nat) : W.cell? ⟨g, i, none⟩ = (C A c s)[i]? := row_cell h.row i
theorem RdAtC.free {C : Option Addr → Nat → Rd → Array Value} {W : World} {g : Nat} {A : Option Addr} {c : Nat} {s : Rd} (h : RdAtC C W g A c s) (i : Nat) : W.frozen? ⟨g, i, none⟩ = false := row_frozen h.row i
/-- Bytes that a reader hands out. -/
def RawPostC (C : Option Addr → Nat → Rd → Array Value) (w : World) (g : Nat) (A : Option Addr) (c : Nat) (l : List Nat) (s : Rd) (e : Ending) (w' : World) : Prop := ∃ A' c', e = .returned (.slice A' l.length c') ∧ OwnB w' (.slice A' l.length c') l ∧ (∀ a, A' = some a → w.heap.size ≤ a.block) ∧ RdAtC C w' g A c s ∧ Chg (only g) w w'
abbrev RawPost := RawPostC rdC
theorem RawPostC.of_none {C : Option Addr → Nat → Rd → Array Value} {w w' : World} {g : Nat} {A : Option Addr} {c : Nat} {l : List Nat} {s s' : Rd} {v : Value} (hl : l = []) (hs : s' = s) (h : RdAtC C w' g A c s) (hc : Chg (only g) w w') (hv : v = .slice none 0 0) : RawPostC C w g A c l s' (.returned v) w' := by
  subst hl hs hv
  exact ⟨none, 0, rfl, OwnB.nil _, (fun a e => by cases e), h, hc⟩
theorem OwnB.none_cap {W : World} {n c : Nat} {l : List Nat} (h : OwnB W (.slice none n c) l) : c = 0 := by
  rcases h.2 with ⟨h, _⟩ | ⟨g, cap, cur, h, _⟩
  · cases h; rfl
  · cases h
set_option maxRecDepth 100000 in
set_option maxHeartbeats 2000000 in
theorem rnum_any (g : Nat) (A : Option Addr) (c : Nat) (s : Rd) (hs : s.Ok) (most : Nat) (hmost : most < 18446744073709551616) (w : World) (hR : RdAt w g A c s) :
    Calls Try.prog 55 #[.pointer (some ⟨g, 0, none⟩), .int .u64 most] w (RdPost w g A c (.int .u64 (((s.num most).1 : Nat) : Int)) (s.num most).2) := by
  have HR := Lib.hid hR
  have c0 : w.cell? ⟨g, 0, none⟩ = some (.slice A s.xs.length c) := hR.cells 0
  have c1 : w.cell? ⟨g, 1, none⟩ = some (.int .i64 s.e) := hR.cells 1
  have c2 : w.cell? ⟨g, 2, none⟩ = some (.int .i64 (s.at_ : Int)) := hR.cells 2
  have f1 : w.frozen? ⟨g, 1, none⟩ = false := hR.free 1
  have f2 : w.frozen? ⟨g, 2, none⟩ = false := hR.free 2
  by_cases h0 : s.e = 0
  · have HG := Lib.hid (good_yes g w (by rw [c1, h0]))
    have hS := scan_any g A s.xs.length c s.xs s.at_ rfl hs.len hs.ok hs.at_ w hR.bys c0
    have hnx : nextV s.xs s.at_ = if s.scan.2.2 = 0 then s.at_ + s.scan.2.1 else 0 := rfl
    have hlt := s.scan_lt
    unfold ScanPost at hS
    change Calls _ _ _ _ (fun e w' => e = .returned (.tuple #[.int .u64 ((s.scan.1 : Nat) : Int), .int .i64 ((nextV s.xs s.at_ : Nat) : Int), .int .i64 s.scan.2.2]) ∧ w = w') at hS
    by_cases h1 : s.scan.2.2 = 0
    · rw [h1] at hS
      rw [if_pos h1] at hnx
      by_cases h2 : most < s.scan.1
      · have HV : Hid (s.num most = (0, ⟨s.xs, s.at_, 51⟩)) := Lib.hid (Rd.num_more h0 h1 h2)
        have HS := Lib.hid hS
        have h3 : (most : Int) < (s.scan.1 : Int) := by omega
        have HF := Lib.hid (fail_set g 51 w (by rw [c1, h0]) f1)
        generalize s.scan.1 = n at *
        generalize nextV s.xs s.at_ = nx at *
        clear hS hlt hnx h1 h0 hs hR c0 c1 f1 f2 h2
        go_enter Try.func55, Try.ntmps55
        go_wp2_with fail
        refine (HG.out).mono ?_
        rintro e w1 ⟨rfl, rfl⟩
        go_wp2_with fail
        refine (HS.out).mono ?_
        rintro e w1 ⟨rfl, rfl⟩
        go_wp2_with fail
        refine (HF.out).mono ?_
        rintro e w1 ⟨rfl, rfl⟩
        go_wp2_with fail
        go_ret
        exact RdPostC.of_turn ⟨s.xs, s.at_, 51⟩ HR.out (only_set g 1 _) (row_set HR.out.row 1 _) rfl (by rw [HV.out]) (by rw [HV.out]; rfl)
      · have HV : Hid (s.num most = (s.scan.1, ⟨s.xs, s.at_ + s.scan.2.1, 0⟩)) := Lib.hid (Rd.num_good h0 h1 (by omega))
        have HS := Lib.hid hS
        have h3 : ¬ (most : Int) < (s.scan.1 : Int) := by omega
        have HE := Lib.hid h0
        generalize s.scan.1 = n at *
        generalize s.scan.2.1 = k at *
        generalize nextV s.xs s.at_ = nx at *
        have HX := Lib.hid hnx
        clear hS hlt hnx h1 h0 hs hR c0 c1 f1 h2
        go_enter Try.func55, Try.ntmps55
        go_wp2_with fail
        refine (HG.out).mono ?_
        rintro e w1 ⟨rfl, rfl⟩
        go_wp2_with fail
        refine (HS.out).mono ?_
        rintro e w1 ⟨rfl, rfl⟩
        go_wp2_with fail
        go_ret
        exact RdPostC.of_turn ⟨s.xs, s.at_ + k, 0⟩ HR.out (only_set g 2 _) ((row_set HR.out.row 2 _).trans (by rw [HX.out]; unfold rdC; rw [HE.out]; rfl)) rfl (by rw [HV.out]) (by rw [HV.out]; rfl)
    · have HV : Hid (s.num most = (0, ⟨s.xs, s.at_, s.scan.2.2⟩)) := Lib.hid (Rd.num_fail h0 h1 most)
      have HS := Lib.hid hS
      have HF := Lib.hid (fail_set g s.scan.2.2 w (by rw [c1, h0]) f1)
      have e1 : (s.scan.2.2 == 0) = false := beq_eq_false_iff_ne.2 h1
      have e2 : (s.scan.2.2 != 0) = true := bne_iff_ne.2 h1
      generalize s.scan.1 = n at *
      generalize s.scan.2.2 = er at *
      generalize nextV s.xs s.at_ = nx at *
      clear hS hlt hnx h1 h0 hs hR c0 c1 f1 f2
      go_enter Try.func55, Try.ntmps55
      go_wp2_with fail
      refine (HG.out).mono ?_
      rintro e w1 ⟨rfl, rfl⟩
      go_wp2_with fail
      refine (HS.out).mono ?_
      rintro e w1 ⟨rfl, rfl⟩
      go_wp2_with fail
      refine (HF.out).mono ?_
      rintro e w1 ⟨rfl, rfl⟩
      go_wp2_with fail
      go_ret
      exact RdPostC.of_turn ⟨s.xs, s.at_, er⟩ HR.out (only_set g 1 _) (row_set HR.out.row 1 _) rfl (by rw [HV.out]) (by rw [HV.out]; rfl)
  · have HG := Lib.hid (good_no g s.e h0 w c1)
    have HV : Hid (s.num most = (0, s)) := Lib.hid (Rd.num_bad h0 most)
    clear hs hR c0 c1 c2 f1 f2 h0
    go_enter Try.func55, Try.ntmps55
    go_wp2_with fail
    refine (HG.out).mono ?_
    rintro e w1 ⟨rfl, rfl⟩
    go_wp2_with fail
    go_ret
    exact RdPostC.of_same HR.out (by rw [HV.out]) (by rw [HV.out]; rfl)
theorem rnum_nil (most : Int) (w : World) : Calls Try.prog 55 #[.pointer none, .int .u64 most] w fun e w' => e = .returned (.int .u64 0) ∧ w = w' := by
  go_enter Try.func55, Try.ntmps55
  go_wp2_with fail
  go_ret
  exact ⟨rfl, rfl⟩
set_option maxRecDepth 100000 in
set_option maxHeartbeats 2000000 in
theorem rint_any (g : Nat) (A : Option Addr) (c : Nat) (s : Rd) (hs : s.Ok) (most : Int) (hmost : i64ok most) (w : World) (hR : RdAt w g A c s) :
    Calls Try.prog 53 #[.pointer (some ⟨g, 0, none⟩), .int .i64 most] w (RdPost w g A c (.int .i64 (((s.int most).1 : Nat) : Int)) (s.int most).2) := by
  unfold i64ok at hmost
  by_cases hneg : 0 ≤ most
  · obtain ⟨m, rfl⟩ := Int.eq_ofNat_of_zero_le hneg
    have HP := Lib.hid (rnum_any g A c s hs m (by omega) w hR)
    have HV : Hid (s.int (m : Int) = s.num m) := Lib.hid (by unfold Rd.int; rw [if_pos hneg]; rfl)
    have hle := s.num_le m
    have E1 : IntKind.u64.wrap (m : Int) = (m : Int) := by rw [IntKind.wrap_u64]; omega
    have E2 : IntKind.i64.wrap ((s.num m).1 : Int) = ((s.num m).1 : Int) := IntWalk.i64_in _ (by omega)
    rw [HV.out]
    generalize (s.num m).1 = v at *
    generalize (s.num m).2 = s' at *
    clear hs hR HV
    go_enter Try.func53, Try.ntmps53
    go_wp2_with fail
    refine (HP.out).mono ?_
    rintro e w1 ⟨rfl, h1, h2⟩
    have H1 := Lib.hid h1
    have H2 := Lib.hid h2
    clear h1 h2
    go_wp2_with fail
    go_ret
    exact ⟨rfl, H1.out, H2.out⟩
  · have HR := Lib.hid hR
    have c0 : w.cell? ⟨g, 0, none⟩ = some (.slice A s.xs.length c) := hR.cells 0
    have c1 : w.cell? ⟨g, 1, none⟩ = some (.int .i64 s.e) := hR.cells 1
    have c2 : w.cell? ⟨g, 2, none⟩ = some (.int .i64 (s.at_ : Int)) := hR.cells 2
    have f1 : w.frozen? ⟨g, 1, none⟩ = false := hR.free 1
    have hneg' : ¬ (0 : Int) ≤ most := hneg
    by_cases h0 : s.e = 0
    · have HG := Lib.hid (good_yes g w (by rw [c1, h0]))
      have hS := scan_any g A s.xs.length c s.xs s.at_ rfl hs.len hs.ok hs.at_ w hR.bys c0
      unfold ScanPost at hS
      change Calls _ _ _ _ (fun e w' => e = .returned (.tuple #[.int .u64 ((s.scan.1 : Nat) : Int), .int .i64 ((nextV s.xs s.at_ : Nat) : Int), .int .i64 s.scan.2.2]) ∧ w = w') at hS
      have HF := Lib.hid (fun er => fail_set g er w (by rw [c1, h0]) f1)
      by_cases h1 : s.scan.2.2 = 0
      · have HV : Hid (s.int most = (0, ⟨s.xs, s.at_, 51⟩)) := Lib.hid (by unfold Rd.int; rw [if_neg hneg, if_pos h0, if_pos h1])
        rw [h1] at hS
        have HS := Lib.hid hS
        generalize s.scan.1 = n at *
        generalize nextV s.xs s.at_ = nx at *
        clear hS h1 h0 hs hR c0 c1 f1 hneg
        go_enter Try.func53, Try.ntmps53
        go_wp2_with fail
        refine (HG.out).mono ?_
        rintro e w1 ⟨rfl, rfl⟩
        go_wp2_with fail
        refine (HS.out).mono ?_
        rintro e w1 ⟨rfl, rfl⟩
        go_wp2_with fail
        refine (HF.out 51).mono ?_
        rintro e w1 ⟨rfl, rfl⟩
        go_wp2_with fail
        go_ret
        exact RdPostC.of_turn ⟨s.xs, s.at_, 51⟩ HR.out (only_set g 1 _) (row_set HR.out.row 1 _) rfl (by rw [HV.out]) (by rw [HV.out]; rfl)
      · have HV : Hid (s.int most = (0, ⟨s.xs, s.at_, s.scan.2.2⟩)) := Lib.hid (by unfold Rd.int; rw [if_neg hneg, if_pos h0, if_neg h1])
        have HS := Lib.hid hS
        have e2 : (s.scan.2.2 != 0) = true := bne_iff_ne.2 h1
        have HK := Lib.hid (fun W h => fail_keep g s.scan.2.2 51 h1 W h)
        generalize s.scan.1 = n at *
        generalize s.scan.2.2 = er at *
        generalize nextV s.xs s.at_ = nx at *
        clear hS h1 h0 hs hR c0 c1 f1 hneg
        go_enter Try.func53, Try.ntmps53
        go_wp2_with fail
        refine (HG.out).mono ?_
        rintro e w1 ⟨rfl, rfl⟩
        go_wp2_with fail
        refine (HS.out).mono ?_
        rintro e w1 ⟨rfl, rfl⟩
        go_wp2_with fail
        refine (HF.out er).mono ?_
        rintro e w1 ⟨rfl, rfl⟩
        go_wp2_with fail
        refine (HK.out _ (row_cell (row_set HR.out.row 1 _) 1)).mono ?_
        rintro e w1 ⟨rfl, rfl⟩
        go_wp2_with fail
        go_ret
        exact RdPostC.of_turn ⟨s.xs, s.at_, er⟩ HR.out (only_set g 1 _) (row_set HR.out.row 1 _) rfl (by rw [HV.out]) (by rw [HV.out]; rfl)
    · have HG := Lib.hid (good_no g s.e h0 w c1)
      have HV : Hid (s.int most = (0, s)) := Lib.hid (by unfold Rd.int; rw [if_neg hneg, if_neg h0])
      clear hs hR c0 c1 c2 f1 h0 hneg
      go_enter Try.func53, Try.ntmps53
      go_wp2_with fail
      refine (HG.out).mono ?_
      rintro e w1 ⟨rfl, rfl⟩
      go_wp2_with fail
      go_ret
      exact RdPostC.of_same HR.out (by rw [HV.out]) (by rw [HV.out]; rfl)
theorem rint_nil (most : Int) (hmost : i64ok most) (w : World) : Calls Try.prog 53 #[.pointer none, .int .i64 most] w fun e w' => e = .returned (.int .i64 0) ∧ w = w' := by
  unfold i64ok at hmost
  by_cases hneg : 0 ≤ most
  · have E1 : IntKind.u64.wrap most = most := by rw [IntKind.wrap_u64]; omega
    go_enter Try.func53, Try.ntmps53
    go_wp2_with fail
    refine (rnum_nil _ _).mono ?_
    rintro e w1 ⟨rfl, rfl⟩
    go_wp2_with fail
    go_ret
    exact ⟨rfl, rfl⟩
  · go_enter Try.func53, Try.ntmps53
    go_wp2_with fail
    go_ret
    exact ⟨rfl, rfl⟩
theorem rerr_any (g : Nat) (A : Option Addr) (c : Nat) (s : Rd) (w : World) (hR : RdAt w g A c s) : Calls Try.prog 47 #[.pointer (some ⟨g, 0, none⟩)] w fun e w' => e = .returned (.int .i64 s.e) ∧ w = w' := by
  have c1 : w.cell? ⟨g, 1, none⟩ = some (.int .i64 s.e) := hR.cells 1
  clear hR
  go_enter Try.func47, Try.ntmps47
  go_wp2_with fail
  go_ret
  exact ⟨rfl, rfl⟩
theorem rerr_nil (w : World) : Calls Try.prog 47 #[.pointer none] w fun e w' => e = .returned (.int .i64 1) ∧ w = w' := by
  go_enter Try.func47, Try.ntmps47
  go_wp2_with fail
  go_ret
  exact ⟨rfl, rfl⟩
end Go.Proofs.Ytkkncijbedfdfaa

/-
  What package coder's reader does: strings of bytes, what is left; a reader that is opened.
-/
import Derived.Test.YtkkncijbedfdfaaCoder4
namespace Go.Proofs.Ytkkncijbedfdfaa
open Go.RowKit
set_option linter.unusedVariables false

theorem RdAtC.drew {C : Option Addr → Nat → Rd → Array Value} {W : World} {g : Nat} {A : Option Addr} {c : Nat} {s : Rd} (h : RdAtC C W g A c s) : RdAtC C W.drew g A c s := ⟨h.row, h.bys, h.cap, h.top, h.off, h.nil⟩
theorem RdAtC.drewN {C : Option Addr → Nat → Rd → Array Value} {W : World} {g : Nat} {A : Option Addr} {c : Nat} {s : Rd} (h : RdAtC C W g A c s) (k : Nat) : RdAtC C (W.drewN k) g A c s := ⟨h.row, h.bys, h.cap, h.top, h.off, h.nil⟩
/-- The address of a piece 's[lo:hi]' of a slice. -/
def cutA (A : Option Addr) (c lo : Nat) : Option Addr := if c = lo then A else A.map (·.add lo)
theorem run_cutb (A : Option Addr) (n c lo k : Nat) (h : lo + k ≤ c) (w : World) : (Instr.slice 22 (.slice A n c) (some (.int .i64 (lo : Int))) (some (.int .i64 ((lo : Int) + (k : Int)))) none).run Try.prog w = .ok (.slice (cutA A c lo) k (c - lo)) w := by
  obtain ⟨i0, hi, hz0, hz1, hz2⟩ := info_parts u8_info
  have he : Try.prog.elem 22 = 5 := by kernel_rfl
  have hs : (sizeOf 5).run Try.prog w = .ok 1 w := by simp [sizeOf, typeInfo, hi, hz1]
  rw [run_slice_lh (P := Try.prog) w 22 A n c (by rw [he]; exact u8s_under) .i64 .i64 lo (lo + k) (by omega) (by omega) (by omega), he, hs]
  have e1 : ((lo : Int)).toNat = lo := by omega
  have e2 : ((lo : Int) + (k : Int)).toNat = lo + k := by omega
  simp only [Result.andThen, sliced, cutA, e1, e2, Nat.mul_one, Nat.add_sub_cancel_left]
theorem cutA_bys {W : World} {A : Option Addr} {xs : List Nat} {c lo n : Nat} (h : Bys W A xs) (hc : lo + n ≤ xs.length) (hcap : xs.length ≤ c) : Bys W (cutA A c lo) ((xs.drop lo).take n) := by
  unfold cutA
  split
  · rename_i he
    obtain rfl : n = 0 := by omega
    rw [List.take_zero]
    exact Bys.nil _ _
  · intro hp
    have hl : ((xs.drop lo).take n).length = n := by simp; omega
    obtain ⟨b, off, rfl, hb, hcell⟩ := h (by omega)
    have hadd : (⟨b, off, none⟩ : Addr).add lo = ⟨b, off + lo, none⟩ := by unfold Addr.add; split <;> simp_all
    exact Bys.cut (fun _ => ⟨b, off, rfl, hb, hcell⟩) lo n hc |> fun h => by rw [Option.map_some, hadd]; exact h hp
set_option maxRecDepth 100000 in
set_option maxHeartbeats 4000000 in
theorem rraw_any (g : Nat) (A : Option Addr) (c : Nat) (s : Rd) (hs : s.Ok) (hlen : s.xs.length ≤ 1000000000) (most : Int) (hmost : i64ok most) (w : World) (hR : RdAt w g A c s) :
    Calls Try.prog 46 #[.pointer (some ⟨g, 0, none⟩), .int .i64 most] w (RawPost w g A c (s.raw most).1 (s.raw most).2) := by
  have HR := Lib.hid hR
  have c1 : w.cell? ⟨g, 1, none⟩ = some (.int .i64 s.e) := hR.cells 1
  have c2 : w.cell? ⟨g, 2, none⟩ = some (.int .i64 (s.at_ : Int)) := hR.cells 2
  by_cases h0 : s.e = 0
  · have HG := Lib.hid (good_yes g w (by rw [c1, h0]))
    have HI := Lib.hid (rint_any g A c s hs most hmost w hR)
    have hok := hs.int most
    have hxs := s.int_xs most
    by_cases h1 : (s.int most).2.e = 0
    · have HG1 := Lib.hid (fun W (h : RdAt W g A c (s.int most).2) => good_yes g W (by rw [h.cells 1]; show some (Value.int .i64 (s.int most).2.e) = _; rw [h1]))
      by_cases h2 : (s.int most).2.xs.length - (s.int most).2.at_ < (s.int most).1
      · have HV : Hid (s.raw most = ([], ⟨s.xs, s.at_, 50⟩)) := Lib.hid (by unfold Rd.raw; rw [if_pos h0, if_pos h1, if_pos h2])
        have hat := hok.at_
        have HX := Lib.hid hxs
        have HE := Lib.hid h1
        generalize (s.int most).1 = n at *
        generalize (s.int most).2 = s1 at *
        have t1 : (s1.xs.length : Int) - (s1.at_ : Int) < (n : Int) := by omega
        have E1 : IntKind.i64.wrap ((s1.xs.length : Int) - (s1.at_ : Int)) = (s1.xs.length : Int) - (s1.at_ : Int) := IntWalk.i64_in _ (by have := hok.len; omega)
        have hF := Lib.hid (fun W (a : W.cell? ⟨g, 1, none⟩ = some (.int .i64 0)) (b : W.frozen? ⟨g, 1, none⟩ = false) => fail_set g 50 W a b)
        clear hs hR h0 h1 h2 hok hxs c1 hat
        go_enter Try.func46, Try.ntmps46
        go_wp2_with fail
        refine (HG.out).mono ?_
        rintro e w1 ⟨rfl, rfl⟩
        go_wp2_with fail
        refine (HI.out).mono ?_
        rintro e w1 ⟨rfl, k1, k2⟩
        have H1 := Lib.hid k1
        have H2 := Lib.hid k2
        clear k1 k2 c2
        go_wp2_with fail
        refine (HG1.out _ H1.out).mono ?_
        rintro e w2 ⟨rfl, rfl⟩
        go_wp2_with fail
        have d0 : w1.cell? ⟨g, 0, none⟩ = some (.slice A s1.xs.length c) := H1.out.cells 0
        have d2 : w1.cell? ⟨g, 2, none⟩ = some (.int .i64 (s1.at_ : Int)) := H1.out.cells 2
        have f2 : w1.frozen? ⟨g, 2, none⟩ = false := H1.out.free 2
        go_quiet (fail)
        go_wp2_with fail
        have hr2 := fun k => row_set (H1.out.drewN k).row 2 (.int .i64 (s.at_ : Int))
        have HR2 := Lib.hid hr2
        clear hr2 d0 d2 f2
        refine (hF.out _ ?ca ?cb).mono ?_
        case ca => exact (row_cell (HR2.out _) 1).trans (by show some (Value.int .i64 s1.e) = _; rw [HE.out])
        case cb => exact row_frozen (HR2.out _) 1
        rintro e w3 ⟨rfl, rfl⟩
        go_wp2_with fail
        go_ret
        have hch := fun k => ((H2.out.drewN k).setCell (p := ⟨g, 2, none⟩) (.inl rfl) (.int .i64 (s.at_ : Int))).setCell (p := ⟨g, 1, none⟩) (.inl rfl) (.int .i64 50)
        refine RawPostC.of_none (s := ⟨s.xs, s.at_, 50⟩) (by rw [HV.out]) (by rw [HV.out]) (HR.out.turn (hch _) ((row_set (HR2.out _) 1 _).trans ?_) rfl) (hch _) rfl
        show some #[Value.slice A s1.xs.length c, Value.int IntKind.i64 50, Value.int IntKind.i64 (s.at_ : Int)] = _
        rw [HX.out]; rfl
      · have HV : Hid (s.raw most = (((s.int most).2.xs.drop (s.int most).2.at_).take (s.int most).1, ⟨s.xs, (s.int most).2.at_ + (s.int most).1, 0⟩)) := Lib.hid (by unfold Rd.raw; rw [if_pos h0, if_pos h1, if_neg h2])
        have hat := hok.at_
        have HX := Lib.hid hxs
        have HE := Lib.hid h1
        have hl2 : (s.int most).2.xs.length ≤ 1000000000 := by rw [hxs]; exact hlen
        generalize (s.int most).1 = n at *
        generalize (s.int most).2 = s1 at *
        have t1 : ¬ (s1.xs.length : Int) - (s1.at_ : Int) < (n : Int) := by omega
        have E1 : IntKind.i64.wrap ((s1.xs.length : Int) - (s1.at_ : Int)) = (s1.xs.length : Int) - (s1.at_ : Int) := IntWalk.i64_in _ (by have := hok.len; omega)
        have E2 : IntKind.i64.wrap ((s1.at_ : Int) + (n : Int)) = (s1.at_ : Int) + (n : Int) := IntWalk.i64_in _ (by omega)
        have hle : s1.at_ + n ≤ s1.xs.length := by omega
        obtain ⟨l, hl⟩ : ∃ l, l = (s1.xs.drop s1.at_).take n := ⟨_, rfl⟩
        have HLv : Hid ((s1.xs.drop s1.at_).take n = l) := Lib.hid hl.symm
        have HLn : Hid (l.length = n) := Lib.hid (by rw [hl]; simp; omega)
        have HBl : Hid (∀ W, Bys W A s1.xs → Bys W (cutA A c s1.at_) l) := Lib.hid fun W h => by rw [hl]; exact cutA_bys h hle (by have := hR.cap; rw [← hxs] at this; exact this)
        have hcut := fun W => run_cutb A s1.xs.length c s1.at_ n (by have := hR.cap; rw [← hxs] at this; omega) W
        have HCut := Lib.hid hcut
        clear hs hR h0 h1 h2 hok hxs c1 hl hcut hat
        go_enter Try.func46, Try.ntmps46
        go_wp2_with fail
        refine (HG.out).mono ?_
        rintro e w1 ⟨rfl, rfl⟩
        go_wp2_with fail
        refine (HI.out).mono ?_
        rintro e w1 ⟨rfl, k1, k2⟩
        have H1 := Lib.hid k1
        have H2 := Lib.hid k2
        clear k1 k2 c2
        go_wp2_with fail
        refine (HG1.out _ H1.out).mono ?_
        rintro e w2 ⟨rfl, rfl⟩
        go_wp2_with fail
        have d0 : w1.cell? ⟨g, 0, none⟩ = some (.slice A s1.xs.length c) := H1.out.cells 0
        have d2 : w1.cell? ⟨g, 2, none⟩ = some (.int .i64 (s1.at_ : Int)) := H1.out.cells 2
        go_quiet (fail)
        clear d0 d2
        go_wp2_with fail
        (refine region_still_tail 16 (fun wd => RdAt wd g A c s1 ∧ Chg (only g) w wd) (by kernel_rfl) (by kernel_rfl) (⟨(H1.out.drewN _).drew, (H2.out.drewN _).drew⟩) (fun wd hwd => ?_); (obtain ⟨r1, q1⟩ := hwd); have d0 : wd.cell? ⟨g, 0, none⟩ = some (Value.slice A s1.xs.length c) := r1.cells 0; have d2 : wd.cell? ⟨g, 2, none⟩ = some (Value.int IntKind.i64 (s1.at_ : Int)) := r1.cells 2; have hcut := HCut.out; have R1 := Lib.hid r1; have Q1 := Lib.hid q1; clear r1 q1; simp only [List.take_succ_cons, List.take_zero, List.drop_succ_cons, List.drop_zero]; (repeat still_step))
        (try refine wpStill_nil ?_)
        go_wp2_with (at_builtin; refine wpList_appb rfl _ _ rfl (.slice none 0 0) [] l (cutA A c s1.at_) n (c - s1.at_) (OwnB.nil _) (HBl.out _ R1.out.bys) rfl rfl HLn.out (by have := HLn.out; simp; omega) ?_; intro v' w3 hAp; obtain ⟨A3, c3, rfl⟩ := hAp.form; have r3 := R1.out.chg hAp.chg (fun h => by cases h) (fun a _ h => by cases h); have e2 : w3.cell? ⟨g, 2, none⟩ = some (.int .i64 (s1.at_ : Int)) := r3.cells 2; have f2 := r3.free 2; have R3 := Lib.hid r3; have HAp := Lib.hid hAp; clear hAp r3 d0 d2)
        go_ret
        have hch := (Q1.out.andThen HAp.out.chg (fun k hk => by cases hk)).setCell (p := ⟨g, 2, none⟩) (.inl rfl) (.int .i64 ((s1.at_ : Int) + (n : Int)))
        have h1 := HAp.out.1
        have hz : ([] : List Nat).length + l.length = l.length := by simp
        rw [List.nil_append, hz] at h1
        refine ⟨A3, c3, ?_, ?_, ?_, ?_, hch⟩
        · rw [HV.out, HLv.out]; first | rfl | (rw [hz]; rfl)
        · rw [HV.out, HLv.out]
          exact h1.chg (only_set g 2 _) (fun k hk e => by
            cases e
            have := HAp.out.2.2
            rcases this with h | h
            · rw [hz] at h; rw [h] at hk; cases hk
            · rw [hz] at h; rw [h] at hk; cases hk; have := R1.out.lt; omega)
        · intro a ha
          subst ha
          rcases HAp.out.2.2 with h | h
          · cases h
          · simp only [Value.ownBlock, Option.some.injEq] at h
            have := Q1.out.size
            omega
        · rw [HV.out]
          refine HR.out.turn hch ((row_set R3.out.row 2 _).trans ?_) rfl
          show some #[Value.slice A s1.xs.length c, Value.int IntKind.i64 s1.e, Value.int IntKind.i64 ((s1.at_ : Int) + (n : Int))] = _
          rw [HX.out, HE.out]; rfl
    · have HG1 := Lib.hid (fun W (h : RdAt W g A c (s.int most).2) => good_no g (s.int most).2.e h1 W (h.cells 1))
      have HV : Hid (s.raw most = ([], (s.int most).2)) := Lib.hid (by unfold Rd.raw; rw [if_pos h0, if_neg h1])
      generalize (s.int most).1 = n at *
      generalize (s.int most).2 = s1 at *
      clear hs hR h0 h1 hok hxs c1
      go_enter Try.func46, Try.ntmps46
      go_wp2_with fail
      refine (HG.out).mono ?_
      rintro e w1 ⟨rfl, rfl⟩
      go_wp2_with fail
      refine (HI.out).mono ?_
      rintro e w1 ⟨rfl, k1, k2⟩
      have H1 := Lib.hid k1
      have H2 := Lib.hid k2
      clear k1 k2 c2
      go_wp2_with fail
      refine (HG1.out _ H1.out).mono ?_
      rintro e w2 ⟨rfl, rfl⟩
      go_wp2_with fail
      go_ret
      exact RawPostC.of_none (by rw [HV.out]) (by rw [HV.out]) H1.out H2.out rfl
  · have HG := Lib.hid (good_no g s.e h0 w c1)
    have HV : Hid (s.raw most = ([], s)) := Lib.hid (by unfold Rd.raw; rw [if_neg h0])
    clear hs hR c1 c2 h0
    go_enter Try.func46, Try.ntmps46
    go_wp2_with fail
    refine (HG.out).mono ?_
    rintro e w1 ⟨rfl, rfl⟩
    go_wp2_with fail
    go_ret
    exact RawPostC.of_none (by rw [HV.out]) (by rw [HV.out]) HR.out (Chg.refl _ _) rfl
theorem rraw_nil (most : Int) (w : World) : Calls Try.prog 46 #[.pointer none, .int .i64 most] w fun e w' => e = .returned (.slice none 0 0) ∧ w = w' := by
  go_enter Try.func46, Try.ntmps46
  go_wp2_with fail
  go_ret
  exact ⟨rfl, rfl⟩
end Go.Proofs.Ytkkncijbedfdfaa

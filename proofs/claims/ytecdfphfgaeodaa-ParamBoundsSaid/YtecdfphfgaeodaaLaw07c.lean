/-
  The walk of ParamBounds: it answers true whatever the parameters.
-/
import Derived.Test.YtecdfphfgaeodaaLaw07b
namespace Go.Proofs.Ytecdfphfgaeodaa
open Go.RowKit
set_option linter.unusedVariables false

set_option maxHeartbeats 4000000 in
set_option maxRecDepth 100000 in
theorem paramBounds_any (P : Par) (k : Int) (hk64 : i64ok k) (w : World) : Calls Try.prog 5 #[.agg P.cells, .int .i64 k] w fun e w' => e = .returned (.bool true) ∧ Below w.heap.size w w' := by
  have r0 : row (w.alloc (.cells P.cells 24)) w.heap.size = some P.cells := (by (repeat (first | assumption | (refine row_at _ _ _ _ ?_; first | rfl | (simp only [World.size_alloc]; done) | (simp only [World.size_alloc]; omega)) | (refine (row_past _ _ _ ?_).trans ?_; (focus (first | exact Nat.lt_succ_self _ | ((repeat rw [World.size_alloc]); omega) | (simp; done) | (simp; omega) | omega))) | rw [row_drewN] | rw [row_drew])); (first | done | fail))
  have hB0 : Below w.heap.size w (w.alloc (.cells P.cells 24)) := (by (repeat (first | exact Below.refl _ _ | assumption | (refine Below.allocT ?_ _) | refine Below.drew ?_ | refine below_drewN ?_ _ | (refine Below.then ?_ (by assumption)) | (refine Below.setRow ?_ ?_ _; rotate_left; (focus (first | exact Nat.lt_succ_self _ | ((repeat rw [World.size_alloc]); omega) | (simp; done) | (simp; omega) | omega))) | (refine Below.setCell ?_ ?_ _; rotate_left; (focus (first | exact Nat.lt_succ_self _ | ((repeat rw [World.size_alloc]); omega) | (simp; done) | (simp; omega) | omega))) | (refine Below.then' ?_ (by assumption) ?_; rotate_left; (focus (first | exact Nat.lt_succ_self _ | ((repeat rw [World.size_alloc]); omega) | (simp; done) | (simp; omega) | omega))) | fail)); (first | done | fail))
  have HL := Lib.hid (fun W => least_any P W)
  have HBd := Lib.hid (fun W => bound_any P k W)
  have HQ := Lib.hid (fun W => quick_any P W)
  have HR := Lib.hid (fun W => right_any P W)
  obtain ⟨hk1, hk2⟩ := hk64
  cases hr : rightB P
  · rw [show checkE P = 70 by simp [checkE, hr], show leastV P = 0 by simp [leastV, hr]] at HL
    rw [show boundV P k = 0 by simp [boundV, hr], show boundE P k = 70 by simp [boundE, hr]] at HBd
    rw [show quickN P = 0 by simp [quickN, hr], show checkE P = 70 by simp [checkE, hr]] at HQ
    rw [hr] at HR
    clear hr
    go_enter Try.func5, Try.ntmps5
    go_wp2_with fail
    generalize w.alloc (.cells P.cells 24) = W at *
    refine (awake07_any _).mono ?_
    rintro e w1 ⟨rfl, hb1⟩
    have r1 := (row_below hb1 (row_lt r0)).trans r0
    have hB1 := Below.then hB0 hb1
    clear r0 hB0 hb1
    go_wp2_with fail
    refine (HL.out _).mono ?_
    rintro e w2 ⟨rfl, hb2⟩
    have r2 := (row_below hb2 (row_lt r1)).trans r1
    have hB2 := Below.then hB1 hb2
    clear r1 hB1 hb2
    go_wp2_with fail
    refine (HBd.out _).mono ?_
    rintro e w3 ⟨rfl, hb3⟩
    have r3 := (row_below hb3 (row_lt r2)).trans r2
    have hB3 := Below.then hB2 hb3
    clear r2 hB2 hb3
    go_wp2_with fail
    refine (HQ.out _).mono ?_
    rintro e w4 ⟨rfl, hb4⟩
    have r4 := (row_below hb4 (row_lt r3)).trans r3
    have hB4 := Below.then hB3 hb4
    clear r3 hB3 hb4
    go_wp2_with fail
    refine (plain_any P _).mono ?_
    rintro e w5 ⟨rfl, hb5⟩
    have hB5 := Below.then hB4 hb5
    clear hB4 hb5
    go_wp2_with fail
    refine (HR.out _).mono ?_
    rintro e w6 ⟨rfl, hb6⟩
    go_wp2_with fail
    go_ret
    exact ⟨rfl, (by (repeat (first | exact Below.refl _ _ | assumption | (refine Below.allocT ?_ _) | refine Below.drew ?_ | refine below_drewN ?_ _ | (refine Below.then ?_ (by assumption)) | (refine Below.setRow ?_ ?_ _; rotate_left; (focus (first | exact Nat.lt_succ_self _ | ((repeat rw [World.size_alloc]); omega) | (simp; done) | (simp; omega) | omega))) | (refine Below.setCell ?_ ?_ _; rotate_left; (focus (first | exact Nat.lt_succ_self _ | ((repeat rw [World.size_alloc]); omega) | (simp; done) | (simp; omega) | omega))) | (refine Below.then' ?_ (by assumption) ?_; rotate_left; (focus (first | exact Nat.lt_succ_self _ | ((repeat rw [World.size_alloc]); omega) | (simp; done) | (simp; omega) | omega))) | fail)); (first | done | fail))⟩
  · have hLk := leakOk_of (right_facts hr).1 (right_facts hr).2.1
    have hd := (others_facts (right_facts hr).2.2.1).2.2.1
    have ht := leakT_le P
    have HRL := Lib.hid (fun W => rleast_any P hLk W)
    have HT := Lib.hid (fun W => ticks_any P hLk W)
    have HRB := Lib.hid (fun j hj W => rbound_any P hLk hd j hj W)
    rw [show checkE P = 0 by simp [checkE, hr], show leastV P = leastN P by simp [leastV, hr]] at HL
    rw [show quickN P = P.delay + leakT P + 1 by simp [quickN, hr], show checkE P = 0 by simp [checkE, hr]] at HQ
    have HV : Hid (boundV P k = (if 0 ≤ k ∧ k ≤ 128 then boundN P k.toNat else 0) ∧ boundE P k = (if 0 ≤ k ∧ k ≤ 128 then 0 else 2)) := Lib.hid (by simp [boundV, boundE, hr])
    rw [hr] at HR
    clear hr hLk
    generalize leakT P = t at *
    generalize leastN P = l at *
    obtain ⟨d, hdd⟩ := Int.eq_ofNat_of_zero_le hd.1
    have hdl : d ≤ 1000 := by omega
    obtain ⟨s, hs⟩ : ∃ s, s = d + t := ⟨_, rfl⟩
    obtain ⟨q, hq⟩ : ∃ q, q = s + 1 := ⟨_, rfl⟩
    rw [show P.delay + (t : Int) + 1 = (q : Int) by omega] at HQ
    have W1 : IntKind.u64.wrap (q : Int) = (q : Int) := Bits.wrapN _ (by omega)
    have W2 : IntKind.u64.wrap (d : Int) = (d : Int) := Bits.wrapN _ (by omega)
    have W3 : IntKind.u64.wrap ((d : Int) + (t : Int)) = (s : Int) := by rw [show (d : Int) + (t : Int) = ((s : Nat) : Int) by omega]; exact Bits.wrapN _ (by omega)
    have W4 : IntKind.u64.wrap ((s : Int) + 1) = (q : Int) := by rw [show (s : Int) + 1 = ((q : Nat) : Int) by omega]; exact Bits.wrapN _ (by omega)
    have HS := Lib.hid (And.intro hs hq)
    clear hs hq hd
    by_cases hk : 0 ≤ k ∧ k ≤ 128
    all_goals
      obtain ⟨hv1, hv2⟩ := HV.out
      first
        | (rw [if_pos hk] at hv1 hv2; rw [hv1, hv2] at HBd; obtain ⟨j, rfl⟩ := Int.eq_ofNat_of_zero_le hk.1; rw [Int.toNat_natCast] at HBd; have HRB' := Lib.hid (fun W => HRB.out j (by omega) W); have m1 : (j : Int) ≤ 128 := hk.2; generalize boundN P j = bn at *)
        | (rw [if_neg hk] at hv1 hv2; rw [hv1, hv2] at HBd; rcases Int.lt_or_le k 0 with m1 | m2)
      all_goals
        try have m3 : ¬ k < 0 := by omega
        try have m4 : 128 < k := by omega
        clear hv1 hv2 hk HV HRB
        go_enter Try.func5, Try.ntmps5
        go_wp2_with fail
        generalize w.alloc (.cells P.cells 24) = W at *
        refine (awake07_any _).mono ?_
        rintro e w1 ⟨rfl, hb1⟩
        have r1 := (row_below hb1 (row_lt r0)).trans r0
        have hB1 := Below.then hB0 hb1
        clear r0 hB0 hb1
        go_wp2_with fail
        refine (HL.out _).mono ?_
        rintro e w2 ⟨rfl, hb2⟩
        have r2 := (row_below hb2 (row_lt r1)).trans r1
        have hB2 := Below.then hB1 hb2
        clear r1 hB1 hb2
        go_wp2_with fail
        refine (HBd.out _).mono ?_
        rintro e w3 ⟨rfl, hb3⟩
        have r3 := (row_below hb3 (row_lt r2)).trans r2
        have hB3 := Below.then hB2 hb3
        clear r2 hB2 hb3
        go_wp2_with fail
        refine (HQ.out _).mono ?_
        rintro e w4 ⟨rfl, hb4⟩
        have r4 := (row_below hb4 (row_lt r3)).trans r3
        have hB4 := Below.then hB3 hb4
        clear r3 hB3 hb4
        go_wp2_with fail
        refine (plain_any P _).mono ?_
        rintro e w5 ⟨rfl, hb5⟩
        have r5 : row (w5.alloc (.cells P.cells 30)) w5.heap.size = some P.cells := (by (repeat (first | assumption | (refine row_at _ _ _ _ ?_; first | rfl | (simp only [World.size_alloc]; done) | (simp only [World.size_alloc]; omega)) | (refine (row_past _ _ _ ?_).trans ?_; (focus (first | exact Nat.lt_succ_self _ | ((repeat rw [World.size_alloc]); omega) | (simp; done) | (simp; omega) | omega))) | rw [row_drewN] | rw [row_drew])); (first | done | fail))
        have hB5 : Below w.heap.size w (w5.alloc (.cells P.cells 30)) := (by (repeat (first | exact Below.refl _ _ | assumption | (refine Below.allocT ?_ _) | refine Below.drew ?_ | refine below_drewN ?_ _ | (refine Below.then ?_ (by assumption)) | (refine Below.setRow ?_ ?_ _; rotate_left; (focus (first | exact Nat.lt_succ_self _ | ((repeat rw [World.size_alloc]); omega) | (simp; done) | (simp; omega) | omega))) | (refine Below.setCell ?_ ?_ _; rotate_left; (focus (first | exact Nat.lt_succ_self _ | ((repeat rw [World.size_alloc]); omega) | (simp; done) | (simp; omega) | omega))) | (refine Below.then' ?_ (by assumption) ?_; rotate_left; (focus (first | exact Nat.lt_succ_self _ | ((repeat rw [World.size_alloc]); omega) | (simp; done) | (simp; omega) | omega))) | fail)); (first | done | fail))
        clear hB4 hb5 r4
        go_wp2_with fail
        generalize w5.alloc (.cells P.cells 30) = V at *
        refine (HR.out _).mono ?_
        rintro e w6 ⟨rfl, hb6⟩
        have r6 := (row_below hb6 (row_lt r5)).trans r5
        have hB6 := Below.then hB5 hb6
        clear hB5 hb6 r5
        go_wp2_with fail
        have HM : Hid (∀ w', Below w6.heap.size w6 w' → row w' w5.heap.size = some P.cells ∧ (∀ i, w'.cell? ⟨w5.heap.size, i, none⟩ = P.cells[i]?)) := Lib.hid fun w' h => ⟨(row_below h (row_lt r6)).trans r6, fun i => row_cell ((row_below h (row_lt r6)).trans r6) i⟩
        (refine wp_region_calm (by kernel_rfl) (by kernel_rfl) ?_; (repeat (first | go_big_quiet_skip | (go_big_quiet_want; apply calm_val; (focus (intro w' hb'; obtain ⟨c1, c2⟩ := HM.out w' hb'; first | exact rpar_quiet rfl c1 rfl | (unfold Oper.quietAt; go_simp; first | rfl | (go_at_call 22; exact calm_call hb' (HRL.out _)) | (go_at_call 17; exact calm_call hb' (HT.out _))))); (try simp only [Act.put, List.setIfInBounds_toArray, List.set_cons_zero, List.set_cons_succ]); go_big_quiet_on))); refine wpQuiet_nil ?_; intro w' hb')
        have r7 := (HM.out w' hb').1
        have hB7 := Below.then hB6 hb'
        clear HM hB6 hb' r6
        go_wp2_with fail
        first
          | (go_ret; exact ⟨rfl, hB7⟩)
          | (refine (HRB'.out _).mono ?_; rintro e w8 ⟨rfl, hb8⟩; go_wp2_with fail; go_ret; exact ⟨rfl, Below.then hB7 hb8⟩)
          | fail
end Go.Proofs.Ytecdfphfgaeodaa

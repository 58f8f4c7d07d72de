/-
  Layer 7: ParamBytes, and ParamBack: the walks.
-/
import Derived.Test.YtecdfphfgaeodaaLaw07d
namespace Go.Proofs.Ytecdfphfgaeodaa
open Go.RowKit
set_option linter.unusedVariables false

set_option maxRecDepth 100000 in
set_option maxHeartbeats 16000000 in
theorem paramBytes_any (P : Par) (A : Option Addr) (n c : Nat) (xs : List Nat) (hn : xs.length = n) (hl : n ≤ 9223372036854775807) (w : World) (hU : BysIn w A c xs) : Calls Try.prog 6 #[.agg P.cells, .slice A n c] w fun e w' => e = .returned (.bool true) ∧ Below w.heap.size w w' := by
  have r0 : row (w.alloc (.cells P.cells 24)) w.heap.size = some P.cells := row_at _ _ _ _ rfl
  have hB0 : Below w.heap.size w (w.alloc (.cells P.cells 24)) := (by (repeat (first | exact Below.refl _ _ | assumption | (refine Below.allocT ?_ _) | refine Below.drew ?_ | refine below_drewN ?_ _ | (refine Below.then ?_ (by assumption)) | (refine Below.setRow ?_ ?_ _; rotate_left; (focus (first | exact Nat.lt_succ_self _ | ((repeat rw [World.size_alloc]); omega) | (simp; done) | (simp; omega) | omega))) | (refine Below.setCell ?_ ?_ _; rotate_left; (focus (first | exact Nat.lt_succ_self _ | ((repeat rw [World.size_alloc]); omega) | (simp; done) | (simp; omega) | omega))) | (refine Below.then' ?_ (by assumption) ?_; rotate_left; (focus (first | exact Nat.lt_succ_self _ | ((repeat rw [World.size_alloc]); omega) | (simp; done) | (simp; omega) | omega))) | fail)); (first | done | fail))
  have HU := Lib.hid hU
  by_cases hbig : 2000 < n
  · have hbig' : (2000 : Int) < (n : Int) := by omega
    clear hU hn
    go_enter Try.func6, Try.ntmps6
    go_wp2_with fail
    generalize w.alloc (.cells P.cells 24) = w0 at *
    refine (awake07_any _).mono ?_
    rintro e w1 ⟨rfl, hb⟩
    go_wp2_with fail
    go_ret
    exact ⟨rfl, Below.then hB0 hb⟩
  · have hbig' : ¬ (2000 : Int) < (n : Int) := by omega
    have HRt := Lib.hid (fun W => right_any P W)
    have HE := Lib.hid (fun W => pencode_any P W)
    unfold EncPost at HE
    have HP := Lib.hid (fun W h => pdecode_any A n c xs hn (by omega) hU.ok W h)
    have HD := Lib.hid (fun W h => rdec7_any A n c xs hn (by omega) W h)
    unfold DecPost at HP HD
    have HS := Lib.hid (fun W h => streams_any P A n c xs hn (by omega) W h)
    generalize readE ⟨xs, 0, 0⟩ = re at *
    generalize readQ ⟨xs, 0, 0⟩ = rq at *
    generalize decN ⟨xs, 0, 0⟩ = dn at *
    clear hU hn
    cases hr : rightB P
    all_goals
      rw [hr] at HRt
    · have hv1 : encL P = [] := by simp [encL, hr]
      have hv2 : checkE P = 70 := by simp [checkE, hr]
      rw [hv1, hv2] at HE
      clear hv1 hv2 hr hbig
      go_enter Try.func6, Try.ntmps6
      go_wp2_with fail
      generalize w.alloc (.cells P.cells 24) = w0 at *
      refine (awake07_any _).mono ?_
      rintro e w1 ⟨rfl, hb⟩
      have r1 := (row_below hb (row_lt r0)).trans r0
      have hB1 := Below.then hB0 hb
      clear r0 hB0 hb
      go_wp2_with fail
      refine (HE.out _).mono ?_
      rintro e w2 ⟨A2, c2, rfl, hO2, hA2, hb2⟩
      have r2 := (row_below hb2 (row_lt r1)).trans r1
      have hB2 := Below.then hB1 hb2
      clear r1 hB1 hb2 hO2 hA2
      go_wp2_with fail
      refine (plain_any P _).mono ?_
      rintro e w3 ⟨rfl, hb3⟩
      have r3 := (row_below hb3 (row_lt r2)).trans r2
      have hB3 := Below.then hB2 hb3
      clear r2 hB2 hb3
      go_wp2_with fail
      refine (HRt.out _).mono ?_
      rintro e wk ⟨rfl, hb4⟩
      have BK := Lib.hid (Below.then hB3 hb4)
      have rk := (row_below hb4 (row_lt r3)).trans r3
      clear r3 hB3 hb4 HRt
      go_wp2_with fail
      refine (HP.out _ (HU.out.bys.below BK.out (Nat.le_refl _))).mono ?_
      rintro e wo ⟨rfl, hb⟩
      have p0 : row (wo.alloc (.cells rq.cells 24)) w.heap.size = some P.cells := (row_past _ _ _ (row_lt ((row_below hb (row_lt rk)).trans rk))).trans ((row_below hb (row_lt rk)).trans rk)
      have q0 : row (wo.alloc (.cells rq.cells 24)) wo.heap.size = some rq.cells := row_at _ _ _ _ rfl
      have BQ := Lib.hid (Below.allocT (Below.then BK.out hb) (.cells rq.cells 24))
      clear BK rk hb HP HE
      go_wp2_with fail
      generalize wo.alloc (.cells rq.cells 24) = wp at *
      generalize wo.heap.size = gq at *
      refine (HD.out _ (HU.out.below BQ.out (Nat.le_refl _))).mono ?_
      rintro e wq ⟨rfl, hb⟩
      have p1 := (row_below hb (row_lt p0)).trans p0
      have q1 := (row_below hb (row_lt q0)).trans q0
      have p2 : row (wq.alloc (.cells rq.cells 30)) w.heap.size = some P.cells := (row_past _ _ _ (row_lt p1)).trans p1
      have q2 : row (wq.alloc (.cells rq.cells 30)) gq = some rq.cells := (row_past _ _ _ (row_lt q1)).trans q1
      have s2 : row (wq.alloc (.cells rq.cells 30)) wq.heap.size = some rq.cells := row_at _ _ _ _ rfl
      have BR := Lib.hid (Below.allocT (Below.then BQ.out hb) (.cells rq.cells 30))
      clear p0 q0 p1 q1 BQ hb HD
      go_wp2_with fail
      generalize wq.alloc (.cells rq.cells 30) = wx at *
      generalize wq.heap.size = gs at *
      have HM : Hid (∀ w', Below wx.heap.size wx w' → row w' gq = some rq.cells ∧ row w' gs = some rq.cells ∧ row w' w.heap.size = some P.cells ∧ Hid (BysIn w' A c xs)) := Lib.hid fun w' h => ⟨(row_below h (row_lt q2)).trans q2, (row_below h (row_lt s2)).trans s2, (row_below h (row_lt p2)).trans p2, Lib.hid (HU.out.below (Below.then BR.out h) (Nat.le_refl _))⟩
      clear q2 s2 p2 HU
      (refine wp_region_calm (by kernel_rfl) (by kernel_rfl) ?_; (repeat (first | go_big_quiet_skip | (go_big_quiet_want; apply calm_val; (focus (intro w' hb'; obtain ⟨c1, c2, c3, c4⟩ := HM.out w' hb'; first | exact par_quietO rfl rfl c1 rfl | exact rpar_quietO rfl rfl c2 rfl | exact par_quietO rfl rfl c3 rfl | (unfold Oper.quietAt; go_simp; first | rfl | (go_at_call 15; exact calm_call hb' (plain_any rq _)) | (go_at_call 29; exact calm_call hb' (HS.out _ c4.out))))); (try simp only [Act.put, List.setIfInBounds_toArray, List.set_cons_zero, List.set_cons_succ]); go_big_quiet_on))); refine wpQuiet_nil ?_; intro w' hb')
      go_wp2_with fail
      go_ret
      exact ⟨rfl, Below.then BR.out hb'⟩
    · have hf := right_fits hr
      have hv1 : encL P = formP P := by simp [encL, hr]
      have hv2 : checkE P = 0 := by simp [checkE, hr]
      have HFm := Lib.hid (fun W => rform7_any P hf W)
      have hFl := formP_len hf
      rw [hv1, hv2] at HE
      clear hv1 hv2 hr hbig hf
      generalize formP P = fp at *
      go_enter Try.func6, Try.ntmps6
      go_wp2_with fail
      generalize w.alloc (.cells P.cells 24) = w0 at *
      refine (awake07_any _).mono ?_
      rintro e w1 ⟨rfl, hb⟩
      have r1 := (row_below hb (row_lt r0)).trans r0
      have hB1 := Below.then hB0 hb
      clear r0 hB0 hb
      go_wp2_with fail
      refine (HE.out _).mono ?_
      rintro e w2 ⟨A2, c2, rfl, hO2, hA2, hb2⟩
      have r2 := (row_below hb2 (row_lt r1)).trans r1
      have hB2 := Below.then hB1 hb2
      have Y2 := Lib.hid hO2.bysA
      clear r1 hB1 hb2 hO2 hA2
      go_wp2_with fail
      refine (plain_any P _).mono ?_
      rintro e w3 ⟨rfl, hb3⟩
      have r3 := (row_below hb3 (row_lt r2)).trans r2
      have hB3 := Below.then hB2 hb3
      have Y3 := Lib.hid (Y2.out.stay hb3)
      clear r2 hB2 hb3 Y2
      go_wp2_with fail
      refine (HRt.out _).mono ?_
      rintro e w4 ⟨rfl, hb4⟩
      have r4 := (row_below hb4 (row_lt r3)).trans r3
      have hB4 := Below.then hB3 hb4
      have Y4 := Lib.hid (Y3.out.stay hb4)
      clear r3 hB3 hb4 Y3 HRt
      go_wp2_with fail
      refine (plain_any P _).mono ?_
      rintro e w5 ⟨rfl, hb5⟩
      have r5 := (row_below hb5 (row_lt r4)).trans r4
      have hB5 := Below.then hB4 hb5
      have Y5 := Lib.hid (Y4.out.stay hb5)
      clear r4 hB4 hb5 Y4
      go_wp2_with fail
      refine (HFm.out _).mono ?_
      intro e w6 hR
      obtain ⟨A6, c6, rfl, hB, hO, hA, hb6⟩ := hR.bys
      have r6 := (row_below hb6 (row_lt r5)).trans r5
      have hB6 := Below.then hB5 hb6
      have Y6 := Lib.hid (Y5.out.stay hb6)
      have Z6 := Lib.hid hB
      clear r5 hB5 hb6 Y5 hR hB hO hA
      go_wp2_with fail
      refine (same5_any A2 A6 fp fp fp.length c2 fp.length c6 rfl rfl (by omega) (by omega) _ Y6.out Z6.out).mono ?_
      rintro e wk ⟨rfl, hb7⟩
      have hself : sameL fp fp = true := by simp [sameL]
      rw [hself]
      have rk := (row_below hb7 (row_lt r6)).trans r6
      have BK := Lib.hid (Below.then hB6 hb7)
      clear r6 hB6 hb7 Y6 Z6 HFm hself
      go_wp2_with fail
      refine (HP.out _ (HU.out.bys.below BK.out (Nat.le_refl _))).mono ?_
      rintro e wo ⟨rfl, hb⟩
      have p0 : row (wo.alloc (.cells rq.cells 24)) w.heap.size = some P.cells := (row_past _ _ _ (row_lt ((row_below hb (row_lt rk)).trans rk))).trans ((row_below hb (row_lt rk)).trans rk)
      have q0 : row (wo.alloc (.cells rq.cells 24)) wo.heap.size = some rq.cells := row_at _ _ _ _ rfl
      have BQ := Lib.hid (Below.allocT (Below.then BK.out hb) (.cells rq.cells 24))
      clear BK rk hb HP HE
      go_wp2_with fail
      generalize wo.alloc (.cells rq.cells 24) = wp at *
      generalize wo.heap.size = gq at *
      refine (HD.out _ (HU.out.below BQ.out (Nat.le_refl _))).mono ?_
      rintro e wq ⟨rfl, hb⟩
      have p1 := (row_below hb (row_lt p0)).trans p0
      have q1 := (row_below hb (row_lt q0)).trans q0
      have p2 : row (wq.alloc (.cells rq.cells 30)) w.heap.size = some P.cells := (row_past _ _ _ (row_lt p1)).trans p1
      have q2 : row (wq.alloc (.cells rq.cells 30)) gq = some rq.cells := (row_past _ _ _ (row_lt q1)).trans q1
      have s2 : row (wq.alloc (.cells rq.cells 30)) wq.heap.size = some rq.cells := row_at _ _ _ _ rfl
      have BR := Lib.hid (Below.allocT (Below.then BQ.out hb) (.cells rq.cells 30))
      clear p0 q0 p1 q1 BQ hb HD
      go_wp2_with fail
      generalize wq.alloc (.cells rq.cells 30) = wx at *
      generalize wq.heap.size = gs at *
      have HM : Hid (∀ w', Below wx.heap.size wx w' → row w' gq = some rq.cells ∧ row w' gs = some rq.cells ∧ row w' w.heap.size = some P.cells ∧ Hid (BysIn w' A c xs)) := Lib.hid fun w' h => ⟨(row_below h (row_lt q2)).trans q2, (row_below h (row_lt s2)).trans s2, (row_below h (row_lt p2)).trans p2, Lib.hid (HU.out.below (Below.then BR.out h) (Nat.le_refl _))⟩
      clear q2 s2 p2 HU
      (refine wp_region_calm (by kernel_rfl) (by kernel_rfl) ?_; (repeat (first | go_big_quiet_skip | (go_big_quiet_want; apply calm_val; (focus (intro w' hb'; obtain ⟨c1, c2, c3, c4⟩ := HM.out w' hb'; first | exact par_quietO rfl rfl c1 rfl | exact rpar_quietO rfl rfl c2 rfl | exact par_quietO rfl rfl c3 rfl | (unfold Oper.quietAt; go_simp; first | rfl | (go_at_call 15; exact calm_call hb' (plain_any rq _)) | (go_at_call 29; exact calm_call hb' (HS.out _ c4.out))))); (try simp only [Act.put, List.setIfInBounds_toArray, List.set_cons_zero, List.set_cons_succ]); go_big_quiet_on))); refine wpQuiet_nil ?_; intro w' hb')
      go_wp2_with fail
      go_ret
      exact ⟨rfl, Below.then BR.out hb'⟩
theorem run_head7 (A : Option Addr) (n c k : Nat) (h : k ≤ c) (w : World) : (Instr.slice 41 (.slice A n c) none (some (.int .i64 (k : Int))) none).run Try.prog w = .ok (.slice (cutA A c 0) k c) w := by
  obtain ⟨i0, hi, hz0, hz1, hz2⟩ := info_parts u8_info
  have he : Try.prog.elem 41 = 5 := by kernel_rfl
  have hs : (sizeOf 5).run Try.prog w = .ok 1 w := by simp [sizeOf, typeInfo, hi, hz1]
  rw [run_slice_h (P := Try.prog) w 41 A n c (by rw [he]; exact u8s_under) .i64 k (by omega) (by omega), he, hs]
  have e1 : ((k : Int)).toNat = k := by omega
  simp only [Result.andThen, sliced, cutA, e1, Nat.mul_one, Nat.sub_zero]
theorem own_far {W W' : World} {a : Addr} {n c : Nat} {l m : List Nat} {v' : Value} {k0 : Nat} (h : Appended W (.slice (some a) n c) l m v' W') (h1 : k0 < a.block) (h2 : k0 < W.heap.size) : ∀ k, v'.ownBlock = some k → k0 < k := fun k hk => by
  rcases h.2.2 with h3 | h3
  · have h4 : some k = some a.block := hk.symm.trans h3
    rw [Option.some.injEq] at h4; omega
  · have h4 := hk.symm.trans h3
    rw [Option.some.injEq] at h4; omega
theorem readQ_there {P : Par} {xs : List Nat} (h : rightB P = true) : readQ ⟨formP P ++ xs, 0, 0⟩ = P ∧ readE ⟨formP P ++ xs, 0, 0⟩ = 0 ∧ decN ⟨formP P ++ xs, 0, 0⟩ = (formP P).length := by
  obtain ⟨h1, h2⟩ := read_there (r := xs) (right_fits h)
  have h3 := readE_yes (t := ⟨formP P ++ xs, 0, 0⟩) (by rw [h2]) (by rw [h1]; exact h)
  refine ⟨h3.2.trans h1, h3.1, ?_⟩
  unfold decN
  rw [if_pos h3.1, h2]
theorem readQ_back {xs : List Nat} (hok : bytesOk xs) (h : readE ⟨xs, 0, 0⟩ = 0) : rightB (readQ ⟨xs, 0, 0⟩) = true ∧ formP (readQ ⟨xs, 0, 0⟩) = xs.take (decN ⟨xs, 0, 0⟩) := by
  by_cases h0 : (readT ⟨xs, 0, 0⟩).e = 0
  · cases hr : rightB (readP ⟨xs, 0, 0⟩)
    · have := (readE_no h0 hr).1; omega
    · obtain ⟨h1, h2⟩ := readE_yes h0 hr
      rw [h2]
      refine ⟨hr, ?_⟩
      unfold decN
      rw [if_pos h]
      exact read_back hok rfl h0
  · exact absurd ((readE_bad h0).1.symm.trans h) h0
set_option maxRecDepth 100000 in
set_option maxHeartbeats 16000000 in
theorem paramBack_any (P : Par) (A : Option Addr) (n c : Nat) (xs : List Nat) (hn : xs.length = n) (hl : n ≤ 9223372036854775807) (w : World) (hU : BysIn w A c xs) : Calls Try.prog 7 #[.agg P.cells, .slice A n c] w fun e w' => e = .returned (.bool true) ∧ Below w.heap.size w w' := by
  have r0 : row (w.alloc (.cells P.cells 24)) w.heap.size = some P.cells := row_at _ _ _ _ rfl
  have hB0 : Below w.heap.size w (w.alloc (.cells P.cells 24)) := (by (repeat (first | exact Below.refl _ _ | assumption | (refine Below.allocT ?_ _) | refine Below.drew ?_ | refine below_drewN ?_ _ | (refine Below.then ?_ (by assumption)) | (refine Below.setRow ?_ ?_ _; rotate_left; (focus (first | exact Nat.lt_succ_self _ | ((repeat rw [World.size_alloc]); omega) | (simp; done) | (simp; omega) | omega))) | (refine Below.setCell ?_ ?_ _; rotate_left; (focus (first | exact Nat.lt_succ_self _ | ((repeat rw [World.size_alloc]); omega) | (simp; done) | (simp; omega) | omega))) | (refine Below.then' ?_ (by assumption) ?_; rotate_left; (focus (first | exact Nat.lt_succ_self _ | ((repeat rw [World.size_alloc]); omega) | (simp; done) | (simp; omega) | omega))) | fail)); (first | done | fail))
  have HU := Lib.hid hU
  by_cases hbig : 2000 < n
  · have hbig' : (2000 : Int) < (n : Int) := by omega
    clear hU hn
    go_enter Try.func7, Try.ntmps7
    go_wp2_with fail
    generalize w.alloc (.cells P.cells 24) = w0 at *
    refine (awake07_any _).mono ?_
    rintro e w1 ⟨rfl, hb⟩
    go_wp2_with fail
    go_ret
    exact ⟨rfl, Below.then hB0 hb⟩
  · have hbig' : ¬ (2000 : Int) < (n : Int) := by omega
    have HN := Lib.hid hn
    have HE := Lib.hid (fun W => pencode_any P W)
    have HEq := Lib.hid (fun W => pencode_any (readQ ⟨xs, 0, 0⟩) W)
    unfold EncPost at HE HEq
    have HP := Lib.hid (fun W h => pdecode_any A n c xs hn (by omega) hU.ok W h)
    unfold DecPost at HP
    have HQ0 : Hid (readE ⟨xs, 0, 0⟩ ≠ 0 → readQ ⟨xs, 0, 0⟩ = Par.zero ∧ decN ⟨xs, 0, 0⟩ = 0) := Lib.hid fun h => ⟨by unfold readQ; rw [if_neg h], by unfold decN; rw [if_neg h]⟩
    have HQ1 : Hid (readE ⟨xs, 0, 0⟩ = 0 → checkE (readQ ⟨xs, 0, 0⟩) = 0 ∧ encL (readQ ⟨xs, 0, 0⟩) = xs.take (decN ⟨xs, 0, 0⟩)) := Lib.hid fun h => by
      obtain ⟨h1, h2⟩ := readQ_back hU.ok h
      exact ⟨by simp [checkE, h1], by rw [← h2]; simp [encL, h1]⟩
    have hdl := decN_le (xs := xs) ⟨hU.ok, by simp, by show xs.length ≤ _; omega, by simp, by simp⟩
    have HW := Lib.hid (fun (h : rightB P = true) => readQ_there (xs := xs) h)
    have hcap := hU.cap
    rw [hn] at hdl hcap
    generalize readE ⟨xs, 0, 0⟩ = re at *
    generalize readQ ⟨xs, 0, 0⟩ = rq at *
    generalize decN ⟨xs, 0, 0⟩ = dn at *
    clear hU hn
    cases hr : rightB P
    · have hv1 : encL P = [] := by simp [encL, hr]
      have hv2 : checkE P = 70 := by simp [checkE, hr]
      rw [hv1, hv2] at HE
      clear hv1 hv2 hr hbig HW
      go_enter Try.func7, Try.ntmps7
      go_wp2_with fail
      generalize w.alloc (.cells P.cells 24) = w0 at *
      refine (awake07_any _).mono ?_
      rintro e w1 ⟨rfl, hb⟩
      have r1 := (row_below hb (row_lt r0)).trans r0
      have hB1 := Below.then hB0 hb
      clear r0 hB0 hb
      go_wp2_with fail
      refine (HE.out _).mono ?_
      rintro e wk ⟨A2, c2, rfl, hO2, hA2, hb2⟩
      have BK := Lib.hid (Below.then hB1 hb2)
      clear r1 hB1 hb2 hO2 hA2
      go_wp2_with fail
      refine (HP.out _ (HU.out.bys.below BK.out (Nat.le_refl _))).mono ?_
      rintro e wo ⟨rfl, hb⟩
      have q0 : row (wo.alloc (.cells rq.cells 24)) wo.heap.size = some rq.cells := row_at _ _ _ _ rfl
      have BQ := Lib.hid (Below.allocT (Below.then BK.out hb) (.cells rq.cells 24))
      clear BK hb HP HE
      by_cases h0 : re = 0
      · subst h0
        obtain ⟨g1, g2⟩ := HQ1.out rfl
        rw [g1, g2] at HEq
        have htl : (xs.take dn).length = dn := by rw [List.length_take, HN.out]; omega
        rw [htl] at HEq
        have HTl := Lib.hid htl
        have hm0 : max (dn : Int) 0 = (dn : Int) := by omega
        have hcut := fun W => run_head7 A n c dn (by omega) W
        clear g1 g2 htl HQ0 HQ1
        go_wp2_with fail
        generalize wo.alloc (.cells rq.cells 24) = wp at *
        generalize wo.heap.size = gq at *
        refine (HEq.out _).mono ?_
        rintro e wq ⟨A7, c7, rfl, hO7, hA7, hb⟩
        have B7 := Lib.hid (Below.then BQ.out hb)
        have Y7 := Lib.hid hO7.bysA
        have Z7 : Hid (Bys wq (cutA A c 0) (xs.take dn)) := Lib.hid (by
          have := cutA_bys (lo := 0) (n := dn) (HU.out.bys.below B7.out (Nat.le_refl _)) (by rw [HN.out]; omega) HU.out.cap
          rwa [List.drop_zero] at this)
        clear q0 BQ hb hO7 hA7
        go_wp2_with fail
        refine (same5_any A7 (cutA A c 0) (xs.take dn) (xs.take dn) dn c7 dn c HTl.out HTl.out (by omega) (by omega) _ Y7.out Z7.out).mono ?_
        rintro e wr ⟨rfl, hb⟩
        have hself : sameL (xs.take dn) (xs.take dn) = true := by simp [sameL]
        rw [hself]
        go_wp2_with fail
        go_ret
        exact ⟨rfl, Below.then B7.out hb⟩
      · have he1 : (re != 0) = true := bne_iff_ne.2 h0
        obtain ⟨g1, g2⟩ := HQ0.out h0
        subst g1
        subst g2
        clear h0 HQ0 HQ1
        go_wp2_with (refine wpList_build_to Par.zero.cells rfl 24 _ rfl (by kernel_rfl) ?_)
        go_ret
        exact ⟨rfl, BQ.out⟩
    · have hv1 : encL P = formP P := by simp [encL, hr]
      have hv2 : checkE P = 0 := by simp [checkE, hr]
      have hf := right_fits hr
      have hFl := formP_len hf
      have hok7 : bytesOk (formP P ++ xs) := (formP_ok P).append HU.out.ok
      have HPw := Lib.hid (fun A c W h => pdecode_any A ((formP P).length + n) c (formP P ++ xs) (by rw [List.length_append, HN.out]) (by omega) hok7 W h)
      unfold DecPost at HPw
      obtain ⟨y1, y2, y3⟩ := HW.out hr
      rw [y1, y2, y3] at HPw
      rw [hv1, hv2] at HE
      clear hv1 hv2 hr hbig hf y1 y2 y3 HW hok7
      generalize formP P = fp at *
      go_enter Try.func7, Try.ntmps7
      go_wp2_with fail
      generalize w.alloc (.cells P.cells 24) = w0 at *
      refine (awake07_any _).mono ?_
      rintro e w1 ⟨rfl, hb⟩
      have r1 := (row_below hb (row_lt r0)).trans r0
      have hB1 := Below.then hB0 hb
      clear r0 hB0 hb
      go_wp2_with fail
      refine (HE.out _).mono ?_
      rintro e w2 ⟨A2, c2, rfl, hO2, hA2, hb2⟩
      have r2 : row (w2.alloc (.cells #[] 5)) w.heap.size = some P.cells := (row_past _ _ _ (row_lt ((row_below hb2 (row_lt r1)).trans r1))).trans ((row_below hb2 (row_lt r1)).trans r1)
      have hB2 := Below.allocT (Below.then hB1 hb2) (.cells #[] 5)
      have hGw : Hid (w.heap.size < w2.heap.size) := Lib.hid (row_lt ((row_below hb2 (row_lt r1)).trans r1))
      have Y2 := Lib.hid (hO2.bysA.stay ((Below.refl _ w2).alloc (Nat.le_refl _) (.cells #[] 5)))
      have O2 := Lib.hid (OwnB.lit w2 [] #[] (by simp) rfl)
      clear r1 hB1 hb2 hO2 hA2
      go_wp2_with (at_builtin; first | (refine wpList_appb rfl _ _ rfl _ [] fp A2 _ c2 O2.out Y2.out rfl rfl rfl (by rw [List.length_nil]; omega) ?_; intro v' wa hAp; obtain ⟨Aa, ca, rfl⟩ := hAp.formK (k := fp.length) (by rw [List.length_nil]; omega); have HAp := Lib.hid hAp; clear hAp; have hS := own_far HAp.out hGw.out (row_lt r2); have hG1 := Grow.of_app (w0 := w) hB2 (Nat.le_of_lt hGw.out) HAp.out; have ra := (HAp.out.chg.row (row_lt r2) (fun he => by have h1 : some w2.heap.size = some w.heap.size := he; rw [Option.some.injEq] at h1; have := hGw.out; omega)).trans r2) | (refine wpList_appb rfl _ _ rfl _ fp xs A n c hG1.1 (HU.out.bys.below hG1.2.2 (Nat.le_refl _)) rfl rfl HN.out (by rw [HN.out]; omega) ?_; intro v' wb hAp2; obtain ⟨Ab, cb, rfl⟩ := hAp2.formK (k := fp.length + n) (by rw [HN.out]); have HAp2 := Lib.hid hAp2; clear hAp2))
      have rb := (HAp2.out.chg.row (row_lt ra) (fun he => Nat.lt_irrefl _ (hS _ he))).trans ra
      have BB : Below w.heap.size w wb := hG1.2.2.grown HAp2.out.2.1 hG1.2.2.size (fun k hk => Nat.le_of_lt (hS k hk))
      have YB : Bys wb Ab (fp ++ xs) := HAp2.out.1.bysA
      clear r2 hB2 hGw Y2 O2 hS hG1 ra
      refine (HPw.out Ab cb wb YB).mono ?_
      rintro e wc ⟨rfl, hb⟩
      have rc := (row_below hb (row_lt rb)).trans rb
      have p0 : row (wc.alloc (.cells P.cells 24)) w.heap.size = some P.cells := (row_past _ _ _ (row_lt rc)).trans rc
      have q0 : row (wc.alloc (.cells P.cells 24)) wc.heap.size = some P.cells := row_at _ _ _ _ rfl
      have BK := Lib.hid (Below.allocT (Below.then BB hb) (.cells P.cells 24))
      clear rb BB YB rc hb HAp HAp2 HPw
      go_wp2_with fail
      generalize wc.alloc (.cells P.cells 24) = wk at *
      clear p0 q0
      go_wp2_with fail
      refine (HP.out _ (HU.out.bys.below BK.out (Nat.le_refl _))).mono ?_
      rintro e wo ⟨rfl, hb⟩
      have q0 : row (wo.alloc (.cells rq.cells 24)) wo.heap.size = some rq.cells := row_at _ _ _ _ rfl
      have BQ := Lib.hid (Below.allocT (Below.then BK.out hb) (.cells rq.cells 24))
      clear BK hb HP HE
      by_cases h0 : re = 0
      · subst h0
        obtain ⟨g1, g2⟩ := HQ1.out rfl
        rw [g1, g2] at HEq
        have htl : (xs.take dn).length = dn := by rw [List.length_take, HN.out]; omega
        rw [htl] at HEq
        have HTl := Lib.hid htl
        have hm0 : max (dn : Int) 0 = (dn : Int) := by omega
        have hcut := fun W => run_head7 A n c dn (by omega) W
        clear g1 g2 htl HQ0 HQ1
        go_wp2_with fail
        generalize wo.alloc (.cells rq.cells 24) = wp at *
        generalize wo.heap.size = gq at *
        refine (HEq.out _).mono ?_
        rintro e wq ⟨A7, c7, rfl, hO7, hA7, hb⟩
        have B7 := Lib.hid (Below.then BQ.out hb)
        have Y7 := Lib.hid hO7.bysA
        have Z7 : Hid (Bys wq (cutA A c 0) (xs.take dn)) := Lib.hid (by
          have := cutA_bys (lo := 0) (n := dn) (HU.out.bys.below B7.out (Nat.le_refl _)) (by rw [HN.out]; omega) HU.out.cap
          rwa [List.drop_zero] at this)
        clear q0 BQ hb hO7 hA7
        go_wp2_with fail
        refine (same5_any A7 (cutA A c 0) (xs.take dn) (xs.take dn) dn c7 dn c HTl.out HTl.out (by omega) (by omega) _ Y7.out Z7.out).mono ?_
        rintro e wr ⟨rfl, hb⟩
        have hself : sameL (xs.take dn) (xs.take dn) = true := by simp [sameL]
        rw [hself]
        go_wp2_with fail
        go_ret
        exact ⟨rfl, Below.then B7.out hb⟩
      · have he1 : (re != 0) = true := bne_iff_ne.2 h0
        obtain ⟨g1, g2⟩ := HQ0.out h0
        subst g1
        subst g2
        clear h0 HQ0 HQ1
        go_wp2_with (refine wpList_build_to Par.zero.cells rfl 24 _ rfl (by kernel_rfl) ?_)
        go_ret
        exact ⟨rfl, BQ.out⟩
end Go.Proofs.Ytecdfphfgaeodaa

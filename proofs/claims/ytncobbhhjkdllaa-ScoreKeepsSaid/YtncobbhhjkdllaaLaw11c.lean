/-
  The walk of ScoreKeeps: it answers true whatever the arguments.
-/
import Derived.Test.YtncobbhhjkdllaaLaw11b
import Derived.Test.YtncobbhhjkdllaaOpenTicks
namespace Go.Proofs.Ytncobbhhjkdllaa
open Go.RowKit
set_option linter.unusedVariables false

def InP (P : Par) (c : Nat) (k : Int) : Prop := c ≤ P.scoreCap ∧ 0 ≤ k ∧ k ≤ P.streak
theorem after_in {P : Par} (h1 : 0 ≤ P.streak) {b e c : Nat} {k : Int} (h : InP P c k) (pr : Bool) (m : Int) : ∃ c' k', afterS P ⟨b, e, c, k⟩ pr m = ⟨b, e, c', k'⟩ ∧ InP P c' k' := by
  obtain ⟨g1, g2, g3⟩ := h
  unfold afterS
  cases pr
  · refine ⟨_, _, rfl, ?_, by omega, by omega⟩
    simp only []
    split
    · omega
    · split <;> omega
  · refine ⟨_, _, rfl, ?_, ?_, ?_⟩
    all_goals simp only []
    all_goals omega
theorem trim_in {P : Par} (h1 : 0 ≤ P.streak) (b e c : Nat) (k : Int) : ∃ c' k', trimS P ⟨b, e, c, k⟩ = ⟨b, e, c', k'⟩ ∧ InP P c' k' := by
  refine ⟨_, _, rfl, ?_, ?_, ?_⟩
  all_goals simp only []
  all_goals omega
theorem trim_same {P : Par} {b e c : Nat} {k : Int} (h : InP P c k) : trimS P ⟨b, e, c, k⟩ = ⟨b, e, c, k⟩ := by
  obtain ⟨g1, g2, g3⟩ := h
  unfold trimS
  simp only [St.mk.injEq, true_and]
  omega
set_option maxHeartbeats 4000000 in
set_option maxRecDepth 100000 in
theorem scoreKeeps_any (P : Par) (s : St) (A : Option Addr) (xs : List (Bool × Int)) (n c0 : Nat) (hP : P.scoreCap < 18446744073709551616) (hs : s.Ok) (hl : xs.length = n) (hx : ∀ x ∈ xs, i64ok x.2) (hm : n ≤ 9223372036854775807) (w : World) (hU : SliceOf 2 tickC w A xs) :
    Calls Try.prog 7 #[.agg P.cells, .agg s.cells, .slice A n c0] w fun e w' => e = .returned (.bool true) ∧ Below w.heap.size w w' := by
  have r0 : row ((w.alloc (.cells P.cells 24)).alloc (.cells s.cells 41)) w.heap.size = some P.cells := (by (repeat (first | assumption | (refine row_at _ _ _ _ ?_; first | rfl | (simp only [World.size_alloc]; done) | (simp only [World.size_alloc]; omega)) | (refine (row_past _ _ _ ?_).trans ?_; (focus (first | exact Nat.lt_succ_self _ | ((repeat rw [World.size_alloc]); omega) | (simp; done) | (simp; omega) | omega))) | rw [row_drewN] | rw [row_drew])); (first | done | fail))
  have s0 : row ((w.alloc (.cells P.cells 24)).alloc (.cells s.cells 41)) (w.heap.size + 1) = some s.cells := (by (repeat (first | assumption | (refine row_at _ _ _ _ ?_; first | rfl | (simp only [World.size_alloc]; done) | (simp only [World.size_alloc]; omega)) | (refine (row_past _ _ _ ?_).trans ?_; (focus (first | exact Nat.lt_succ_self _ | ((repeat rw [World.size_alloc]); omega) | (simp; done) | (simp; omega) | omega))) | rw [row_drewN] | rw [row_drew])); (first | done | fail))
  have hB0 : Below w.heap.size w ((w.alloc (.cells P.cells 24)).alloc (.cells s.cells 41)) := (by (repeat (first | exact Below.refl _ _ | assumption | (refine Below.allocT ?_ _) | refine Below.drew ?_ | refine below_drewN ?_ _ | (refine Below.then ?_ (by assumption)) | (refine Below.setRow ?_ ?_ _; rotate_left; (focus (first | exact Nat.lt_succ_self _ | ((repeat rw [World.size_alloc]); omega) | (simp; done) | (simp; omega) | omega))) | (refine Below.setCell ?_ ?_ _; rotate_left; (focus (first | exact Nat.lt_succ_self _ | ((repeat rw [World.size_alloc]); omega) | (simp; done) | (simp; omega) | omega))) | (refine Below.then' ?_ (by assumption) ?_; rotate_left; (focus (first | exact Nat.lt_succ_self _ | ((repeat rw [World.size_alloc]); omega) | (simp; done) | (simp; omega) | omega))) | fail)); (first | done | fail))
  have HR := Lib.hid (fun W => right_any P W)
  have HL := Lib.hid hl
  clear hl
  cases hr : rightB P
  · rw [hr] at HR
    clear hr
    go_enter Try.func7, Try.ntmps7
    go_wp2_with fail
    generalize (w.alloc (.cells P.cells 24)).alloc (.cells s.cells 41) = W at *
    refine (awake11_any _).mono ?_
    rintro e w1 ⟨rfl, hb1⟩
    have r1 := (row_below hb1 (row_lt r0)).trans r0
    have hB1 := Below.then hB0 hb1
    clear r0 s0 hB0 hb1
    go_wp2_with fail
    refine (plain_any P _).mono ?_
    rintro e w2 ⟨rfl, hb2⟩
    have hB2 := Below.then hB1 hb2
    clear hB1 hb2
    go_wp2_with fail
    refine (HR.out _).mono ?_
    rintro e w3 ⟨rfl, hb3⟩
    have hB3 := Below.then hB2 hb3
    clear hB2 hb3
    go_wp2_with fail
    go_ret
    exact ⟨rfl, hB3⟩
  · rw [hr] at HR
    by_cases hin : n ≤ 200
    · have HP := Lib.hid (right_scores hr)
      have HS := Lib.hid (right_scores hr).2.2.2.2.1
      have HT0 : Hid (∀ W : World, Calls Try.prog 26 #[.agg P.cells, .agg s.cells] W fun e w' => e = .returned (.agg (trimS P s).cells) ∧ Below W.heap.size W w') := Lib.hid fun W => by
        have h := strim_any P s W
        rwa [show trimV P s = trimS P s by simp [trimV, hr]] at h
      have HT : Hid (∀ c k (W : World), InP P c k → Calls Try.prog 26 #[.agg P.cells, .agg (St.cells ⟨s.bal, s.eff, c, k⟩)] W fun e w' => e = .returned (.agg (St.cells ⟨s.bal, s.eff, c, k⟩)) ∧ Below W.heap.size W w') := Lib.hid fun c k W hi => by
        have h := strim_any P ⟨s.bal, s.eff, c, k⟩ W
        rwa [show trimV P ⟨s.bal, s.eff, c, k⟩ = ⟨s.bal, s.eff, c, k⟩ by simp only [trimV, hr, if_true]; exact trim_same hi] at h
      have HA : Hid (∀ c k pr m c' k' (W : World), InP P c k → afterS P ⟨s.bal, s.eff, c, k⟩ pr m = ⟨s.bal, s.eff, c', k'⟩ → Calls Try.prog 25 #[.agg P.cells, .agg (St.cells ⟨s.bal, s.eff, c, k⟩), .bool pr, .int .i64 m] W fun e w' => e = .returned (.agg (St.cells ⟨s.bal, s.eff, c', k'⟩)) ∧ Below W.heap.size W w') := Lib.hid fun c k pr m c' k' W hi he => by
        have hq := (right_scores hr).2.2.2.2.2
        have h := safter_any P ⟨s.bal, s.eff, c, k⟩ pr m ⟨hs.bal, hs.eff, Nat.lt_of_le_of_lt hi.1 hP, by unfold i64ok; have := hi.2; simp only []; omega⟩ W
        rwa [show afterV P ⟨s.bal, s.eff, c, k⟩ pr m = ⟨s.bal, s.eff, c', k'⟩ by simp only [afterV, hr, if_true]; exact he] at h
      obtain ⟨c1, k1, hT1, hI1⟩ := trim_in HS.out s.bal s.eff s.score s.streak
      rw [show trimS P s = ⟨s.bal, s.eff, c1, k1⟩ from hT1] at HT0
      have HI1 := Lib.hid hI1
      clear hr hT1 hI1 hs hP
      go_enter Try.func7, Try.ntmps7
      go_wp2_with fail
      generalize (w.alloc (.cells P.cells 24)).alloc (.cells s.cells 41) = W at *
      refine (awake11_any _).mono ?_
      rintro e w1 ⟨rfl, hb1⟩
      have r1 := (row_below hb1 (row_lt r0)).trans r0
      have s1 := (row_below hb1 (row_lt s0)).trans s0
      have hB1 := Below.then hB0 hb1
      clear r0 s0 hB0 hb1
      go_wp2_with fail
      refine (plain_any P _).mono ?_
      rintro e w2 ⟨rfl, hb2⟩
      have r2 := (row_below hb2 (row_lt r1)).trans r1
      have s2 := (row_below hb2 (row_lt s1)).trans s1
      have hB2 := Below.then hB1 hb2
      clear r1 s1 hB1 hb2
      go_wp2_with fail
      refine (HR.out _).mono ?_
      rintro e w3 ⟨rfl, hb3⟩
      have r3 := (row_below hb3 (row_lt r2)).trans r2
      have s3 := (row_below hb3 (row_lt s2)).trans s2
      have hB3 := Below.then hB2 hb3
      clear r2 s2 hB2 hb3
      go_wp2_with fail
      refine (HT0.out _).mono ?_
      rintro e w4 ⟨rfl, hb4⟩
      have ra := (row_below hb4 (row_lt r3)).trans r3
      have sa := (row_below hb4 (row_lt s3)).trans s3
      have hBa := Below.then hB3 hb4
      clear r3 s3 hB3 hb4
      go_wp2_with fail
      have r5 : row (w4.alloc (.cells (St.cells ⟨s.bal, s.eff, c1, k1⟩) 41)) w.heap.size = some P.cells := (row_past _ _ _ (row_lt ra)).trans ra
      have s5 : row (w4.alloc (.cells (St.cells ⟨s.bal, s.eff, c1, k1⟩) 41)) (w.heap.size + 1) = some s.cells := (row_past _ _ _ (row_lt sa)).trans sa
      have a5 : row (w4.alloc (.cells (St.cells ⟨s.bal, s.eff, c1, k1⟩) 41)) w4.heap.size = some (St.cells ⟨s.bal, s.eff, c1, k1⟩) := row_at _ _ _ _ rfl
      have hB5 : Below w.heap.size w (w4.alloc (.cells (St.cells ⟨s.bal, s.eff, c1, k1⟩) 41)) := (by (repeat (first | exact Below.refl _ _ | assumption | (refine Below.allocT ?_ _) | refine Below.drew ?_ | refine below_drewN ?_ _ | (refine Below.then ?_ (by assumption)) | (refine Below.setRow ?_ ?_ _; rotate_left; (focus (first | exact Nat.lt_succ_self _ | ((repeat rw [World.size_alloc]); omega) | (simp; done) | (simp; omega) | omega))) | (refine Below.setCell ?_ ?_ _; rotate_left; (focus (first | exact Nat.lt_succ_self _ | ((repeat rw [World.size_alloc]); omega) | (simp; done) | (simp; omega) | omega))) | (refine Below.then' ?_ (by assumption) ?_; rotate_left; (focus (first | exact Nat.lt_succ_self _ | ((repeat rw [World.size_alloc]); omega) | (simp; done) | (simp; omega) | omega))) | fail)); (first | done | fail))
      have hg1 := row_lt sa
      have hg0 := row_lt ra
      have hgb := hBa.size
      clear ra sa hBa
      generalize w4.alloc (.cells (St.cells ⟨s.bal, s.eff, c1, k1⟩) 41) = V at *
      generalize w4.heap.size = g at *
      have ne0 : w.heap.size ≠ g := by omega
      have ne1 : w.heap.size + 1 ≠ g := by omega
      go_loopw [26] (fun i wr => ∃ (j c : Nat) (k : Int), i = .int .i64 j ∧ j ≤ n ∧ Hid (InP P c k) ∧ row wr w.heap.size = some P.cells ∧ row wr (w.heap.size + 1) = some s.cells ∧ row wr g = some (St.cells ⟨s.bal, s.eff, c, k⟩) ∧ Below w.heap.size w wr) (fun i _ => n - (intOf i).toNat)
      case atStart => exact ⟨0, c1, k1, rfl, by omega, HI1, r5, s5, a5, hB5⟩
      case round =>
        obtain ⟨j, c, k, rfl, hj, hI, p1, q1, a1, hB⟩ := hrel
        clear r5 s5 a5 hB5
        have l0 := row_lt p1
        have l1 := row_lt q1
        have lg := row_lt a1
        by_cases hlt : j < n
        · obtain ⟨b, off, rfl, hbb, hcell⟩ := hU (by rw [HL.out]; omega)
          obtain ⟨⟨pr, m⟩, hxj⟩ : ∃ x, xs[j]? = some x := ⟨_, List.getElem?_eq_getElem (by rw [HL.out]; omega)⟩
          have hrg := range_below (hcell j _ hxj) hB hbb
          obtain ⟨c', k', haf, hI'⟩ := after_in (b := s.bal) (e := s.eff) HS.out hI.out pr m
          have HX := Lib.hid (fun W => HA.out c k pr m c' k' W hI.out haf)
          have HY := Lib.hid (fun W => HT.out c' k' W hI')
          have HI' := Lib.hid hI'
          have k0 := hrg 0 (.bool pr) rfl
          have k1 := hrg 1 (.int .i64 m) rfl
          simp only [Nat.add_zero] at k0
          clear hcell hU hx hxj hrg haf hI' hI HA HT hbb
          go_wp2_with fail
          refine (HX.out _).mono ?_
          rintro e wa ⟨rfl, hba⟩
          have p2 := (row_below hba (by simp; omega)).trans ((row_past _ _ _ l0).trans p1)
          have q2 := (row_below hba (by simp; omega)).trans ((row_past _ _ _ l1).trans q1)
          have a2 := (row_below hba (by simp; omega)).trans ((row_past _ _ _ lg).trans a1)
          have hB2 : Below w.heap.size w wa := (hB.alloc hB.size _).trans (hba.mono (by simp; have := hB.size; omega))
          clear p1 q1 a1 hB hba HX k0 k1 l0 l1 lg
          go_wp2_with fail
          have p3 : row (wa.setRow g (St.cells ⟨s.bal, s.eff, c', k'⟩)) w.heap.size = some P.cells := (row_setRow_far (Ne.symm ne0)).trans p2
          have q3 : row (wa.setRow g (St.cells ⟨s.bal, s.eff, c', k'⟩)) (w.heap.size + 1) = some s.cells := (row_setRow_far (Ne.symm ne1)).trans q2
          have a3 : row (wa.setRow g (St.cells ⟨s.bal, s.eff, c', k'⟩)) g = some (St.cells ⟨s.bal, s.eff, c', k'⟩) := row_setRow a2
          have hB3 : Below w.heap.size w (wa.setRow g (St.cells ⟨s.bal, s.eff, c', k'⟩)) := Below.setRow hB2 hgb _
          clear p2 q2 a2 hB2
          generalize wa.setRow g (St.cells ⟨s.bal, s.eff, c', k'⟩) = V2 at *
          have HM : Hid (∀ w', Below V2.heap.size V2 w' → row w' w.heap.size = some P.cells ∧ row w' g = some (St.cells ⟨s.bal, s.eff, c', k'⟩) ∧ (∀ i, w'.cell? ⟨w.heap.size + 1, i, none⟩ = s.cells[i]?) ∧ (∀ i, w'.cell? ⟨g, i, none⟩ = (St.cells ⟨s.bal, s.eff, c', k'⟩)[i]?)) := Lib.hid fun w' h => ⟨(row_below h (row_lt p3)).trans p3, (row_below h (row_lt a3)).trans a3, fun i => row_cell ((row_below h (row_lt q3)).trans q3) i, fun i => row_cell ((row_below h (row_lt a3)).trans a3) i⟩
          (refine wp_region_calm (by kernel_rfl) (by kernel_rfl) ?_; (repeat (first | go_big_quiet_skip | (go_big_quiet_want; apply calm_val; (focus (intro w' hb'; obtain ⟨c1, c2, c3, c4⟩ := HM.out w' hb'; first | exact par_quiet rfl c1 rfl | exact st_quiet rfl c2 rfl | (unfold Oper.quietAt; go_simp; first | rfl | (go_at_call 26; exact calm_call hb' (HY.out _))))); (try simp only [Act.put, List.setIfInBounds_toArray, List.set_cons_zero, List.set_cons_succ]); go_big_quiet_on))); refine wpQuiet_nil ?_; intro w' hb')
          have p4 := (row_below hb' (row_lt p3)).trans p3
          have q4 := (row_below hb' (row_lt q3)).trans q3
          have a4 := (row_below hb' (row_lt a3)).trans a3
          have hB4 : Below w.heap.size w w' := Below.then hB3 hb'
          clear p3 q3 a3 hB3 HM hb'
          go_wp2_with fail
          exact ⟨⟨j + 1, c', k', by go_num, by omega, HI', p4, q4, a4, hB4⟩, by simp [intOf]; omega⟩
        · obtain rfl : j = n := by omega
          clear hU hx
          go_wp2_with fail
          go_loopw [57] (fun i wr => ∃ (j c : Nat) (k : Int), i = .int .i64 j ∧ j ≤ 64 ∧ Hid (InP P c k ∧ min (j : Int) P.streak ≤ k) ∧ row wr w.heap.size = some P.cells ∧ row wr g = some (St.cells ⟨s.bal, s.eff, c, k⟩) ∧ Below w.heap.size w wr) (fun i _ => 64 - (intOf i).toNat)
          case atStart => exact ⟨0, c, k, rfl, by omega, Lib.hid ⟨hI.out, by have := hI.out.2; omega⟩, p1, a1, hB⟩
          case round =>
            obtain ⟨i, c, k, rfl, hi, hI, p1, a1, hB⟩ := hrel
            have l0 := row_lt p1
            have lg := row_lt a1
            by_cases hlt : i < 64
            · obtain ⟨c', k', haf, hI'⟩ := after_in (b := s.bal) (e := s.eff) HS.out hI.out.1 true 1
              have HX := Lib.hid (fun W => HA.out c k true 1 c' k' W hI.out.1 haf)
              have HI' : Hid (InP P c' k' ∧ min ((i + 1 : Nat) : Int) P.streak ≤ k') := Lib.hid ⟨hI', by
                have h2 := hI.out.2
                have h3 := hI.out.1.2
                have e : k' = min (max k 0 + 1) P.streak := by
                  have := congrArg St.streak haf
                  simp only [afterS, if_true, thereS] at this
                  exact this.symm
                omega⟩
              clear haf hI' hI HA HT
              go_wp2_with fail
              refine (HX.out _).mono ?_
              rintro e wa ⟨rfl, hba⟩
              have p2 := (row_below hba l0).trans p1
              have a2 := (row_below hba lg).trans a1
              have hB2 : Below w.heap.size w wa := hB.trans (hba.mono hB.size)
              clear p1 a1 hB hba HX l0 lg
              go_wp2_with fail
              exact ⟨⟨i + 1, c', k', by go_num, by omega, HI', (row_setRow_far (Ne.symm ne0)).trans p2, row_setRow a2, Below.setRow hB2 hgb _⟩, by simp [intOf]; omega⟩
            · have e : k = P.streak := by
                have h2 := hI.out.2
                have h3 := hI.out.1.2
                have h4 := HP.out.2.2.2.2.2
                omega
              subst e
              have c1 : ∀ i, wr.cell? ⟨w.heap.size, i, none⟩ = P.cells[i]? := fun i => row_cell p1 i
              have c2 : ∀ i, wr.cell? ⟨g, i, none⟩ = (St.cells ⟨s.bal, s.eff, c, P.streak⟩)[i]? := fun i => row_cell a1 i
              clear HA HT
              go_wp2_with fail
              go_ret
              exact ⟨rfl, hB⟩
    · clear hr
      go_enter Try.func7, Try.ntmps7
      go_wp2_with fail
      generalize (w.alloc (.cells P.cells 24)).alloc (.cells s.cells 41) = W at *
      refine (awake11_any _).mono ?_
      rintro e w1 ⟨rfl, hb1⟩
      have r1 := (row_below hb1 (row_lt r0)).trans r0
      have hB1 := Below.then hB0 hb1
      clear r0 s0 hB0 hb1
      go_wp2_with fail
      refine (plain_any P _).mono ?_
      rintro e w2 ⟨rfl, hb2⟩
      have hB2 := Below.then hB1 hb2
      clear hB1 hb2
      go_wp2_with fail
      refine (HR.out _).mono ?_
      rintro e w3 ⟨rfl, hb3⟩
      have hB3 := Below.then hB2 hb3
      clear hB2 hb3
      go_wp2_with fail
      go_ret
      exact ⟨rfl, hB3⟩
end Go.Proofs.Ytncobbhhjkdllaa

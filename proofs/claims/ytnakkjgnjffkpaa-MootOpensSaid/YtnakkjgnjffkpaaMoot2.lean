/-
  A vote on a motion: the closure of moot.Vote.
-/
import Derived.Test.YtnakkjgnjffkpaaMoot1
import Derived.Test.YtnakkjgnjffkpaaBits8
import Derived.Test.YtnakkjgnjffkpaaCalmV
namespace Go.Proofs.Ytnakkjgnjffkpaa
open Go.RowKit
set_option linter.unusedVariables false

def betw (n lo hi : Int) : Bool := decide (lo ≤ n ∧ n ≤ hi)
theorem mwithin_any (n lo hi : Int) (w : World) : Calls Try.prog 83 #[.int .i64 n, .int .i64 lo, .int .i64 hi] w fun e w' => e = .returned (.bool (betw n lo hi)) ∧ w = w' := by
  by_cases h1 : lo ≤ n
  · by_cases h2 : n ≤ hi
    · have HV : Hid (betw n lo hi = true) := Lib.hid (decide_eq_true ⟨h1, h2⟩)
      go_enter Try.func83, Try.ntmps83
      go_wp2_with fail
      go_ret
      exact ⟨by rw [HV.out]; rfl, rfl⟩
    · have HV : Hid (betw n lo hi = false) := Lib.hid (decide_eq_false fun h => h2 h.2)
      go_enter Try.func83, Try.ntmps83
      go_wp2_with fail
      go_ret
      exact ⟨by rw [HV.out]; rfl, rfl⟩
  · have HV : Hid (betw n lo hi = false) := Lib.hid (decide_eq_false fun h => h1 h.1)
    go_enter Try.func83, Try.ntmps83
    go_wp2_with fail
    go_ret
    exact ⟨by rw [HV.out]; rfl, rfl⟩
/-- What a vote's error is. -/
def voteE (m : Mot) (mem : Int) : Int := if m.state = 1 then if betw mem 0 127 && (okB m.yes.length mem && okB m.no.length mem) then if getB m.yes mem || getB m.no mem then 231 else 0 else 2 else 232
def voteM (m : Mot) (mem : Int) (yes : Bool) : Mot := if yes then { m with yes := setB m.yes mem.toNat } else { m with no := setB m.no mem.toNat }
/-- What the closure leaves: an error, or new votes in the motion at the pointer. -/
def Vote1Post (w : World) (g o : Nat) (m : Mot) (mem : Int) (yes : Bool) (e : Ending) (w' : World) : Prop :=
  e = .returned (.int .i64 (voteE m mem)) ∧ ((voteE m mem ≠ 0 ∧ Below w.heap.size w w') ∨ (voteE m mem = 0 ∧ ∃ W A c, Below w.heap.size w W ∧ (∀ a, A = some a → w.heap.size ≤ a.block) ∧
    ((yes = true ∧ OwnB W (.slice A m.yes.length c) (setB m.yes mem.toNat) ∧ w' = W.setCell ⟨g, o + 31, none⟩ (.slice A m.yes.length c)) ∨ (yes = false ∧ OwnB W (.slice A m.no.length c) (setB m.no mem.toNat) ∧ w' = W.setCell ⟨g, o + 32, none⟩ (.slice A m.no.length c)))))
set_option maxRecDepth 100000 in
set_option maxHeartbeats 8000000 in
theorem vote1_any (g o gm gy : Nat) (m : Mot) (a : MotA) (mem : Int) (yes : Bool) (hmem : i64ok mem) (w : World)
    (k30 : w.cell? ⟨g, o + 30, none⟩ = some (.int .i64 m.state)) (k31 : w.cell? ⟨g, o + 31, none⟩ = some (.slice a.a1 m.yes.length a.c1)) (k32 : w.cell? ⟨g, o + 32, none⟩ = some (.slice a.a2 m.no.length a.c2))
    (hfz : ∀ k, w.frozen? ⟨g, k, none⟩ = false) (hg : g < w.heap.size) (rm : row w gm = some #[.int .i64 mem]) (ry : row w gy = some #[.bool yes]) (hA : MotAt w (m, a)) (hy : bytesOk m.yes ∧ m.yes.length ≤ 1000000) (hn : bytesOk m.no ∧ m.no.length ≤ 1000000) :
    Calls Try.prog 94 #[.pointer (some ⟨g, o, none⟩), .pointer (some ⟨gm, 0, none⟩), .pointer (some ⟨gy, 0, none⟩)] w (Vote1Post w g o m mem yes) := by
  unfold i64ok at hmem
  by_cases hs : m.state = 1
  · have HS1 : Hid (∀ W, Below w.heap.size w W → Calls Try.prog 95 #[.slice a.a1 m.yes.length a.c1, .int .i64 mem] W (SetPost W m.yes mem)) := Lib.hid fun W h => bset_any a.a1 _ a.c1 m.yes mem (by omega) rfl hy.2 hy.1 W (hA.yes.below h (Nat.le_refl _))
    have HS2 : Hid (∀ W, Below w.heap.size w W → Calls Try.prog 95 #[.slice a.a2 m.no.length a.c2, .int .i64 mem] W (SetPost W m.no mem)) := Lib.hid fun W h => bset_any a.a2 _ a.c2 m.no mem (by omega) rfl hn.2 hn.1 W (hA.no.below h (Nat.le_refl _))
    have HG1 : Hid (∀ W, Below w.heap.size w W → Calls Try.prog 96 #[.slice a.a1 m.yes.length a.c1, .int .i64 mem] W fun e w' => e = .returned (.bool (getB m.yes mem)) ∧ Below W.heap.size W w') := Lib.hid fun W h => get_any a.a1 _ a.c1 m.yes mem rfl hy.1 (by omega) W (hA.yes.below h (Nat.le_refl _))
    have HG2 : Hid (∀ W, Below w.heap.size w W → Calls Try.prog 96 #[.slice a.a2 m.no.length a.c2, .int .i64 mem] W fun e w' => e = .returned (.bool (getB m.no mem)) ∧ Below W.heap.size W w') := Lib.hid fun W h => get_any a.a2 _ a.c2 m.no mem rfl hn.1 (by omega) W (hA.no.below h (Nat.le_refl _))
    have HW := Lib.hid (fun W => mwithin_any mem 0 127 W)
    have HE : Hid (voteE m mem = if betw mem 0 127 && (okB m.yes.length mem && okB m.no.length mem) then if getB m.yes mem || getB m.no mem then 231 else 0 else 2) := Lib.hid (by unfold voteE; rw [if_pos hs])
    have HV1 : Hid (okB m.yes.length mem = true → setV m.yes mem = setB m.yes mem.toNat) := Lib.hid fun h => by unfold setV; rw [if_pos h]
    have HV2 : Hid (okB m.no.length mem = true → setV m.no mem = setB m.no mem.toNat) := Lib.hid fun h => by unfold setV; rw [if_pos h]
    have HM : Hid (∀ w', Below w.heap.size w w' → w'.cell? ⟨g, o + 31, none⟩ = some (.slice a.a1 m.yes.length a.c1) ∧ w'.cell? ⟨g, o + 32, none⟩ = some (.slice a.a2 m.no.length a.c2) ∧ w'.cell? ⟨gm, 0, none⟩ = some (.int .i64 mem) ∧ w'.cell? ⟨gy, 0, none⟩ = some (.bool yes) ∧ (∀ k, w'.frozen? ⟨g, k, none⟩ = false)) := Lib.hid fun w' h =>
      ⟨(h.cell (p := ⟨g, o + 31, none⟩) hg).trans k31, (h.cell (p := ⟨g, o + 32, none⟩) hg).trans k32, (h.cell (p := ⟨gm, 0, none⟩) (row_lt rm)).trans (row_cell rm 0), (h.cell (p := ⟨gy, 0, none⟩) (row_lt ry)).trans (row_cell ry 0), fun k => (h.frozen (p := ⟨g, k, none⟩) hg).trans (hfz k)⟩
    rw [hs] at k30
    unfold SetPost at HS1 HS2
    clear k31 k32 hfz hg rm ry hA hy hn hs hmem
    go_enter Try.func94, Try.ntmps94
    go_wp2_with fail
    go_region_held3 (fun w' => w'.cell? ⟨g, o + 31, none⟩ = some (.slice a.a1 m.yes.length a.c1) ∧ w'.cell? ⟨gm, 0, none⟩ = some (.int .i64 mem)) (exact ⟨(HM.out _ (by (repeat (first | exact Below.refl _ _ | assumption | (refine Below.allocT ?_ _) | refine Below.drew ?_ | refine below_drewN ?_ _ | (refine Below.then ?_ (by assumption)) | (refine Below.setRow ?_ ?_ _; rotate_left; (focus (first | exact Nat.lt_succ_self _ | ((repeat rw [World.size_alloc]); omega) | (simp; done) | (simp; omega) | omega))) | (refine Below.setCell ?_ ?_ _; rotate_left; (focus (first | exact Nat.lt_succ_self _ | ((repeat rw [World.size_alloc]); omega) | (simp; done) | (simp; omega) | omega))) | (refine Below.then' ?_ (by assumption) ?_; rotate_left; (focus (first | exact Nat.lt_succ_self _ | ((repeat rw [World.size_alloc]); omega) | (simp; done) | (simp; omega) | omega))) | fail)); (first | done | fail))).1, (HM.out _ (by (repeat (first | exact Below.refl _ _ | assumption | (refine Below.allocT ?_ _) | refine Below.drew ?_ | refine below_drewN ?_ _ | (refine Below.then ?_ (by assumption)) | (refine Below.setRow ?_ ?_ _; rotate_left; (focus (first | exact Nat.lt_succ_self _ | ((repeat rw [World.size_alloc]); omega) | (simp; done) | (simp; omega) | omega))) | (refine Below.setCell ?_ ?_ _; rotate_left; (focus (first | exact Nat.lt_succ_self _ | ((repeat rw [World.size_alloc]); omega) | (simp; done) | (simp; omega) | omega))) | (refine Below.then' ?_ (by assumption) ?_; rotate_left; (focus (first | exact Nat.lt_succ_self _ | ((repeat rw [World.size_alloc]); omega) | (simp; done) | (simp; omega) | omega))) | fail)); (first | done | fail))).2.2.1⟩) (first | (go_at_call 95; refine (HS1.out _ (by (repeat (first | exact Below.refl _ _ | assumption | (refine Below.allocT ?_ _) | refine Below.drew ?_ | refine below_drewN ?_ _ | (refine Below.then ?_ (by assumption)) | (refine Below.setRow ?_ ?_ _; rotate_left; (focus (first | exact Nat.lt_succ_self _ | ((repeat rw [World.size_alloc]); omega) | (simp; done) | (simp; omega) | omega))) | (refine Below.setCell ?_ ?_ _; rotate_left; (focus (first | exact Nat.lt_succ_self _ | ((repeat rw [World.size_alloc]); omega) | (simp; done) | (simp; omega) | omega))) | (refine Below.then' ?_ (by assumption) ?_; rotate_left; (focus (first | exact Nat.lt_succ_self _ | ((repeat rw [World.size_alloc]); omega) | (simp; done) | (simp; omega) | omega))) | fail)); (first | done | fail))).mono ?_; rintro e w1 ⟨A1, c1, rfl, hO1, hA1, hb1⟩))
    have hB1 : Below w.heap.size w w1 := (by (repeat (first | exact Below.refl _ _ | assumption | (refine Below.allocT ?_ _) | refine Below.drew ?_ | refine below_drewN ?_ _ | (refine Below.then ?_ (by assumption)) | (refine Below.setRow ?_ ?_ _; rotate_left; (focus (first | exact Nat.lt_succ_self _ | ((repeat rw [World.size_alloc]); omega) | (simp; done) | (simp; omega) | omega))) | (refine Below.setCell ?_ ?_ _; rotate_left; (focus (first | exact Nat.lt_succ_self _ | ((repeat rw [World.size_alloc]); omega) | (simp; done) | (simp; omega) | omega))) | (refine Below.then' ?_ (by assumption) ?_; rotate_left; (focus (first | exact Nat.lt_succ_self _ | ((repeat rw [World.size_alloc]); omega) | (simp; done) | (simp; omega) | omega))) | fail)); (first | done | fail))
    have HB1 := Lib.hid hB1
    have HO1 := Lib.hid hO1
    have HA1 : Hid (∀ x, A1 = some x → w.heap.size ≤ x.block) := Lib.hid fun x hx => Nat.le_trans (by first | exact Nat.le_refl _ | exact HB1.out.size) (hA1 x hx)
    clear hO1 hA1 hb1 hB1 HS1 k30
    go_wp2_with fail
    go_region_held3 (fun w' => w'.cell? ⟨g, o + 32, none⟩ = some (.slice a.a2 m.no.length a.c2) ∧ w'.cell? ⟨gm, 0, none⟩ = some (.int .i64 mem)) (exact ⟨(HM.out _ (Below.then HB1.out (by (repeat (first | exact Below.refl _ _ | assumption | (refine Below.allocT ?_ _) | refine Below.drew ?_ | refine below_drewN ?_ _ | (refine Below.then ?_ (by assumption)) | (refine Below.setRow ?_ ?_ _; rotate_left; (focus (first | exact Nat.lt_succ_self _ | ((repeat rw [World.size_alloc]); omega) | (simp; done) | (simp; omega) | omega))) | (refine Below.setCell ?_ ?_ _; rotate_left; (focus (first | exact Nat.lt_succ_self _ | ((repeat rw [World.size_alloc]); omega) | (simp; done) | (simp; omega) | omega))) | (refine Below.then' ?_ (by assumption) ?_; rotate_left; (focus (first | exact Nat.lt_succ_self _ | ((repeat rw [World.size_alloc]); omega) | (simp; done) | (simp; omega) | omega))) | fail)); (first | done | fail)))).2.1, (HM.out _ (Below.then HB1.out (by (repeat (first | exact Below.refl _ _ | assumption | (refine Below.allocT ?_ _) | refine Below.drew ?_ | refine below_drewN ?_ _ | (refine Below.then ?_ (by assumption)) | (refine Below.setRow ?_ ?_ _; rotate_left; (focus (first | exact Nat.lt_succ_self _ | ((repeat rw [World.size_alloc]); omega) | (simp; done) | (simp; omega) | omega))) | (refine Below.setCell ?_ ?_ _; rotate_left; (focus (first | exact Nat.lt_succ_self _ | ((repeat rw [World.size_alloc]); omega) | (simp; done) | (simp; omega) | omega))) | (refine Below.then' ?_ (by assumption) ?_; rotate_left; (focus (first | exact Nat.lt_succ_self _ | ((repeat rw [World.size_alloc]); omega) | (simp; done) | (simp; omega) | omega))) | fail)); (first | done | fail)))).2.2.1⟩) (first | (go_at_call 95; refine (HS2.out _ (Below.then HB1.out (by (repeat (first | exact Below.refl _ _ | assumption | (refine Below.allocT ?_ _) | refine Below.drew ?_ | refine below_drewN ?_ _ | (refine Below.then ?_ (by assumption)) | (refine Below.setRow ?_ ?_ _; rotate_left; (focus (first | exact Nat.lt_succ_self _ | ((repeat rw [World.size_alloc]); omega) | (simp; done) | (simp; omega) | omega))) | (refine Below.setCell ?_ ?_ _; rotate_left; (focus (first | exact Nat.lt_succ_self _ | ((repeat rw [World.size_alloc]); omega) | (simp; done) | (simp; omega) | omega))) | (refine Below.then' ?_ (by assumption) ?_; rotate_left; (focus (first | exact Nat.lt_succ_self _ | ((repeat rw [World.size_alloc]); omega) | (simp; done) | (simp; omega) | omega))) | fail)); (first | done | fail)))).mono ?_; rintro e w2 ⟨A2, c2, rfl, hO2, hA2, hb2⟩))
    have hB12 : Below w1.heap.size w1 w2 := (by (repeat (first | exact Below.refl _ _ | assumption | (refine Below.allocT ?_ _) | refine Below.drew ?_ | refine below_drewN ?_ _ | (refine Below.then ?_ (by assumption)) | (refine Below.setRow ?_ ?_ _; rotate_left; (focus (first | exact Nat.lt_succ_self _ | ((repeat rw [World.size_alloc]); omega) | (simp; done) | (simp; omega) | omega))) | (refine Below.setCell ?_ ?_ _; rotate_left; (focus (first | exact Nat.lt_succ_self _ | ((repeat rw [World.size_alloc]); omega) | (simp; done) | (simp; omega) | omega))) | (refine Below.then' ?_ (by assumption) ?_; rotate_left; (focus (first | exact Nat.lt_succ_self _ | ((repeat rw [World.size_alloc]); omega) | (simp; done) | (simp; omega) | omega))) | fail)); (first | done | fail))
    have HB2 := Lib.hid (Below.then HB1.out hB12)
    have HO1b := Lib.hid (HO1.out.stay hB12)
    have HO2 := Lib.hid hO2
    have HA2 : Hid (∀ x, A2 = some x → w.heap.size ≤ x.block) := Lib.hid fun x hx => Nat.le_trans (by first | exact HB1.out.size | exact Nat.le_refl _) (hA2 x hx)
    obtain ⟨c31, c32, cm, cy, cf⟩ := HM.out w2 HB2.out
    clear hO2 hA2 hb2 hB12 HS2 HO1
    generalize okB m.yes.length mem = b1 at *
    generalize okB m.no.length mem = b2 at *
    generalize betw mem 0 127 = b0 at *
    generalize getB m.yes mem = q1 at *
    generalize getB m.no mem = q2 at *
    have HEnd : Hid (∀ v w', v = voteE m mem → voteE m mem ≠ 0 → Below w2.heap.size w2 w' → Vote1Post w g o m mem yes (.returned (.int .i64 v)) w') := Lib.hid fun v w' h1 h2 h3 => ⟨by rw [h1], .inl ⟨h2, Below.then HB2.out h3⟩⟩
    go_wp2_with fail
    refine (HW.out _).mono ?_
    rintro e w3 ⟨rfl, rfl⟩
    cases b0
    · have HE2 : Hid (voteE m mem = 2) := Lib.hid HE.out
      go_wp2_with fail
      go_ret
      exact HEnd.out _ _ HE2.out.symm (by rw [HE2.out]; decide) (Below.refl _ _)
    cases b1
    · have HE2 : Hid (voteE m mem = 2) := Lib.hid HE.out
      go_wp2_with fail
      go_ret
      exact HEnd.out _ _ HE2.out.symm (by rw [HE2.out]; decide) (Below.refl _ _)
    cases b2
    · have HE2 : Hid (voteE m mem = 2) := Lib.hid HE.out
      go_wp2_with fail
      go_ret
      exact HEnd.out _ _ HE2.out.symm (by rw [HE2.out]; decide) (Below.refl _ _)
    have HG1' := Lib.hid (fun W h => HG1.out W (Below.then HB2.out h))
    have HG2' := Lib.hid (fun W h => HG2.out W (Below.then HB2.out h))
    have HM' := Lib.hid (fun W h => HM.out W (Below.then HB2.out h))
    have hv1 := HV1.out rfl
    have hv2 := HV2.out rfl
    rw [hv1] at HO1b
    rw [hv2] at HO2
    clear hv1 hv2 HV1 HV2 HG1 HG2
    cases q1
    · cases q2
      · have HE2 : Hid (voteE m mem = 0) := Lib.hid HE.out
        go_upto_region 8 with fail
        clear c31 c32 cm cy cf
        (refine wp_region_calm (by kernel_rfl) (by kernel_rfl) ?_; (repeat (first | go_big_quiet_skip | (go_big_quiet_want; apply calm_val; (focus (intro w' hb'; obtain ⟨p1, p2, p3, p4, p5⟩ := HM'.out w' hb'; first | fail | (unfold Oper.quietAt; go_simp; first | rfl | (go_at_call_of 96 a.a1; exact calm_call hb' (HG1'.out _ hb')) | (go_at_call_of 96 a.a2; exact calm_call hb' (HG2'.out _ hb'))))); (try simp only [Act.put, List.setIfInBounds_toArray, List.set_cons_zero, List.set_cons_succ]); go_big_quiet_on))); refine wpQuiet_nil ?_; intro w' hb')
        obtain ⟨p1, p2, p3, p4, p5⟩ := HM'.out w' hb'
        have z31 := p5 (o + 31)
        have z32 := p5 (o + 32)
        have HB' := Lib.hid (Below.then HB2.out hb')
        have P1 := Lib.hid (HO1b.out.stay hb')
        have P2 := Lib.hid (HO2.out.stay hb')
        clear p5
        cases yes
        · go_wp2_with fail
          go_ret
          exact ⟨by rw [HE2.out]; rfl, .inr ⟨HE2.out, w', A2, c2, HB'.out, HA2.out, .inr ⟨rfl, P2.out, rfl⟩⟩⟩
        · go_wp2_with fail
          go_ret
          exact ⟨by rw [HE2.out]; rfl, .inr ⟨HE2.out, w', A1, c1, HB'.out, HA1.out, .inl ⟨rfl, P1.out, rfl⟩⟩⟩
      · have HE2 : Hid (voteE m mem = 231) := Lib.hid HE.out
        go_upto_region 8 with fail
        clear c31 c32 cm cy cf
        (refine wp_region_calm (by kernel_rfl) (by kernel_rfl) ?_; (repeat (first | go_big_quiet_skip | (go_big_quiet_want; apply calm_val; (focus (intro w' hb'; obtain ⟨p1, p2, p3, p4, p5⟩ := HM'.out w' hb'; first | fail | (unfold Oper.quietAt; go_simp; first | rfl | (go_at_call_of 96 a.a1; exact calm_call hb' (HG1'.out _ hb')) | (go_at_call_of 96 a.a2; exact calm_call hb' (HG2'.out _ hb'))))); (try simp only [Act.put, List.setIfInBounds_toArray, List.set_cons_zero, List.set_cons_succ]); go_big_quiet_on))); refine wpQuiet_nil ?_; intro w' hb')
        go_wp2_with fail
        go_ret
        exact HEnd.out _ _ HE2.out.symm (by rw [HE2.out]; decide) hb'
    · have HE2 : Hid (voteE m mem = 231) := Lib.hid HE.out
      go_upto_region 8 with fail
      clear c31 c32 cm cy cf
      (refine wp_region_calm (by kernel_rfl) (by kernel_rfl) ?_; (repeat (first | go_big_quiet_skip | (go_big_quiet_want; apply calm_val; (focus (intro w' hb'; obtain ⟨p1, p2, p3, p4, p5⟩ := HM'.out w' hb'; first | fail | (unfold Oper.quietAt; go_simp; first | rfl | (go_at_call_of 96 a.a1; exact calm_call hb' (HG1'.out _ hb')) | (go_at_call_of 96 a.a2; exact calm_call hb' (HG2'.out _ hb'))))); (try simp only [Act.put, List.setIfInBounds_toArray, List.set_cons_zero, List.set_cons_succ]); go_big_quiet_on))); refine wpQuiet_nil ?_; intro w' hb')
      go_wp2_with fail
      go_ret
      exact HEnd.out _ _ HE2.out.symm (by rw [HE2.out]; decide) hb'
  · have HE : Hid (voteE m mem = 232) := Lib.hid (by unfold voteE; rw [if_neg hs])
    have e1 : (m.state != 1) = true := bne_iff_ne.2 hs
    clear hs k31 k32 hfz hg rm ry hA hy hn
    go_enter Try.func94, Try.ntmps94
    go_wp2_with fail
    go_ret
    exact ⟨by rw [HE.out]; rfl, .inl ⟨by rw [HE.out]; decide, Below.refl _ _⟩⟩
end Go.Proofs.Ytnakkjgnjffkpaa

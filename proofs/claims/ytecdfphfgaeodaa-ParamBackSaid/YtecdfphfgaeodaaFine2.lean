/-
  What fine.Take answers, and bullionref15.
-/
import Derived.Test.YtecdfphfgaeodaaFine
import Derived.Test.YtecdfphfgaeodaaRef02b
import Derived.Test.YtecdfphfgaeodaaLaw07a
namespace Go.Proofs.Ytecdfphfgaeodaa
open Go.RowKit
set_option linter.unusedVariables false

theorem results_cell_two {P : Program} {fn : Func} {p q r : Tmp} {ty : TypeId} (h : fn.results = #[.cell p ty, .tmp q, .tmp r]) (tmps : Array Value) (w : World) (g : Nat) (t : TypeId) (cs : Array Value) (fr : Nat × Nat) (d : TypeDesc)
    (hp : tmps.getD p undef = .pointer (some ⟨g, 0, none⟩)) (hg : w.heap[g]? = some (.cells cs t fr))
    (hu : P.underlying ty = some d) (hd : (match d with | .struct _ | .array _ _ => true | _ => false) = true) (hi : (P.info? ty).map (·.size) = some cs.size) :
    (results fn tmps).run P w = .ok (.tuple #[.agg cs, tmps.getD q undef, tmps.getD r undef]) w := by
  have hp' : tmps[p]?.getD undef = .pointer (some ⟨g, 0, none⟩) := by simpa using hp
  simp [results, h, hp', asAddr, run_loadVar_row w g t ty cs fr d hg hu hd hi]
def lessS (s : St) (n : Nat) : St := ⟨s.bal - n, s.eff, s.score, s.streak⟩
set_option maxHeartbeats 2000000 in
theorem ftake_any (P : Par) (s : St) (mode : Int) (hs : s.Ok) (w : World) : Calls Try.prog 34 #[.agg P.cells, .agg s.cells, .int .i64 mode] w fun e w' =>
    e = .returned (.tuple #[.agg (lessS s (fineV P s mode)).cells, .int .u64 ((burnV P (fineV P s mode) : Nat) : Int), .int .u64 ((treasV P (fineV P s mode) : Nat) : Int)]) ∧ Below w.heap.size w w' := by
  have r0 : row (((w.alloc (.cells P.cells 24)).alloc (.cells s.cells 56)).alloc (.cells #[.int .u64 0, .int .u64 0, .int .u64 0, .int .i64 0] 56)) w.heap.size = some P.cells := (by (repeat (first | assumption | (refine row_at _ _ _ _ ?_; first | rfl | (simp only [World.size_alloc]; done) | (simp only [World.size_alloc]; omega)) | (refine (row_past _ _ _ ?_).trans ?_; (focus (first | exact Nat.lt_succ_self _ | ((repeat rw [World.size_alloc]); omega) | (simp; done) | (simp; omega) | omega))) | rw [row_drewN] | rw [row_drew])); (first | done | fail))
  have s0 : row (((w.alloc (.cells P.cells 24)).alloc (.cells s.cells 56)).alloc (.cells #[.int .u64 0, .int .u64 0, .int .u64 0, .int .i64 0] 56)) (w.heap.size + 1) = some s.cells := (by (repeat (first | assumption | (refine row_at _ _ _ _ ?_; first | rfl | (simp only [World.size_alloc]; done) | (simp only [World.size_alloc]; omega)) | (refine (row_past _ _ _ ?_).trans ?_; (focus (first | exact Nat.lt_succ_self _ | ((repeat rw [World.size_alloc]); omega) | (simp; done) | (simp; omega) | omega))) | rw [row_drewN] | rw [row_drew])); (first | done | fail))
  have z0 : row (((w.alloc (.cells P.cells 24)).alloc (.cells s.cells 56)).alloc (.cells #[.int .u64 0, .int .u64 0, .int .u64 0, .int .i64 0] 56)) (w.heap.size + 2) = some #[.int .u64 0, .int .u64 0, .int .u64 0, .int .i64 0] := (by (repeat (first | assumption | (refine row_at _ _ _ _ ?_; first | rfl | (simp only [World.size_alloc]; done) | (simp only [World.size_alloc]; omega)) | (refine (row_past _ _ _ ?_).trans ?_; (focus (first | exact Nat.lt_succ_self _ | ((repeat rw [World.size_alloc]); omega) | (simp; done) | (simp; omega) | omega))) | rw [row_drewN] | rw [row_drew])); (first | done | fail))
  have hB0 : Below w.heap.size w (((w.alloc (.cells P.cells 24)).alloc (.cells s.cells 56)).alloc (.cells #[.int .u64 0, .int .u64 0, .int .u64 0, .int .i64 0] 56)) := (by (repeat (first | exact Below.refl _ _ | assumption | (refine Below.allocT ?_ _) | refine Below.drew ?_ | refine below_drewN ?_ _ | (refine Below.then ?_ (by assumption)) | (refine Below.setRow ?_ ?_ _; rotate_left; (focus (first | exact Nat.lt_succ_self _ | ((repeat rw [World.size_alloc]); omega) | (simp; done) | (simp; omega) | omega))) | (refine Below.setCell ?_ ?_ _; rotate_left; (focus (first | exact Nat.lt_succ_self _ | ((repeat rw [World.size_alloc]); omega) | (simp; done) | (simp; omega) | omega))) | (refine Below.then' ?_ (by assumption) ?_; rotate_left; (focus (first | exact Nat.lt_succ_self _ | ((repeat rw [World.size_alloc]); omega) | (simp; done) | (simp; omega) | omega))) | fail)); (first | done | fail))
  have hle := fineV_le P s mode
  have hsb := hs.bal
  have HF := Lib.hid (fun W => fof_any P s mode hs W)
  have HL : Hid (∀ d, d = s.bal - fineV P s mode → lessS s (fineV P s mode) = ⟨d, s.eff, s.score, s.streak⟩) := Lib.hid fun d hd => by rw [hd]; rfl
  have HS := Lib.hid (fun W => fsplit_any P (fineV P s mode) (by omega) W)
  generalize fineV P s mode = n at *
  obtain ⟨d, hd⟩ : ∃ d, d = s.bal - n := ⟨_, rfl⟩
  have E1 : IntKind.u64.wrap ((s.bal : Int) - (n : Int)) = (d : Int) := by rw [show (s.bal : Int) - (n : Int) = ((d : Nat) : Int) by omega]; exact Bits.wrapN _ (by omega)
  rw [HL.out d hd]
  generalize burnV P n = b at *
  generalize treasV P n = t at *
  clear hd hle hsb hs HL
  go_enter Try.func34, Try.ntmps34
  go_wp2_with fail
  generalize ((w.alloc (.cells P.cells 24)).alloc (.cells s.cells 56)).alloc (.cells #[.int .u64 0, .int .u64 0, .int .u64 0, .int .i64 0] 56) = W0 at *
  refine (HF.out _).mono ?_
  rintro e w1 ⟨rfl, hb1⟩
  have r1 := (row_below hb1 (row_lt r0)).trans r0
  have s1 := (row_below hb1 (row_lt s0)).trans s0
  have z1 := (row_below hb1 (row_lt z0)).trans z0
  have hB1 := Below.then hB0 hb1
  clear r0 s0 z0 hB0 hb1
  go_wp2_with fail
  refine (HS.out _).mono ?_
  rintro e w2 ⟨rfl, hb2⟩
  have s2 := (row_below hb2 (row_lt s1)).trans s1
  have z2 := (row_below hb2 (row_lt z1)).trans z1
  have hB2 := Below.then hB1 hb2
  have c2 : ∀ i, w2.cell? ⟨w.heap.size + 1, i, none⟩ = s.cells[i]? := fun i => row_cell s2 i
  have f2 : ∀ i, w2.frozen? ⟨w.heap.size + 1, i, none⟩ = false := fun i => row_frozen s2 i
  clear r1 s1 z1 hB1 hb2
  have z3 : row (w2.setCell ⟨w.heap.size + 1, 0, none⟩ (.int .u64 d)) (w.heap.size + 2) = some #[.int .u64 0, .int .u64 0, .int .u64 0, .int .i64 0] := (row_far _ _ _ _ (by simp)).trans z2
  go_wp2_with fail
  obtain ⟨ty, ht⟩ := row_heap (row_setRow (new := St.cells ⟨d, s.eff, s.score, s.streak⟩) z3)
  exact bodyPost_ret (v := .tuple #[.agg (St.cells ⟨d, s.eff, s.score, s.streak⟩), .int .u64 b, .int .u64 t]) (results_cell_two Try.results34 _ _ (w.heap.size + 2) ty (St.cells ⟨d, s.eff, s.score, s.streak⟩) (0, 0) _ rfl ht st_under rfl st_info) rfl ⟨rfl, Below.setRow (below_own hB2 (by omega) 0 _) (by omega) _⟩
set_option maxHeartbeats 2000000 in
theorem rburned_any (P : Par) (n : Nat) (hF : FineOk P) (hn : n < 18446744073709551616) (w : World) : Calls Try.prog 32 #[.agg P.cells, .int .u64 n] w fun e w' => e = .returned (.int .u64 ((cutN n P.burn : Nat) : Int)) ∧ Below w.heap.size w w' := by
  have r0 : row (w.alloc (.cells P.cells 30)) w.heap.size = some P.cells := (by (repeat (first | assumption | (refine row_at _ _ _ _ ?_; first | rfl | (simp only [World.size_alloc]; done) | (simp only [World.size_alloc]; omega)) | (refine (row_past _ _ _ ?_).trans ?_; (focus (first | exact Nat.lt_succ_self _ | ((repeat rw [World.size_alloc]); omega) | (simp; done) | (simp; omega) | omega))) | rw [row_drewN] | rw [row_drew])); (first | done | fail))
  have hB0 : Below w.heap.size w (w.alloc (.cells P.cells 30)) := (by (repeat (first | exact Below.refl _ _ | assumption | (refine Below.allocT ?_ _) | refine Below.drew ?_ | refine below_drewN ?_ _ | (refine Below.then ?_ (by assumption)) | (refine Below.setRow ?_ ?_ _; rotate_left; (focus (first | exact Nat.lt_succ_self _ | ((repeat rw [World.size_alloc]); omega) | (simp; done) | (simp; omega) | omega))) | (refine Below.setCell ?_ ?_ _; rotate_left; (focus (first | exact Nat.lt_succ_self _ | ((repeat rw [World.size_alloc]); omega) | (simp; done) | (simp; omega) | omega))) | (refine Below.then' ?_ (by assumption) ?_; rotate_left; (focus (first | exact Nat.lt_succ_self _ | ((repeat rw [World.size_alloc]); omega) | (simp; done) | (simp; omega) | omega))) | fail)); (first | done | fail))
  have hle := cutN_le n P.burn hF.b'
  obtain ⟨k, hk⟩ := Int.eq_ofNat_of_zero_le hF.b
  have hb' := hF.b'
  have E0 : IntKind.u64.wrap P.burn = (k : Int) := by rw [hk]; exact Bits.wrapN _ (by omega)
  have HD := Lib.hid (fun W => rdown_any n k 10000 hn (by omega) (by omega) W)
  have hc : cutN n P.burn = n * k / 10000 := by unfold cutN; rw [hk]; rfl
  rw [show quoV (n * k) 10000 = cutN n P.burn by unfold quoV; rw [if_neg (by omega), ← hc]; exact fit_le (by omega), show quoE (n * k) 10000 = 0 by unfold quoE; rw [if_neg (by omega), ← hc]; exact told_le (by omega)] at HD
  generalize cutN n P.burn = q at *
  clear hk hb' hc hle hF
  go_enter Try.func32, Try.ntmps32
  go_wp2_with fail
  generalize w.alloc (.cells P.cells 30) = W0 at *
  have c0 : ∀ i, W0.cell? ⟨w.heap.size, i, none⟩ = P.cells[i]? := fun i => row_cell r0 i
  go_wp2_with fail
  refine (HD.out _).mono ?_
  rintro e w1 ⟨rfl, hb1⟩
  go_wp2_with fail
  go_ret
  exact ⟨rfl, Below.then hB0 hb1⟩
set_option maxHeartbeats 4000000 in
set_option maxRecDepth 100000 in
theorem rfof_any (P : Par) (s : St) (mode : Int) (hF : FineOk P) (hs : s.Ok) (w : World) : Calls Try.prog 35 #[.agg P.cells, .agg s.cells, .int .i64 mode] w fun e w' => e = .returned (.int .u64 ((fineN P s mode : Nat) : Int)) ∧ Below w.heap.size w w' := by
  obtain ⟨q, q', qe, qe', a, a', b, b'⟩ := hF
  obtain ⟨hb, he, hsc, hst⟩ := hs
  have r0 : row ((w.alloc (.cells P.cells 30)).alloc (.cells s.cells 61)) w.heap.size = some P.cells := (by (repeat (first | assumption | (refine row_at _ _ _ _ ?_; first | rfl | (simp only [World.size_alloc]; done) | (simp only [World.size_alloc]; omega)) | (refine (row_past _ _ _ ?_).trans ?_; (focus (first | exact Nat.lt_succ_self _ | ((repeat rw [World.size_alloc]); omega) | (simp; done) | (simp; omega) | omega))) | rw [row_drewN] | rw [row_drew])); (first | done | fail))
  have s0 : row ((w.alloc (.cells P.cells 30)).alloc (.cells s.cells 61)) (w.heap.size + 1) = some s.cells := (by (repeat (first | assumption | (refine row_at _ _ _ _ ?_; first | rfl | (simp only [World.size_alloc]; done) | (simp only [World.size_alloc]; omega)) | (refine (row_past _ _ _ ?_).trans ?_; (focus (first | exact Nat.lt_succ_self _ | ((repeat rw [World.size_alloc]); omega) | (simp; done) | (simp; omega) | omega))) | rw [row_drewN] | rw [row_drew])); (first | done | fail))
  have hB0 : Below w.heap.size w ((w.alloc (.cells P.cells 30)).alloc (.cells s.cells 61)) := (by (repeat (first | exact Below.refl _ _ | assumption | (refine Below.allocT ?_ _) | refine Below.drew ?_ | refine below_drewN ?_ _ | (refine Below.then ?_ (by assumption)) | (refine Below.setRow ?_ ?_ _; rotate_left; (focus (first | exact Nat.lt_succ_self _ | ((repeat rw [World.size_alloc]); omega) | (simp; done) | (simp; omega) | omega))) | (refine Below.setCell ?_ ?_ _; rotate_left; (focus (first | exact Nat.lt_succ_self _ | ((repeat rw [World.size_alloc]); omega) | (simp; done) | (simp; omega) | omega))) | (refine Below.then' ?_ (by assumption) ?_; rotate_left; (focus (first | exact Nat.lt_succ_self _ | ((repeat rw [World.size_alloc]); omega) | (simp; done) | (simp; omega) | omega))) | fail)); (first | done | fail))
  obtain ⟨k, hk⟩ := Int.eq_ofNat_of_zero_le a
  have E0 : IntKind.u64.wrap P.absent = (k : Int) := by rw [hk]; exact Bits.wrapN _ (by omega)
  have HD := Lib.hid (fun W => rdown_any s.eff k 10000 he (by omega) (by omega) W)
  have hle : s.eff * k / 10000 ≤ s.eff := by
    have := Nat.mul_le_mul_left s.eff (show k ≤ 10000 by omega)
    rw [Nat.div_le_iff_le_mul_add_pred (by omega)]; omega
  rw [show quoV (s.eff * k) 10000 = s.eff * k / 10000 by unfold quoV; rw [if_neg (by omega)]; exact fit_le (by omega), show quoE (s.eff * k) 10000 = 0 by unfold quoE; rw [if_neg (by omega)]; exact told_le (by omega)] at HD
  by_cases m34 : mode = 3 ∨ mode = 4
  · obtain ⟨Q, hQ1, hQ2, hQ⟩ : ∃ Q, 1 ≤ Q ∧ Q < 18446744073709551616 ∧ ((mode = 3 ∧ Q = P.quot) ∨ (mode = 4 ∧ Q = P.quotEm)) := by
      rcases m34 with rfl | rfl
      · exact ⟨_, q, q', .inl ⟨rfl, rfl⟩⟩
      · exact ⟨_, qe, qe', .inr ⟨rfl, rfl⟩⟩
    have HU := Lib.hid (fun W => rup_any s.eff s.score Q he hsc hQ2 W)
    have HF : Hid (fineN P s mode = min (upQ (s.eff * s.score) Q) s.bal) := Lib.hid (by rcases hQ with ⟨rfl, rfl⟩ | ⟨rfl, rfl⟩ <;> simp [fineN, lossQ])
    have hu : upV (s.eff * s.score) Q = fit (upQ (s.eff * s.score) Q) ∧ upE (s.eff * s.score) Q = toldE (upQ (s.eff * s.score) Q) := ⟨by unfold upV; rw [if_neg (by omega)], by unfold upE; rw [if_neg (by omega)]⟩
    rw [hu.1, hu.2] at HU
    clear hu q q' qe qe' a a' b b' he hsc hst hk hle m34 hQ1 hQ2
    generalize upQ (s.eff * s.score) Q = u at *
    generalize s.eff * k / 10000 = dn at *
    have hcase : (u ≤ 18446744073709551615 ∧ s.bal < u ∧ fit u = u ∧ toldE u = 0) ∨ (u ≤ 18446744073709551615 ∧ ¬ s.bal < u ∧ fit u = u ∧ toldE u = 0) ∨ (¬ u ≤ 18446744073709551615 ∧ fit u = 0 ∧ toldE u = 10) := by
      by_cases hov : u ≤ 18446744073709551615
      · by_cases hlt : s.bal < u
        · exact .inl ⟨hov, hlt, fit_le hov, told_le hov⟩
        · exact .inr (.inl ⟨hov, hlt, fit_le hov, told_le hov⟩)
      · exact .inr (.inr ⟨hov, fit_gt hov, told_gt hov⟩)
    rcases hQ with ⟨rfl, rfl⟩ | ⟨rfl, rfl⟩
    all_goals rcases hcase with ⟨g1, g2, e1, e2⟩ | ⟨g1, g2, e1, e2⟩ | ⟨g1, e1, e2⟩
    all_goals
      rw [e1, e2] at HU
      clear e1 e2
      go_enter Try.func35, Try.ntmps35
      go_wp2_with fail
      generalize (w.alloc (.cells P.cells 30)).alloc (.cells s.cells 61) = W0 at *
      have c0 : ∀ i, W0.cell? ⟨w.heap.size, i, none⟩ = P.cells[i]? := fun i => row_cell r0 i
      have d0 : ∀ i, W0.cell? ⟨w.heap.size + 1, i, none⟩ = s.cells[i]? := fun i => row_cell s0 i
      go_wp2_with fail
      refine (HD.out _).mono ?_
      rintro e w1 ⟨rfl, hb1⟩
      have r1 := (row_below hb1 (row_lt r0)).trans r0
      have s1 := (row_below hb1 (row_lt s0)).trans s0
      have c1 : ∀ i, w1.cell? ⟨w.heap.size, i, none⟩ = P.cells[i]? := fun i => row_cell r1 i
      have d1 : ∀ i, w1.cell? ⟨w.heap.size + 1, i, none⟩ = s.cells[i]? := fun i => row_cell s1 i
      have hB1 := Below.then hB0 hb1
      clear c0 d0 r0 s0 hB0 hb1
      go_wp2_with fail
      refine (HU.out _).mono ?_
      rintro e w2 ⟨rfl, hb2⟩
      have s2 := (row_below hb2 (row_lt s1)).trans s1
      have d2 : ∀ i, w2.cell? ⟨w.heap.size + 1, i, none⟩ = s.cells[i]? := fun i => row_cell s2 i
      have hB2 := Below.then hB1 hb2
      clear c1 d1 r1 s1 hB1 hb2
      go_wp2_with fail
      go_ret
      exact ⟨ret_int (by rw [HF.out]; omega), hB2⟩
  · have n3 : (mode == 3) = false := beq_eq_false_iff_ne.2 (fun h => m34 (.inl h))
    have n4 : (mode == 4) = false := beq_eq_false_iff_ne.2 (fun h => m34 (.inr h))
    have HF : Hid (fineN P s mode = min (s.eff * k / 10000) s.bal) := Lib.hid (by simp only [fineN, lossQ]; rw [if_neg (fun h => m34 (.inl h)), if_neg (fun h => m34 (.inr h)), hk]; rfl)
    clear q q' qe qe' a a' b b' he hsc hst hk hle m34
    generalize s.eff * k / 10000 = u at *
    by_cases hlt : s.bal < u
    all_goals
      go_enter Try.func35, Try.ntmps35
      go_wp2_with fail
      generalize (w.alloc (.cells P.cells 30)).alloc (.cells s.cells 61) = W0 at *
      have c0 : ∀ i, W0.cell? ⟨w.heap.size, i, none⟩ = P.cells[i]? := fun i => row_cell r0 i
      have d0 : ∀ i, W0.cell? ⟨w.heap.size + 1, i, none⟩ = s.cells[i]? := fun i => row_cell s0 i
      go_wp2_with fail
      refine (HD.out _).mono ?_
      rintro e w1 ⟨rfl, hb1⟩
      have s1 := (row_below hb1 (row_lt s0)).trans s0
      have d1 : ∀ i, w1.cell? ⟨w.heap.size + 1, i, none⟩ = s.cells[i]? := fun i => row_cell s1 i
      have hB1 := Below.then hB0 hb1
      clear c0 d0 r0 s0 hB0 hb1
      go_wp2_with fail
      go_ret
      exact ⟨ret_int (by rw [HF.out]; omega), hB1⟩
end Go.Proofs.Ytecdfphfgaeodaa

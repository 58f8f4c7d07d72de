/-
  What share.Cut and package fine's functions answer.
-/
import Derived.Test.YtecdfphfgaeodaaSt
import Derived.Test.YtecdfphfgaeodaaRatio2
import Derived.Test.YtecdfphfgaeodaaCheck
namespace Go.Proofs.Ytecdfphfgaeodaa
open Go.RowKit
set_option linter.unusedVariables false

def cutN (total : Nat) (rate : Int) : Nat := total * rate.toNat / 10000
theorem cutN_le (total : Nat) (rate : Int) (h : rate ≤ 10000) : cutN total rate ≤ total := by
  unfold cutN
  have : total * rate.toNat ≤ total * 10000 := Nat.mul_le_mul_left _ (by omega)
  rw [Nat.div_le_iff_le_mul_add_pred (by omega)]
  omega
set_option maxHeartbeats 1000000 in
theorem cut_any (total : Nat) (rate : Int) (ht : total < 18446744073709551616) (h0 : 0 ≤ rate) (h1 : rate ≤ 10000) (w : World) :
    Calls Try.prog 60 #[.int .u64 total, .int .i64 rate] w fun e w' => e = .returned (.tuple #[.int .u64 ((cutN total rate : Nat) : Int), .int .u64 ((total - cutN total rate : Nat) : Int), .int .i64 0]) ∧ Below w.heap.size w w' := by
  have hle := cutN_le total rate h1
  obtain ⟨r, rfl⟩ := Int.eq_ofNat_of_zero_le h0
  have E0 : IntKind.u64.wrap ((r : Int)) = (r : Int) := Bits.wrapN _ (by omega)
  have HD := Lib.hid (fun W => down_any total r 10000 ht (by omega) (by omega) W)
  rw [show quoV (total * r) 10000 = cutN total (r : Int) by unfold quoV; rw [if_neg (by omega)]; show fit (cutN total (r : Int)) = _; exact fit_le (by omega), show quoE (total * r) 10000 = 0 by unfold quoE; rw [if_neg (by omega)]; show toldE (cutN total (r : Int)) = 0; exact told_le (by omega)] at HD
  generalize cutN total (r : Int) = n at *
  obtain ⟨d, hd⟩ : ∃ d, d = total - n := ⟨_, rfl⟩
  have E1 : IntKind.u64.wrap ((total : Int) - (n : Int)) = (d : Int) := by rw [show (total : Int) - (n : Int) = ((d : Nat) : Int) by omega]; exact Bits.wrapN _ (by omega)
  rw [← hd]
  clear hd hle
  go_enter Try.func60, Try.ntmps60
  go_wp2_with fail
  refine (HD.out _).mono ?_
  rintro e w1 ⟨rfl, hb1⟩
  go_wp2_with fail
  go_ret3
  exact ⟨rfl, hb1⟩
theorem cut_no (total : Nat) (rate : Int) (h : rate < 0 ∨ 10000 < rate) (w : World) :
    Calls Try.prog 60 #[.int .u64 total, .int .i64 rate] w fun e w' => e = .returned (.tuple #[.int .u64 0, .int .u64 0, .int .i64 2]) ∧ w = w' := by
  rcases h with h | h
  · go_enter Try.func60, Try.ntmps60
    go_wp2_with fail
    go_ret3
    exact ⟨rfl, rfl⟩
  · have h' : ¬ rate < 0 := by omega
    go_enter Try.func60, Try.ntmps60
    go_wp2_with fail
    go_ret3
    exact ⟨rfl, rfl⟩
def absC (s : St) (P : Par) (mode : Int) : Array Value := #[.int .u64 s.bal, .int .u64 s.eff, .int .u64 s.score, .int .i64 s.streak, .int .u64 P.inc, .int .u64 P.maxEff, .int .u64 P.floor, .int .u64 P.cap, .int .u64 P.up, .int .u64 P.down, .int .u64 P.bias, .int .u64 P.quot, .int .u64 P.biasEm, .int .u64 P.quotEm, .int .u64 P.recover, .int .u64 P.scoreCap, .int .u64 P.rate, .int .u64 P.bond, .int .i64 P.delay, .int .i64 P.streak, .int .i64 P.boost, .int .i64 P.absent, .int .i64 P.burn, .int .i64 P.churn, .int .i64 P.wait, .int .i64 P.poll, .int .i64 P.enact, .int .i64 P.quorum, .int .i64 mode]
theorem absC_bal (s : St) (P : Par) (m : Int) : (absC s P m)[0]? = some (.int .u64 s.bal) := rfl
theorem absC_eff (s : St) (P : Par) (m : Int) : (absC s P m)[1]? = some (.int .u64 s.eff) := rfl
theorem absC_score (s : St) (P : Par) (m : Int) : (absC s P m)[2]? = some (.int .u64 s.score) := rfl
theorem absC_quot (s : St) (P : Par) (m : Int) : (absC s P m)[11]? = some (.int .u64 P.quot) := rfl
theorem absC_quotEm (s : St) (P : Par) (m : Int) : (absC s P m)[13]? = some (.int .u64 P.quotEm) := rfl
theorem absC_absent (s : St) (P : Par) (m : Int) : (absC s P m)[21]? = some (.int .i64 P.absent) := rfl
theorem absC_mode (s : St) (P : Par) (m : Int) : (absC s P m)[28]? = some (.int .i64 m) := rfl
attribute [go_sem] absC_bal absC_eff absC_score absC_quot absC_quotEm absC_absent absC_mode
/-- What is lost, of all that there is; more than 64 bits: all. -/
def lossQ (P : Par) (s : St) (m : Int) : Nat := if m = 3 then upQ (s.eff * s.score) P.quot else if m = 4 then upQ (s.eff * s.score) P.quotEm else s.eff * P.absent.toNat / 10000
def fineN (P : Par) (s : St) (m : Int) : Nat := min (lossQ P s m) s.bal
def fineV (P : Par) (s : St) (m : Int) : Nat := if rightB P then fineN P s m else 0
def burnV (P : Par) (n : Nat) : Nat := if rightB P then cutN n P.burn else 0
def treasV (P : Par) (n : Nat) : Nat := if rightB P then n - cutN n P.burn else 0
theorem fineV_le (P : Par) (s : St) (m : Int) : fineV P s m ≤ s.bal := by unfold fineV fineN; split <;> omega
structure FineOk (P : Par) : Prop where
  q : 1 ≤ P.quot
  q' : P.quot < 18446744073709551616
  e : 1 ≤ P.quotEm
  e' : P.quotEm < 18446744073709551616
  a : 0 ≤ P.absent
  a' : P.absent ≤ 10000
  b : 0 ≤ P.burn
  b' : P.burn ≤ 10000
theorem right_fine {P : Par} (h : rightB P = true) : FineOk P := by
  have h1 := scores_facts (right_facts h).2.1
  have h2 := others_facts (right_facts h).2.2.1
  constructor <;> omega
set_option maxHeartbeats 2000000 in
set_option maxRecDepth 100000 in
theorem loss_any (P : Par) (s : St) (mode : Int) (hP : FineOk P) (hs : s.Ok) (w : World) : Calls Try.prog 62 #[.agg (absC s P mode)] w fun e w' => e = .returned (.int .u64 ((fineN P s mode : Nat) : Int)) ∧ Below w.heap.size w w' := by
  obtain ⟨q, q', qe, qe', a, a', b, b'⟩ := hP
  obtain ⟨hb, he, hsc, hst⟩ := hs
  have r0 : row (w.alloc (.cells (absC s P mode) 103)) w.heap.size = some (absC s P mode) := (by (repeat (first | assumption | (refine row_at _ _ _ _ ?_; first | rfl | (simp only [World.size_alloc]; done) | (simp only [World.size_alloc]; omega)) | (refine (row_past _ _ _ ?_).trans ?_; (focus (first | exact Nat.lt_succ_self _ | ((repeat rw [World.size_alloc]); omega) | (simp; done) | (simp; omega) | omega))) | rw [row_drewN] | rw [row_drew])); (first | done | fail))
  have hB0 : Below w.heap.size w (w.alloc (.cells (absC s P mode) 103)) := (by (repeat (first | exact Below.refl _ _ | assumption | (refine Below.allocT ?_ _) | refine Below.drew ?_ | refine below_drewN ?_ _ | (refine Below.then ?_ (by assumption)) | (refine Below.setRow ?_ ?_ _; rotate_left; (focus (first | exact Nat.lt_succ_self _ | ((repeat rw [World.size_alloc]); omega) | (simp; done) | (simp; omega) | omega))) | (refine Below.setCell ?_ ?_ _; rotate_left; (focus (first | exact Nat.lt_succ_self _ | ((repeat rw [World.size_alloc]); omega) | (simp; done) | (simp; omega) | omega))) | (refine Below.then' ?_ (by assumption) ?_; rotate_left; (focus (first | exact Nat.lt_succ_self _ | ((repeat rw [World.size_alloc]); omega) | (simp; done) | (simp; omega) | omega))) | fail)); (first | done | fail))
  by_cases m3 : mode = 3
  · subst m3
    have HU := Lib.hid (fun W => up_any s.eff s.score P.quot he hsc q' W)
    have HF : Hid (fineN P s 3 = min (upQ (s.eff * s.score) P.quot) s.bal) := Lib.hid (by simp [fineN, lossQ])
    have hu : upV (s.eff * s.score) P.quot = fit (upQ (s.eff * s.score) P.quot) ∧ upE (s.eff * s.score) P.quot = toldE (upQ (s.eff * s.score) P.quot) := ⟨by unfold upV; rw [if_neg (by omega)], by unfold upE; rw [if_neg (by omega)]⟩
    rw [hu.1, hu.2] at HU
    clear hu q q' qe qe' a a' b b' he hsc hst
    generalize upQ (s.eff * s.score) P.quot = u at *
    by_cases hov : u ≤ 18446744073709551615
    · rw [fit_le hov, told_le hov] at HU
      by_cases hlt : s.bal < u
      all_goals
        go_enter Try.func62, Try.ntmps62
        go_wp2_with fail
        generalize w.alloc (.cells (absC s P 3) 103) = W at *
        have c0 : ∀ i, W.cell? ⟨w.heap.size, i, none⟩ = (absC s P 3)[i]? := fun i => row_cell r0 i
        go_wp2_with fail
        refine (HU.out _).mono ?_
        rintro e w1 ⟨rfl, hb1⟩
        have c1 : ∀ i, w1.cell? ⟨w.heap.size, i, none⟩ = (absC s P 3)[i]? := fun i => row_cell ((row_below hb1 (row_lt r0)).trans r0) i
        have hB1 := Below.then hB0 hb1
        go_wp2_with fail
        go_ret
        exact ⟨ret_int (by rw [HF.out]; omega), hB1⟩
    · rw [fit_gt hov, told_gt hov] at HU
      go_enter Try.func62, Try.ntmps62
      go_wp2_with fail
      generalize w.alloc (.cells (absC s P 3) 103) = W at *
      have c0 : ∀ i, W.cell? ⟨w.heap.size, i, none⟩ = (absC s P 3)[i]? := fun i => row_cell r0 i
      go_wp2_with fail
      refine (HU.out _).mono ?_
      rintro e w1 ⟨rfl, hb1⟩
      have c1 : ∀ i, w1.cell? ⟨w.heap.size, i, none⟩ = (absC s P 3)[i]? := fun i => row_cell ((row_below hb1 (row_lt r0)).trans r0) i
      have hB1 := Below.then hB0 hb1
      go_wp2_with fail
      go_ret
      exact ⟨ret_int (by rw [HF.out]; omega), hB1⟩
  · have n3 : (mode == 3) = false := beq_eq_false_iff_ne.2 m3
    by_cases m4 : mode = 4
    · subst m4
      have HU := Lib.hid (fun W => up_any s.eff s.score P.quotEm he hsc qe' W)
      have HF : Hid (fineN P s 4 = min (upQ (s.eff * s.score) P.quotEm) s.bal) := Lib.hid (by simp [fineN, lossQ])
      have hu : upV (s.eff * s.score) P.quotEm = fit (upQ (s.eff * s.score) P.quotEm) ∧ upE (s.eff * s.score) P.quotEm = toldE (upQ (s.eff * s.score) P.quotEm) := ⟨by unfold upV; rw [if_neg (by omega)], by unfold upE; rw [if_neg (by omega)]⟩
      rw [hu.1, hu.2] at HU
      clear hu q q' qe qe' a a' b b' he hsc hst m3 n3
      generalize upQ (s.eff * s.score) P.quotEm = u at *
      by_cases hov : u ≤ 18446744073709551615
      · rw [fit_le hov, told_le hov] at HU
        by_cases hlt : s.bal < u
        all_goals
          go_enter Try.func62, Try.ntmps62
          go_wp2_with fail
          generalize w.alloc (.cells (absC s P 4) 103) = W at *
          have c0 : ∀ i, W.cell? ⟨w.heap.size, i, none⟩ = (absC s P 4)[i]? := fun i => row_cell r0 i
          go_wp2_with fail
          refine (HU.out _).mono ?_
          rintro e w1 ⟨rfl, hb1⟩
          have c1 : ∀ i, w1.cell? ⟨w.heap.size, i, none⟩ = (absC s P 4)[i]? := fun i => row_cell ((row_below hb1 (row_lt r0)).trans r0) i
          have hB1 := Below.then hB0 hb1
          go_wp2_with fail
          go_ret
          exact ⟨ret_int (by rw [HF.out]; omega), hB1⟩
      · rw [fit_gt hov, told_gt hov] at HU
        go_enter Try.func62, Try.ntmps62
        go_wp2_with fail
        generalize w.alloc (.cells (absC s P 4) 103) = W at *
        have c0 : ∀ i, W.cell? ⟨w.heap.size, i, none⟩ = (absC s P 4)[i]? := fun i => row_cell r0 i
        go_wp2_with fail
        refine (HU.out _).mono ?_
        rintro e w1 ⟨rfl, hb1⟩
        have c1 : ∀ i, w1.cell? ⟨w.heap.size, i, none⟩ = (absC s P 4)[i]? := fun i => row_cell ((row_below hb1 (row_lt r0)).trans r0) i
        have hB1 := Below.then hB0 hb1
        go_wp2_with fail
        go_ret
        exact ⟨ret_int (by rw [HF.out]; omega), hB1⟩
    · have n4 : (mode == 4) = false := beq_eq_false_iff_ne.2 m4
      obtain ⟨k, hk⟩ := Int.eq_ofNat_of_zero_le a
      have E0 : IntKind.u64.wrap P.absent = (k : Int) := by rw [hk]; exact Bits.wrapN _ (by omega)
      have HD := Lib.hid (fun W => down_any s.eff k 10000 he (by omega) (by omega) W)
      have hle : s.eff * k / 10000 ≤ s.eff := by
        have := Nat.mul_le_mul_left s.eff (show k ≤ 10000 by omega)
        rw [Nat.div_le_iff_le_mul_add_pred (by omega)]; omega
      have HF : Hid (fineN P s mode = min (s.eff * k / 10000) s.bal) := Lib.hid (by simp [fineN, lossQ, m3, m4, hk])
      rw [show quoV (s.eff * k) 10000 = s.eff * k / 10000 by unfold quoV; rw [if_neg (by omega)]; exact fit_le (by omega), show quoE (s.eff * k) 10000 = 0 by unfold quoE; rw [if_neg (by omega)]; exact told_le (by omega)] at HD
      clear q q' qe qe' a a' b b' he hsc hst m3 m4 hk hle
      generalize s.eff * k / 10000 = u at *
      by_cases hlt : s.bal < u
      all_goals
        go_enter Try.func62, Try.ntmps62
        go_wp2_with fail
        generalize w.alloc (.cells (absC s P mode) 103) = W at *
        have c0 : ∀ i, W.cell? ⟨w.heap.size, i, none⟩ = (absC s P mode)[i]? := fun i => row_cell r0 i
        go_wp2_with fail
        refine (HD.out _).mono ?_
        rintro e w1 ⟨rfl, hb1⟩
        have c1 : ∀ i, w1.cell? ⟨w.heap.size, i, none⟩ = (absC s P mode)[i]? := fun i => row_cell ((row_below hb1 (row_lt r0)).trans r0) i
        have hB1 := Below.then hB0 hb1
        go_wp2_with fail
        go_ret
        exact ⟨ret_int (by rw [HF.out]; omega), hB1⟩
theorem abs_built (s : St) (P : Par) (m : Int) : Try.prog.built 103 [(0, .agg s.cells), (1, .agg P.cells), (2, .int .i64 m)] = some (s.cells ++ P.cells.push (.int .i64 m)) := by kernel_rfl
theorem abs_app (s : St) (P : Par) (m : Int) : s.cells ++ P.cells.push (.int .i64 m) = absC s P m := by kernel_rfl
theorem wp_build_three {P : Program} (T : TypeId) {x y z : Operand} {dst : Option Tmp} {ty : TypeId} {pos : String} {after : Array Edge} {gd : Option (Nat × Bool)} {a : Act} {w : World} {K : Act → World → Prop} {Q : Exit → Act → World → Prop}
    (h : P.built T [(0, a.eval x), (1, a.eval y), (2, a.eval z)] = some (aggOf (a.eval x) ++ (aggOf (a.eval y)).push (a.eval z))) :
    Oper.wp P ⟨dst, .build T #[(0, x), (1, y), (2, z)], ty, pos, after, gd⟩ a w K Q = K (a.put dst (.agg (aggOf (a.eval x) ++ (aggOf (a.eval y)).push (a.eval z)))) w := by
  unfold Oper.wp execOp
  simp [run_build, h]
  rfl
theorem abs_build {x y z : Operand} {dst : Option Tmp} {ty : TypeId} {pos : String} {after : Array Edge} {gd : Option (Nat × Bool)} {a : Act} {w : World} {K : Act → World → Prop} {Q : Exit → Act → World → Prop}
    (h : Try.prog.built 103 [(0, a.eval x), (1, a.eval y), (2, a.eval z)] = some (aggOf (a.eval x) ++ (aggOf (a.eval y)).push (a.eval z))) :
    Oper.wp Try.prog ⟨dst, .build 103 #[(0, x), (1, y), (2, z)], ty, pos, after, gd⟩ a w K Q = K (a.put dst (.agg (aggOf (a.eval x) ++ (aggOf (a.eval y)).push (a.eval z)))) w := wp_build_three _ h
attribute [go_sem ↓] abs_build
attribute [go_sem] abs_built abs_app
set_option maxHeartbeats 2000000 in
theorem fof_any (P : Par) (s : St) (mode : Int) (hs : s.Ok) (w : World) : Calls Try.prog 33 #[.agg P.cells, .agg s.cells, .int .i64 mode] w fun e w' => e = .returned (.int .u64 ((fineV P s mode : Nat) : Int)) ∧ Below w.heap.size w w' := by
  have r0 : row ((w.alloc (.cells P.cells 24)).alloc (.cells s.cells 56)) w.heap.size = some P.cells := (by (repeat (first | assumption | (refine row_at _ _ _ _ ?_; first | rfl | (simp only [World.size_alloc]; done) | (simp only [World.size_alloc]; omega)) | (refine (row_past _ _ _ ?_).trans ?_; (focus (first | exact Nat.lt_succ_self _ | ((repeat rw [World.size_alloc]); omega) | (simp; done) | (simp; omega) | omega))) | rw [row_drewN] | rw [row_drew])); (first | done | fail))
  have s0 : row ((w.alloc (.cells P.cells 24)).alloc (.cells s.cells 56)) (w.heap.size + 1) = some s.cells := (by (repeat (first | assumption | (refine row_at _ _ _ _ ?_; first | rfl | (simp only [World.size_alloc]; done) | (simp only [World.size_alloc]; omega)) | (refine (row_past _ _ _ ?_).trans ?_; (focus (first | exact Nat.lt_succ_self _ | ((repeat rw [World.size_alloc]); omega) | (simp; done) | (simp; omega) | omega))) | rw [row_drewN] | rw [row_drew])); (first | done | fail))
  have hB0 : Below w.heap.size w ((w.alloc (.cells P.cells 24)).alloc (.cells s.cells 56)) := (by (repeat (first | exact Below.refl _ _ | assumption | (refine Below.allocT ?_ _) | refine Below.drew ?_ | refine below_drewN ?_ _ | (refine Below.then ?_ (by assumption)) | (refine Below.setRow ?_ ?_ _; rotate_left; (focus (first | exact Nat.lt_succ_self _ | ((repeat rw [World.size_alloc]); omega) | (simp; done) | (simp; omega) | omega))) | (refine Below.setCell ?_ ?_ _; rotate_left; (focus (first | exact Nat.lt_succ_self _ | ((repeat rw [World.size_alloc]); omega) | (simp; done) | (simp; omega) | omega))) | (refine Below.then' ?_ (by assumption) ?_; rotate_left; (focus (first | exact Nat.lt_succ_self _ | ((repeat rw [World.size_alloc]); omega) | (simp; done) | (simp; omega) | omega))) | fail)); (first | done | fail))
  have HC := Lib.hid (fun W => check_any P W)
  cases hr : rightB P
  · rw [show checkE P = 70 by simp [checkE, hr]] at HC
    rw [show fineV P s mode = 0 by simp [fineV, hr]]
    clear hr
    go_enter Try.func33, Try.ntmps33
    go_wp2_with fail
    generalize (w.alloc (.cells P.cells 24)).alloc (.cells s.cells 56) = W0 at *
    refine (HC.out _).mono ?_
    rintro e w1 ⟨rfl, hb1⟩
    go_wp2_with fail
    go_ret
    exact ⟨rfl, Below.then hB0 hb1⟩
  · rw [show checkE P = 0 by simp [checkE, hr]] at HC
    rw [show fineV P s mode = fineN P s mode by simp [fineV, hr]]
    have HL := Lib.hid (fun W => loss_any P s mode (right_fine hr) hs W)
    clear hr hs
    go_enter Try.func33, Try.ntmps33
    go_wp2_with fail
    generalize (w.alloc (.cells P.cells 24)).alloc (.cells s.cells 56) = W0 at *
    refine (HC.out _).mono ?_
    rintro e w1 ⟨rfl, hb1⟩
    have r1 := (row_below hb1 (row_lt r0)).trans r0
    have s1 := (row_below hb1 (row_lt s0)).trans s0
    have hB1 := Below.then hB0 hb1
    clear r0 s0 hB0 hb1
    go_wp2_with fail
    refine (HL.out _).mono ?_
    rintro e w2 ⟨rfl, hb2⟩
    go_wp2_with fail
    go_ret
    exact ⟨rfl, Below.then hB1 hb2⟩
set_option maxHeartbeats 2000000 in
theorem fsplit_any (P : Par) (n : Nat) (hn : n < 18446744073709551616) (w : World) : Calls Try.prog 31 #[.agg P.cells, .int .u64 n] w fun e w' => e = .returned (.tuple #[.int .u64 ((burnV P n : Nat) : Int), .int .u64 ((treasV P n : Nat) : Int)]) ∧ Below w.heap.size w w' := by
  have r0 : row (w.alloc (.cells P.cells 24)) w.heap.size = some P.cells := (by (repeat (first | assumption | (refine row_at _ _ _ _ ?_; first | rfl | (simp only [World.size_alloc]; done) | (simp only [World.size_alloc]; omega)) | (refine (row_past _ _ _ ?_).trans ?_; (focus (first | exact Nat.lt_succ_self _ | ((repeat rw [World.size_alloc]); omega) | (simp; done) | (simp; omega) | omega))) | rw [row_drewN] | rw [row_drew])); (first | done | fail))
  have hB0 : Below w.heap.size w (w.alloc (.cells P.cells 24)) := (by (repeat (first | exact Below.refl _ _ | assumption | (refine Below.allocT ?_ _) | refine Below.drew ?_ | refine below_drewN ?_ _ | (refine Below.then ?_ (by assumption)) | (refine Below.setRow ?_ ?_ _; rotate_left; (focus (first | exact Nat.lt_succ_self _ | ((repeat rw [World.size_alloc]); omega) | (simp; done) | (simp; omega) | omega))) | (refine Below.setCell ?_ ?_ _; rotate_left; (focus (first | exact Nat.lt_succ_self _ | ((repeat rw [World.size_alloc]); omega) | (simp; done) | (simp; omega) | omega))) | (refine Below.then' ?_ (by assumption) ?_; rotate_left; (focus (first | exact Nat.lt_succ_self _ | ((repeat rw [World.size_alloc]); omega) | (simp; done) | (simp; omega) | omega))) | fail)); (first | done | fail))
  have HC := Lib.hid (fun W => check_any P W)
  cases hr : rightB P
  · rw [show checkE P = 70 by simp [checkE, hr]] at HC
    rw [show burnV P n = 0 by simp [burnV, hr], show treasV P n = 0 by simp [treasV, hr]]
    clear hr
    go_enter Try.func31, Try.ntmps31
    go_wp2_with fail
    generalize (w.alloc (.cells P.cells 24)) = W0 at *
    refine (HC.out _).mono ?_
    rintro e w1 ⟨rfl, hb1⟩
    go_wp2_with fail
    go_ret2
    exact ⟨rfl, Below.then hB0 hb1⟩
  · rw [show checkE P = 0 by simp [checkE, hr]] at HC
    rw [show burnV P n = cutN n P.burn by simp [burnV, hr], show treasV P n = n - cutN n P.burn by simp [treasV, hr]]
    have hF := right_fine hr
    have HL := Lib.hid (fun W => cut_any n P.burn hn hF.b hF.b' W)
    clear hr hF
    go_enter Try.func31, Try.ntmps31
    go_wp2_with fail
    generalize (w.alloc (.cells P.cells 24)) = W0 at *
    refine (HC.out _).mono ?_
    rintro e w1 ⟨rfl, hb1⟩
    have r1 := (row_below hb1 (row_lt r0)).trans r0
    have c1 : ∀ i, w1.cell? ⟨w.heap.size, i, none⟩ = P.cells[i]? := fun i => row_cell r1 i
    have hB1 := Below.then hB0 hb1
    clear r0 hB0 hb1
    go_wp2_with fail
    refine (HL.out _).mono ?_
    rintro e w2 ⟨rfl, hb2⟩
    go_wp2_with fail
    go_ret2
    exact ⟨rfl, Below.then hB1 hb2⟩
end Go.Proofs.Ytecdfphfgaeodaa

/-
  What param.Bound, param.Quick and the reference's Least and Bound answer; the walk of ParamBounds.
-/
import Derived.Test.YtecdfphfgaeodaaLaw07a
import Derived.Test.YtecdfphfgaeodaaRef02b
import Derived.Test.YtecdfphfgaeodaaCalm
namespace Go.Proofs.Ytecdfphfgaeodaa
open Go.RowKit
set_option linter.unusedVariables false

def eachN (P : Par) : Nat := upQ ((P.cap - P.floor) * 1) (leastN P)
def boundN (P : Par) (k : Nat) : Nat := P.delay.toNat + k * eachN P + 1
def quickN (P : Par) : Int := if rightB P then P.delay + leakT P + 1 else 0
theorem each_le {P : Par} (h : LeakOk P) : upV ((P.cap - P.floor) * 1) (leastN P) = eachN P ∧ upE ((P.cap - P.floor) * 1) (leastN P) = 0 ∧ eachN P ≤ 1099511627777 := by
  obtain ⟨_, _, h1, h2⟩ := least_fit h
  obtain ⟨k1, k2, k3, k4, k5, k6, k7, k8⟩ := h
  have hu := upQ_le ((P.cap - P.floor) * 1) (leastN P)
  have hd := Nat.div_le_self ((P.cap - P.floor) * 1) (leastN P)
  have he : eachN P ≤ 1099511627777 := by unfold eachN; omega
  have := up_fit (n := (P.cap - P.floor) * 1) (c := leastN P) (by omega) (by unfold eachN at he; omega)
  exact ⟨this.1, this.2, he⟩
set_option maxHeartbeats 1000000 in
theorem quick_any (P : Par) (w : World) : Calls Try.prog 21 #[.agg P.cells] w fun e w' => e = .returned (.tuple #[.int .i64 (quickN P), .int .i64 (checkE P)]) ∧ Below w.heap.size w w' := by
  have r0 : row (w.alloc (.cells P.cells 24)) w.heap.size = some P.cells := (by (repeat (first | assumption | (refine row_at _ _ _ _ ?_; first | rfl | (simp only [World.size_alloc]; done) | (simp only [World.size_alloc]; omega)) | (refine (row_past _ _ _ ?_).trans ?_; (focus (first | exact Nat.lt_succ_self _ | ((repeat rw [World.size_alloc]); omega) | (simp; done) | (simp; omega) | omega))) | rw [row_drewN] | rw [row_drew])); (first | done | fail))
  have hB0 : Below w.heap.size w (w.alloc (.cells P.cells 24)) := (by (repeat (first | exact Below.refl _ _ | assumption | (refine Below.allocT ?_ _) | refine Below.drew ?_ | refine below_drewN ?_ _ | (refine Below.then ?_ (by assumption)) | (refine Below.setRow ?_ ?_ _; rotate_left; (focus (first | exact Nat.lt_succ_self _ | ((repeat rw [World.size_alloc]); omega) | (simp; done) | (simp; omega) | omega))) | (refine Below.setCell ?_ ?_ _; rotate_left; (focus (first | exact Nat.lt_succ_self _ | ((repeat rw [World.size_alloc]); omega) | (simp; done) | (simp; omega) | omega))) | (refine Below.then' ?_ (by assumption) ?_; rotate_left; (focus (first | exact Nat.lt_succ_self _ | ((repeat rw [World.size_alloc]); omega) | (simp; done) | (simp; omega) | omega))) | fail)); (first | done | fail))
  have HL := Lib.hid (fun W => pleak_any P W)
  cases hr : rightB P
  · have e1 : checkE P = 70 := by simp [checkE, hr]
    have e2 : leakV P = 0 := by simp [leakV, hr]
    have e3 : quickN P = 0 := by simp [quickN, hr]
    rw [e2, e1] at HL
    rw [e3, e1]
    clear e1 e2 e3 hr
    go_enter Try.func21, Try.ntmps21
    go_wp2_with fail
    generalize w.alloc (.cells P.cells 24) = W at *
    refine (HL.out _).mono ?_
    rintro e w1 ⟨rfl, hb1⟩
    go_wp2_with fail
    go_ret2
    exact ⟨rfl, Below.then hB0 hb1⟩
  · have e1 : checkE P = 0 := by simp [checkE, hr]
    have e2 : leakV P = leakT P := by simp [leakV, hr]
    have e3 : quickN P = P.delay + leakT P + 1 := by simp [quickN, hr]
    have hd := (others_facts (right_facts hr).2.2.1).2.2.1
    have hl := leakT_le P
    rw [e2, e1] at HL
    rw [e3, e1]
    clear e1 e2 e3 hr
    generalize leakT P = t at *
    obtain ⟨hd1, hd2⟩ := hd
    obtain ⟨hl1, hl2⟩ := hl
    go_enter Try.func21, Try.ntmps21
    go_wp2_with fail
    generalize w.alloc (.cells P.cells 24) = W at *
    refine (HL.out _).mono ?_
    rintro e w1 ⟨rfl, hb1⟩
    have r1 := (row_below hb1 (row_lt r0)).trans r0
    have hc : ∀ i, w1.cell? ⟨w.heap.size, i, none⟩ = P.cells[i]? := fun i => row_cell r1 i
    go_wp2_with fail
    go_ret2
    exact ⟨rfl, Below.then hB0 hb1⟩
set_option maxHeartbeats 1000000 in
theorem rleast_any (P : Par) (h : LeakOk P) (w : World) : Calls Try.prog 22 #[.agg P.cells] w fun e w' => e = .returned (.int .u64 ((leastN P : Nat) : Int)) ∧ Below w.heap.size w w' := by
  have r0 : row (w.alloc (.cells P.cells 30)) w.heap.size = some P.cells := (by (repeat (first | assumption | (refine row_at _ _ _ _ ?_; first | rfl | (simp only [World.size_alloc]; done) | (simp only [World.size_alloc]; omega)) | (refine (row_past _ _ _ ?_).trans ?_; (focus (first | exact Nat.lt_succ_self _ | ((repeat rw [World.size_alloc]); omega) | (simp; done) | (simp; omega) | omega))) | rw [row_drewN] | rw [row_drew])); (first | done | fail))
  have hB0 : Below w.heap.size w (w.alloc (.cells P.cells 30)) := (by (repeat (first | exact Below.refl _ _ | assumption | (refine Below.allocT ?_ _) | refine Below.drew ?_ | refine below_drewN ?_ _ | (refine Below.then ?_ (by assumption)) | (refine Below.setRow ?_ ?_ _; rotate_left; (focus (first | exact Nat.lt_succ_self _ | ((repeat rw [World.size_alloc]); omega) | (simp; done) | (simp; omega) | omega))) | (refine Below.setCell ?_ ?_ _; rotate_left; (focus (first | exact Nat.lt_succ_self _ | ((repeat rw [World.size_alloc]); omega) | (simp; done) | (simp; omega) | omega))) | (refine Below.then' ?_ (by assumption) ?_; rotate_left; (focus (first | exact Nat.lt_succ_self _ | ((repeat rw [World.size_alloc]); omega) | (simp; done) | (simp; omega) | omega))) | fail)); (first | done | fail))
  obtain ⟨e3, e4, _, _⟩ := least_fit h
  obtain ⟨k1, k2, k3, k4, k5, k6, _, _⟩ := h
  have H2 := Lib.hid (fun W => rup_any P.inc P.bias P.quot (by omega) (by omega) (by omega) W)
  rw [e3, e4] at H2
  clear e3 e4
  go_enter Try.func22, Try.ntmps22
  go_wp2_with fail
  generalize w.alloc (.cells P.cells 30) = W at *
  have hc : ∀ i, W.cell? ⟨w.heap.size, i, none⟩ = P.cells[i]? := fun i => row_cell r0 i
  go_wp2_with fail
  refine (H2.out _).mono ?_
  rintro e w2 ⟨rfl, hb2⟩
  go_wp2_with fail
  go_ret
  exact ⟨rfl, Below.then hB0 hb2⟩
theorem u64s_new (W : World) (xs : List Nat) (t : TypeId) (cs : Array Value) (hcs : cs = (xs.map fun (x : Nat) => Value.int .u64 (x : Int)).toArray) : U64s (W.alloc (.cells cs t)) (some ⟨W.heap.size, 0, none⟩) xs := by
  subst hcs
  intro _
  refine ⟨_, 0, rfl, by simp, fun i hi => ?_⟩
  rw [Nat.zero_add, row_cell (row_at W _ t _ rfl) i]
  simp [hi, List.getD_eq_getElem?_getD]
def boundV (P : Par) (k : Int) : Nat := if rightB P then (if 0 ≤ k ∧ k ≤ 128 then boundN P k.toNat else 0) else 0
def boundE (P : Par) (k : Int) : Int := if rightB P then (if 0 ≤ k ∧ k ≤ 128 then 0 else 2) else 70
set_option maxHeartbeats 2000000 in
theorem bound_any (P : Par) (k : Int) (w : World) : Calls Try.prog 20 #[.agg P.cells, .int .i64 k] w fun e w' => e = .returned (.tuple #[.int .u64 ((boundV P k : Nat) : Int), .int .i64 (boundE P k)]) ∧ Below w.heap.size w w' := by
  have r0 : row (w.alloc (.cells P.cells 24)) w.heap.size = some P.cells := (by (repeat (first | assumption | (refine row_at _ _ _ _ ?_; first | rfl | (simp only [World.size_alloc]; done) | (simp only [World.size_alloc]; omega)) | (refine (row_past _ _ _ ?_).trans ?_; (focus (first | exact Nat.lt_succ_self _ | ((repeat rw [World.size_alloc]); omega) | (simp; done) | (simp; omega) | omega))) | rw [row_drewN] | rw [row_drew])); (first | done | fail))
  have hB0 : Below w.heap.size w (w.alloc (.cells P.cells 24)) := (by (repeat (first | exact Below.refl _ _ | assumption | (refine Below.allocT ?_ _) | refine Below.drew ?_ | refine below_drewN ?_ _ | (refine Below.then ?_ (by assumption)) | (refine Below.setRow ?_ ?_ _; rotate_left; (focus (first | exact Nat.lt_succ_self _ | ((repeat rw [World.size_alloc]); omega) | (simp; done) | (simp; omega) | omega))) | (refine Below.setCell ?_ ?_ _; rotate_left; (focus (first | exact Nat.lt_succ_self _ | ((repeat rw [World.size_alloc]); omega) | (simp; done) | (simp; omega) | omega))) | (refine Below.then' ?_ (by assumption) ?_; rotate_left; (focus (first | exact Nat.lt_succ_self _ | ((repeat rw [World.size_alloc]); omega) | (simp; done) | (simp; omega) | omega))) | fail)); (first | done | fail))
  have HL := Lib.hid (fun W => least_any P W)
  cases hr : rightB P
  · have e1 : checkE P = 70 := by simp [checkE, hr]
    have e2 : leastV P = 0 := by simp [leastV, hr]
    have e3 : boundV P k = 0 := by simp [boundV, hr]
    have e4 : boundE P k = 70 := by simp [boundE, hr]
    rw [e2, e1] at HL
    rw [e3, e4]
    clear e1 e2 e3 e4 hr
    go_enter Try.func20, Try.ntmps20
    go_wp2_with fail
    generalize w.alloc (.cells P.cells 24) = W at *
    refine (HL.out _).mono ?_
    rintro e w1 ⟨rfl, hb1⟩
    go_wp2_with fail
    go_ret2
    exact ⟨rfl, Below.then hB0 hb1⟩
  · have e1 : checkE P = 0 := by simp [checkE, hr]
    have e2 : leastV P = leastN P := by simp [leastV, hr]
    have hLk := leakOk_of (right_facts hr).1 (right_facts hr).2.1
    have hd := (others_facts (right_facts hr).2.2.1).2.2.1
    rw [e2, e1] at HL
    have HI := Lib.hid (fun W => within_i k 0 128 W)
    by_cases hk : 0 ≤ k ∧ k ≤ 128
    · have e3 : boundV P k = boundN P k.toNat := by simp [boundV, hr, hk]
      have e4 : boundE P k = 0 := by simp [boundE, hr, hk]
      rw [show inI k 0 128 = true by simp [inI, hk]] at HI
      obtain ⟨j, rfl⟩ := Int.eq_ofNat_of_zero_le hk.1
      rw [Int.toNat_natCast] at e3
      obtain ⟨_, _, hl1, hl2⟩ := least_fit hLk
      obtain ⟨u1, u2, u3⟩ := each_le hLk
      obtain ⟨k1, k2, k3, k4, k5, k6, k7, k8⟩ := hLk
      have HU := Lib.hid (fun W => up_any (P.cap - P.floor) 1 (leastN P) (by omega) (by omega) (by omega) W)
      rw [u1, u2] at HU
      have hmul : j * eachN P ≤ 128 * 1099511627777 := Nat.mul_le_mul (by omega) u3
      have HM := Lib.hid (fun W => mmul_any j (eachN P) (by omega) (by omega) W)
      rw [fit_le (show j * eachN P ≤ 18446744073709551615 by omega), told_le (show j * eachN P ≤ 18446744073709551615 by omega)] at HM
      obtain ⟨d, hdd⟩ := Int.eq_ofNat_of_zero_le hd.1
      have htot : total [d, j * eachN P, 1] = d + j * eachN P + 1 := by simp [total]
      have HS := Lib.hid (fun A c W hU => msum_any A [d, j * eachN P, 1] 3 c rfl (fun i => by
        match i with
        | 0 => simp; omega
        | 1 => simp; omega
        | 2 => simp
        | n + 3 => simp) (by omega) W hU)
      rw [htot, fit_le (show d + j * eachN P + 1 ≤ 18446744073709551615 by omega), told_le (show d + j * eachN P + 1 ≤ 18446744073709551615 by omega)] at HS
      have HB : Hid (boundN P j = d + j * eachN P + 1) := Lib.hid (by unfold boundN; rw [hdd]; rfl)
      have F4 : (P.cap : Int) - (P.floor : Int) = ((P.cap - P.floor : Nat) : Int) := by omega
      rw [e3, e4]
      have hdl : d ≤ 1000 := by omega
      clear e1 e2 e3 e4 hr u1 u2 htot
      generalize P.cap - P.floor = D at *
      generalize eachN P = each at *
      generalize j * each = n at *
      go_enter Try.func20, Try.ntmps20
      go_wp2_with fail
      generalize w.alloc (.cells P.cells 24) = W at *
      refine (HL.out _).mono ?_
      rintro e w1 ⟨rfl, hb1⟩
      have r1 := (row_below hb1 (row_lt r0)).trans r0
      have hB1 := Below.then hB0 hb1
      have hc : ∀ i, w1.cell? ⟨w.heap.size, i, none⟩ = P.cells[i]? := fun i => row_cell r1 i
      clear r0 hB0 hb1
      go_wp2_with fail
      refine (HI.out _).mono ?_
      rintro e w2 ⟨rfl, rfl⟩
      go_wp2_with fail
      refine (HU.out _).mono ?_
      rintro e w2 ⟨rfl, hb2⟩
      have r2 := (row_below hb2 (row_lt r1)).trans r1
      have hB2 := Below.then hB1 hb2
      have hc2 : ∀ i, w2.cell? ⟨w.heap.size, i, none⟩ = P.cells[i]? := fun i => row_cell r2 i
      clear hc r1 hB1 hb2
      go_wp2_with fail
      refine (HM.out _).mono ?_
      rintro e w3 ⟨rfl, rfl⟩
      go_wp2_with fail
      refine (HS.out _ _ _ (u64s_new _ [d, n, 1] _ _ rfl)).mono ?_
      rintro e w4 ⟨rfl, rfl⟩
      go_wp2_with fail
      go_ret2
      exact ⟨by rw [HB.out]; rfl, (by (repeat (first | exact Below.refl _ _ | assumption | (refine Below.allocT ?_ _) | refine Below.drew ?_ | refine below_drewN ?_ _ | (refine Below.then ?_ (by assumption)) | (refine Below.setRow ?_ ?_ _; rotate_left; (focus (first | exact Nat.lt_succ_self _ | ((repeat rw [World.size_alloc]); omega) | (simp; done) | (simp; omega) | omega))) | (refine Below.setCell ?_ ?_ _; rotate_left; (focus (first | exact Nat.lt_succ_self _ | ((repeat rw [World.size_alloc]); omega) | (simp; done) | (simp; omega) | omega))) | (refine Below.then' ?_ (by assumption) ?_; rotate_left; (focus (first | exact Nat.lt_succ_self _ | ((repeat rw [World.size_alloc]); omega) | (simp; done) | (simp; omega) | omega))) | fail)); (first | done | fail))⟩
    · have e3 : boundV P k = 0 := by simp only [boundV, hr, if_true]; rw [if_neg hk]
      have e4 : boundE P k = 2 := by simp only [boundE, hr, if_true]; rw [if_neg hk]
      rw [show inI k 0 128 = false by simp [inI]; omega] at HI
      rw [e3, e4]
      clear e1 e2 e3 e4 hr hk hLk
      go_enter Try.func20, Try.ntmps20
      go_wp2_with fail
      generalize w.alloc (.cells P.cells 24) = W at *
      refine (HL.out _).mono ?_
      rintro e w1 ⟨rfl, hb1⟩
      go_wp2_with fail
      refine (HI.out _).mono ?_
      rintro e w2 ⟨rfl, rfl⟩
      go_wp2_with fail
      go_ret2
      exact ⟨rfl, Below.then hB0 hb1⟩
set_option maxHeartbeats 2000000 in
set_option maxRecDepth 100000 in
theorem rbound_any (P : Par) (h : LeakOk P) (hd : 0 ≤ P.delay ∧ P.delay ≤ 1000) (j : Nat) (hj : j ≤ 128) (w : World) : Calls Try.prog 23 #[.agg P.cells, .int .i64 j] w fun e w' => e = .returned (.int .u64 ((boundN P j : Nat) : Int)) ∧ Below w.heap.size w w' := by
  have r0 : row (w.alloc (.cells P.cells 30)) w.heap.size = some P.cells := (by (repeat (first | assumption | (refine row_at _ _ _ _ ?_; first | rfl | (simp only [World.size_alloc]; done) | (simp only [World.size_alloc]; omega)) | (refine (row_past _ _ _ ?_).trans ?_; (focus (first | exact Nat.lt_succ_self _ | ((repeat rw [World.size_alloc]); omega) | (simp; done) | (simp; omega) | omega))) | rw [row_drewN] | rw [row_drew])); (first | done | fail))
  have hB0 : Below w.heap.size w (w.alloc (.cells P.cells 30)) := (by (repeat (first | exact Below.refl _ _ | assumption | (refine Below.allocT ?_ _) | refine Below.drew ?_ | refine below_drewN ?_ _ | (refine Below.then ?_ (by assumption)) | (refine Below.setRow ?_ ?_ _; rotate_left; (focus (first | exact Nat.lt_succ_self _ | ((repeat rw [World.size_alloc]); omega) | (simp; done) | (simp; omega) | omega))) | (refine Below.setCell ?_ ?_ _; rotate_left; (focus (first | exact Nat.lt_succ_self _ | ((repeat rw [World.size_alloc]); omega) | (simp; done) | (simp; omega) | omega))) | (refine Below.then' ?_ (by assumption) ?_; rotate_left; (focus (first | exact Nat.lt_succ_self _ | ((repeat rw [World.size_alloc]); omega) | (simp; done) | (simp; omega) | omega))) | fail)); (first | done | fail))
  have HL := Lib.hid (fun W => rleast_any P h W)
  obtain ⟨_, _, hl1, hl2⟩ := least_fit h
  obtain ⟨u1, u2, u3⟩ := each_le h
  obtain ⟨k1, k2, k3, k4, k5, k6, k7, k8⟩ := h
  have HU := Lib.hid (fun W => rup_any (P.cap - P.floor) 1 (leastN P) (by omega) (by omega) (by omega) W)
  rw [u1, u2] at HU
  obtain ⟨d, hdd⟩ := Int.eq_ofNat_of_zero_le hd.1
  have hmul : j * eachN P ≤ 128 * 1099511627777 := Nat.mul_le_mul hj u3
  have HB : Hid (boundN P j = d + j * eachN P + 1) := Lib.hid (by unfold boundN; rw [hdd]; rfl)
  have hdl : d ≤ 1000 := by omega
  obtain ⟨D, hD⟩ : ∃ D, D = P.cap - P.floor := ⟨_, rfl⟩
  rw [← hD] at HU
  have F4 : IntKind.u64.wrap ((P.cap : Int) - (P.floor : Int)) = (D : Int) := by rw [show (P.cap : Int) - (P.floor : Int) = ((D : Nat) : Int) by omega]; exact Bits.wrapN _ (by omega)
  have hdq : IntKind.i64.wrap P.delay = P.delay := IntWalk.i64_in _ (by omega)
  clear u1 u2 hD hd
  obtain ⟨n, hn⟩ : ∃ n, n = j * eachN P := ⟨_, rfl⟩
  rw [← hn] at hmul HB
  have F5 : IntKind.u64.wrap ((j : Int) * ((eachN P : Nat) : Int)) = (n : Int) := by rw [← Int.natCast_mul, ← hn]; exact Bits.wrapN _ (by omega)
  clear hn
  generalize eachN P = each at *
  go_enter Try.func23, Try.ntmps23
  go_wp2_with fail
  generalize w.alloc (.cells P.cells 30) = W at *
  have hz := row_lt r0
  have HM : Hid (∀ w', Below W.heap.size W w' → row w' w.heap.size = some P.cells ∧ (∀ i, w'.cell? ⟨w.heap.size, i, none⟩ = P.cells[i]?)) := Lib.hid fun w' h => ⟨(row_below h hz).trans r0, fun i => row_cell ((row_below h hz).trans r0) i⟩
  (refine wp_region_calm (by kernel_rfl) (by kernel_rfl) ?_; (repeat (first | go_big_quiet_skip | (go_big_quiet_want; apply calm_val; (focus (intro w' hb'; obtain ⟨c1, c2⟩ := HM.out w' hb'; first | exact rpar_quiet rfl c1 rfl | (unfold Oper.quietAt; go_simp; first | rfl | (go_at_call 22; exact calm_call hb' (HL.out _)) | (go_at_call 50; exact calm_call hb' (HU.out _))))); (try simp only [Act.put, List.setIfInBounds_toArray, List.set_cons_zero, List.set_cons_succ]); go_big_quiet_on))); refine wpQuiet_nil ?_; intro w' hb')
  obtain ⟨c1, c2⟩ := HM.out w' hb'
  clear HM
  go_wp2_with fail
  go_ret
  exact ⟨by rw [HB.out]; exact congrArg (fun z => Ending.returned (.int .u64 z)) (by omega), Below.then hB0 hb'⟩
end Go.Proofs.Ytecdfphfgaeodaa

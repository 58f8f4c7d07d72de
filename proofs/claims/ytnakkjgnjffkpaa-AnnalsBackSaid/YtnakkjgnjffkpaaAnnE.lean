/-
  Reports and sums, held against each other; few.
-/
import Derived.Test.YtnakkjgnjffkpaaAnn5
import Derived.Laws.StructEq
namespace Go.Proofs.Ytnakkjgnjffkpaa
open Go.RowKit
set_option linter.unusedVariables false
set_option linter.unusedSimpArgs false

/-- The fields of a struct of whole numbers are held against each other one by one. -/
theorem eqField_step {P : Program} {w : World} {d : Nat} {xs ys : Array Value} {f : Field} {fs : List Field} {k : IntKind} {a b : Int} (hn : f.name ≠ "_") (hu : P.underlying f.type = some (.int k))
    (hx : (part f.type xs f.offset).run P w = .ok (.int k a) w) (hy : (part f.type ys f.offset).run P w = .ok (.int k b) w) {r : Bool} (h : (Op.eqFields (d + 1) xs ys fs).run P w = .ok r w) :
    (Op.eqFields (d + 1) xs ys (f :: fs)).run P w = .ok (decide (a = b) && r) w := by
  have e1 := run_equalIn_int (P := P) w d f.type k k a b hu
  simp only [Op.eqFields, if_pos hn, Sem.run_bind, hx, hy, Result.andThen_ok, e1, Sem.run_ite]
  by_cases hab : a = b
  · subst hab; simp [h]
  · have : (a == b) = false := beq_eq_false_iff_ne.2 hab
    simp [this, hab]
theorem lapp_nil {α : Type} (l : List α) : List.append [] l = l := rfl
theorem lapp_cons {α : Type} (a : α) (l m : List α) : List.append (a :: l) m = a :: List.append l m := rfl
deriving instance DecidableEq for Rep
deriving instance DecidableEq for Sm
def smEq (p q : Sm) : Bool := decide (p = q)
theorem smEq_self (p : Sm) : smEq p p = true := decide_eq_true rfl
def smEqL (p q : Sm) : Bool := (decide ((p.ticks : Int) = q.ticks) && (decide ((p.quorums : Int) = q.quorums) && (decide ((p.leaks : Int) = q.leaks) && (decide ((p.minted : Int) = q.minted) && (decide ((p.paid : Int) = q.paid) && (decide ((p.kept : Int) = q.kept) && (decide ((p.burned : Int) = q.burned) && (decide ((p.fees : Int) = q.fees) && (decide ((p.out : Int) = q.out) && (decide ((p.left : Int) = q.left) && (decide ((p.started : Int) = q.started) && (decide ((p.done : Int) = q.done) && true))))))))))))
theorem smEq_iff (p q : Sm) : smEqL p q = smEq p q := by
  cases p; cases q
  simp only [smEq, smEqL, Sm.mk.injEq, Int.natCast_inj, Bool.and_true, Bool.decide_and]
attribute [go_sem] smEq_self
theorem sums_noguard : Try.prog.eqGuardType Try.prog.depth 45 = false := by kernel_rfl
theorem sums_unheld : Try.prog.stoodInHeld 45 = false := by kernel_rfl
set_option maxRecDepth 100000 in
theorem sums_eqFields (p q : Sm) (w : World) : (Op.eqFields 9999 (smC p) (smC q) (Try.prog.fieldsOf 45).toList).run Try.prog w = .ok (smEq p q) w := by
  rw [← smEq_iff]
  simp only [Program.fieldsOf, Try.underlying45]
  unfold smEqL
  repeat (refine eqField_step (by decide) (by kernel_rfl) rfl rfl ?_)
  exact rfl
theorem run_eql_sums (p q : Sm) (w : World) : (binOp .eql 45 (.agg (smC p)) (.agg (smC q))).run Try.prog w = .ok (.bool (smEq p q)) w := by
  rw [run_eql_struct, run_equalIn_struct w _ _ _ _ sums_under sums_unheld, sums_eqFields]; rfl
theorem run_neq_sums (p q : Sm) (w : World) : (binOp .neq 45 (.agg (smC p)) (.agg (smC q))).run Try.prog w = .ok (.bool (!smEq p q)) w := by
  rw [run_neq_struct, run_equalIn_struct w _ _ _ _ sums_under sums_unheld, sums_eqFields]; rfl
attribute [go_sem ↓] run_eql_sums run_neq_sums
attribute [go_sem] sums_noguard
theorem rsums_noguard : Try.prog.eqGuardType Try.prog.depth 48 = false := by kernel_rfl
theorem rsums_unheld : Try.prog.stoodInHeld 48 = false := by kernel_rfl
set_option maxRecDepth 100000 in
theorem rsums_eqFields (p q : Sm) (w : World) : (Op.eqFields 9999 (smC p) (smC q) (Try.prog.fieldsOf 48).toList).run Try.prog w = .ok (smEq p q) w := by
  rw [← smEq_iff]
  simp only [Program.fieldsOf, Try.underlying48]
  unfold smEqL
  repeat (refine eqField_step (by decide) (by kernel_rfl) rfl rfl ?_)
  exact rfl
theorem run_eql_rsums (p q : Sm) (w : World) : (binOp .eql 48 (.agg (smC p)) (.agg (smC q))).run Try.prog w = .ok (.bool (smEq p q)) w := by
  rw [run_eql_struct, run_equalIn_struct w _ _ _ _ rsums_under rsums_unheld, rsums_eqFields]; rfl
theorem run_neq_rsums (p q : Sm) (w : World) : (binOp .neq 48 (.agg (smC p)) (.agg (smC q))).run Try.prog w = .ok (.bool (!smEq p q)) w := by
  rw [run_neq_struct, run_equalIn_struct w _ _ _ _ rsums_under rsums_unheld, rsums_eqFields]; rfl
attribute [go_sem ↓] run_eql_rsums run_neq_rsums
attribute [go_sem] rsums_noguard
theorem same16_any (A1 A2 : Option Addr) (n1 c1 n2 c2 : Nat) (xs ys : List Int) (hn1 : xs.length = n1) (hn2 : ys.length = n2) (hm : n1 ≤ 9223372036854775807) (w : World) (h1 : SliceOf 1 intK w A1 xs) (h2 : SliceOf 1 intK w A2 ys) :
    Calls Try.prog 49 #[.slice A1 n1 c1, .slice A2 n2 c2] w fun e w' => e = .returned (.bool (decide (xs = ys))) ∧ Below w.heap.size w w' := by
  have HX := Lib.hid h1
  have HY := Lib.hid h2
  have HN1 := Lib.hid hn1
  have HN2 := Lib.hid hn2
  clear h1 h2
  by_cases hne : n1 = n2
  · subst hne
    clear hn1 hn2
    go_enter Try.func49, Try.ntmps49
    go_wp2_with fail
    go_loopw [5] (fun i wr => ∃ j : Nat, i = .int .i64 j ∧ j ≤ n1 ∧ Hid (xs.take j = ys.take j) ∧ Hid (Below w.heap.size w wr)) (fun i _ => n1 - (intOf i).toNat)
    case atStart => exact ⟨0, rfl, by omega, Lib.hid rfl, Lib.hid (Below.refl _ _)⟩
    case round =>
      obtain ⟨j, rfl, hj, hI, hBw⟩ := hrel
      by_cases hlt : j < n1
      · obtain ⟨x, hx⟩ : ∃ x, xs[j]? = some x := ⟨_, List.getElem?_eq_getElem (by rw [HN1.out]; exact hlt)⟩
        obtain ⟨y, hy⟩ : ∃ y, ys[j]? = some y := ⟨_, List.getElem?_eq_getElem (by rw [HN2.out]; exact hlt)⟩
        obtain ⟨b1, o1, rfl, _, kx⟩ := int_at (HX.out.below hBw.out (Nat.le_refl _)) hx
        obtain ⟨b2, o2, rfl, _, ky⟩ := int_at (HY.out.below hBw.out (Nat.le_refl _)) hy
        have z1 : (0 : Int) ≤ (j : Int) := by omega
        have z2 : (j : Int) < (n1 : Int) := by omega
        by_cases hxy : x = y
        · have HI2 : Hid (xs.take (j + 1) = ys.take (j + 1)) := Lib.hid (by
            obtain ⟨hjl, hjz⟩ := List.getElem?_eq_some_iff.1 hx
            obtain ⟨hjl2, hjz2⟩ := List.getElem?_eq_some_iff.1 hy
            rw [List.take_succ_eq_append_getElem hjl, hjz, List.take_succ_eq_append_getElem hjl2, hjz2, hI.out, hxy])
          subst hxy
          clear hx hy
          go_wp2_with fail
          go_quiet (fail)
          go_wp2_with fail
          exact ⟨⟨j + 1, by go_num, by omega, HI2, Lib.hid (below_drewN hBw.out _)⟩, by simp [intOf]; omega⟩
        · have HV : Hid (decide (xs = ys) = false) := Lib.hid (decide_eq_false fun e => hxy (by rw [e] at hx; exact Option.some.inj (hx.symm.trans hy)))
          have e1 : (x != y) = true := by simp [hxy]
          have e2 : (x == y) = false := beq_eq_false_iff_ne.2 hxy
          clear hx hy
          go_wp2_with fail
          go_quiet (fail)
          go_wp2_with fail
          go_ret
          exact ⟨by rw [HV.out]; rfl, below_drewN hBw.out _⟩
      · obtain rfl : j = n1 := by omega
        have HV : Hid (decide (xs = ys) = true) := Lib.hid (decide_eq_true (by
          have := hI.out
          rwa [List.take_of_length_le (by rw [HN1.out]; exact Nat.le_refl _), List.take_of_length_le (by rw [HN2.out]; exact Nat.le_refl _)] at this))
        clear HX HY
        go_wp2_with fail
        go_ret
        exact ⟨by rw [HV.out]; rfl, hBw.out⟩
  · have HV : Hid (decide (xs = ys) = false) := Lib.hid (decide_eq_false fun e => hne (by rw [← hn1, ← hn2, e]))
    have e1 : ((n1 : Int) != (n2 : Int)) = true := by simp [hne]; omega
    have e2 : ((n1 : Int) == (n2 : Int)) = false := beq_eq_false_iff_ne.2 (by omega)
    clear hn1 hn2 HN1 HN2 HX HY
    go_enter Try.func49, Try.ntmps49
    go_wp2_with fail
    go_ret
    exact ⟨by rw [HV.out]; rfl, Below.refl _ _⟩
set_option maxRecDepth 100000 in
set_option maxHeartbeats 4000000 in
theorem sameRep_any (r s : Rep) (a b : RepA) (w : World) (hr : RepAt w (r, a)) (hs : RepAt w (s, b)) (hl : r.out.length ≤ 9223372036854775807 ∧ r.left.length ≤ 9223372036854775807 ∧ r.started.length ≤ 9223372036854775807 ∧ r.done.length ≤ 9223372036854775807) :
    Calls Try.prog 22 #[.agg (repC (r, a)), .agg (repC (s, b))] w fun e w' => e = .returned (.bool (decide (r = s))) ∧ Below w.heap.size w w' := by
  have r0 : row ((w.alloc (.cells (repC (r, a)) 40)).alloc (.cells (repC (s, b)) 40)) w.heap.size = some (repC (r, a)) := (by (repeat (first | assumption | (refine row_at _ _ _ _ ?_; first | rfl | (simp only [World.size_alloc]; done) | (simp only [World.size_alloc]; omega)) | (refine (row_past _ _ _ ?_).trans ?_; (focus (first | exact Nat.lt_succ_self _ | ((repeat rw [World.size_alloc]); omega) | (simp; done) | (simp; omega) | omega))) | rw [row_drewN] | rw [row_drew])); (first | done | fail))
  have q0 : row ((w.alloc (.cells (repC (r, a)) 40)).alloc (.cells (repC (s, b)) 40)) (w.heap.size + 1) = some (repC (s, b)) := (by (repeat (first | assumption | (refine row_at _ _ _ _ ?_; first | rfl | (simp only [World.size_alloc]; done) | (simp only [World.size_alloc]; omega)) | (refine (row_past _ _ _ ?_).trans ?_; (focus (first | exact Nat.lt_succ_self _ | ((repeat rw [World.size_alloc]); omega) | (simp; done) | (simp; omega) | omega))) | rw [row_drewN] | rw [row_drew])); (first | done | fail))
  have hB0 : Below w.heap.size w ((w.alloc (.cells (repC (r, a)) 40)).alloc (.cells (repC (s, b)) 40)) := (by (repeat (first | exact Below.refl _ _ | assumption | (refine Below.allocT ?_ _) | refine Below.drew ?_ | refine below_drewN ?_ _ | (refine Below.then ?_ (by assumption)) | (refine Below.setRow ?_ ?_ _; rotate_left; (focus (first | exact Nat.lt_succ_self _ | ((repeat rw [World.size_alloc]); omega) | (simp; done) | (simp; omega) | omega))) | (refine Below.setCell ?_ ?_ _; rotate_left; (focus (first | exact Nat.lt_succ_self _ | ((repeat rw [World.size_alloc]); omega) | (simp; done) | (simp; omega) | omega))) | (refine Below.then' ?_ (by assumption) ?_; rotate_left; (focus (first | exact Nat.lt_succ_self _ | ((repeat rw [World.size_alloc]); omega) | (simp; done) | (simp; omega) | omega))) | fail)); (first | done | fail))
  have HR := Lib.hid (hr.stay hB0)
  have HS := Lib.hid (hs.stay hB0)
  clear hr hs
  have H0 := Lib.hid (fun W (hW : Below ((w.alloc (.cells (repC (r, a)) 40)).alloc (.cells (repC (s, b)) 40)).heap.size ((w.alloc (.cells (repC (r, a)) 40)).alloc (.cells (repC (s, b)) 40)) W) => same16_any a.a1 b.a1 r.out.length a.c1 s.out.length b.c1 r.out s.out rfl rfl (by omega) W (HR.out.out.below hW (Nat.le_refl _)) (HS.out.out.below hW (Nat.le_refl _)))
  have H1 := Lib.hid (fun W (hW : Below ((w.alloc (.cells (repC (r, a)) 40)).alloc (.cells (repC (s, b)) 40)).heap.size ((w.alloc (.cells (repC (r, a)) 40)).alloc (.cells (repC (s, b)) 40)) W) => same16_any a.a2 b.a2 r.left.length a.c2 s.left.length b.c2 r.left s.left rfl rfl (by omega) W (HR.out.left.below hW (Nat.le_refl _)) (HS.out.left.below hW (Nat.le_refl _)))
  have H2 := Lib.hid (fun W (hW : Below ((w.alloc (.cells (repC (r, a)) 40)).alloc (.cells (repC (s, b)) 40)).heap.size ((w.alloc (.cells (repC (r, a)) 40)).alloc (.cells (repC (s, b)) 40)) W) => same16_any a.a3 b.a3 r.started.length a.c3 s.started.length b.c3 r.started s.started rfl rfl (by omega) W (HR.out.started.below hW (Nat.le_refl _)) (HS.out.started.below hW (Nat.le_refl _)))
  have H3 := Lib.hid (fun W (hW : Below ((w.alloc (.cells (repC (r, a)) 40)).alloc (.cells (repC (s, b)) 40)).heap.size ((w.alloc (.cells (repC (r, a)) 40)).alloc (.cells (repC (s, b)) 40)) W) => same16_any a.a4 b.a4 r.done.length a.c4 s.done.length b.c4 r.done s.done rfl rfl (by omega) W (HR.out.done.below hW (Nat.le_refl _)) (HS.out.done.below hW (Nat.le_refl _)))
  obtain ⟨w0, hw0⟩ : ∃ w0, w0 = (w.alloc (.cells (repC (r, a)) 40)).alloc (.cells (repC (s, b)) 40) := ⟨_, rfl⟩
  rw [← hw0] at r0 q0 hB0 H0 H1 H2 H3
  have cr := fun i => row_cell r0 i
  have cs := fun i => row_cell q0 i
  have HRow := Lib.hid (And.intro r0 q0)
  clear r0 q0 HR HS hl
  have hzr := repC_one (r, a)
  have hzs := repC_one (s, b)
  have HN0 : Hid (r.out ≠ s.out → decide (r = s) = false) := Lib.hid fun h => decide_eq_false fun e => h (congrArg Rep.out e)
  generalize hb0 : decide (r.out = s.out) = b0 at *
  have HB0 := Lib.hid hb0
  clear hb0
  have HN1 : Hid (r.left ≠ s.left → decide (r = s) = false) := Lib.hid fun h => decide_eq_false fun e => h (congrArg Rep.left e)
  generalize hb1 : decide (r.left = s.left) = b1 at *
  have HB1 := Lib.hid hb1
  clear hb1
  have HN2 : Hid (r.started ≠ s.started → decide (r = s) = false) := Lib.hid fun h => decide_eq_false fun e => h (congrArg Rep.started e)
  generalize hb2 : decide (r.started = s.started) = b2 at *
  have HB2 := Lib.hid hb2
  clear hb2
  have HN3 : Hid (r.done ≠ s.done → decide (r = s) = false) := Lib.hid fun h => decide_eq_false fun e => h (congrArg Rep.done e)
  generalize hb3 : decide (r.done = s.done) = b3 at *
  have HB3 := Lib.hid hb3
  clear hb3
  go_enter Try.func22, Try.ntmps22
  simp only [lapp_cons, lapp_nil]
  go_wp2_with (first | (rw [← hw0]; clear hw0) | go_big_skip | go_big_want | go_big_guard)
  rotate_left
  iterate 10
    focus
      have HV : Hid (decide (r = s) = false) := Lib.hid (decide_eq_false fun e => by subst e; simp_all)
      go_ret
      exact ⟨by rw [HV.out]; rfl, hB0⟩
  have HE : Hid (r.out = s.out → r.left = s.left → r.started = s.started → r.done = s.done → decide (r = s) = true) := Lib.hid fun a1 a2 a3 a4 => decide_eq_true (by
    have e0 : r.present = s.present := by omega
    have e1 : r.active = s.active := by omega
    have e2 : r.minted = s.minted := by omega
    have e3 : r.paid = s.paid := by omega
    have e4 : r.kept = s.kept := by omega
    have e5 : r.burned = s.burned := by omega
    have e6 : r.fees = s.fees := by omega
    cases r; cases s; simp_all)
  refine (H0.out _ (Below.refl _ _)).mono ?_
  rintro e w1 ⟨rfl, hb1⟩
  clear cr cs
  have cr := fun i => row_cell (below_row hb1 HRow.out.1 (row_lt HRow.out.1)) i
  have cs := fun i => row_cell (below_row hb1 HRow.out.2 (row_lt HRow.out.2)) i
  cases b0
  · have HV := Lib.hid (HN0.out (of_decide_eq_false HB0.out))
    go_wp2_with (first | go_big_skip | go_big_want)
    go_ret
    exact ⟨by rw [HV.out]; rfl, Below.then hB0 hb1⟩
  go_wp2_with fail
  refine (H1.out _ hb1).mono ?_
  rintro e w2 ⟨rfl, hb2⟩
  replace hb2 := Below.then hb1 hb2
  clear cr cs
  have cr := fun i => row_cell (below_row hb2 HRow.out.1 (row_lt HRow.out.1)) i
  have cs := fun i => row_cell (below_row hb2 HRow.out.2 (row_lt HRow.out.2)) i
  cases b1
  · have HV := Lib.hid (HN1.out (of_decide_eq_false HB1.out))
    go_wp2_with (first | go_big_skip | go_big_want)
    go_ret
    exact ⟨by rw [HV.out]; rfl, Below.then hB0 hb2⟩
  go_wp2_with fail
  refine (H2.out _ hb2).mono ?_
  rintro e w3 ⟨rfl, hb3⟩
  replace hb3 := Below.then hb2 hb3
  clear cr cs
  have cr := fun i => row_cell (below_row hb3 HRow.out.1 (row_lt HRow.out.1)) i
  have cs := fun i => row_cell (below_row hb3 HRow.out.2 (row_lt HRow.out.2)) i
  cases b2
  · have HV := Lib.hid (HN2.out (of_decide_eq_false HB2.out))
    go_wp2_with (first | go_big_skip | go_big_want)
    go_ret
    exact ⟨by rw [HV.out]; rfl, Below.then hB0 hb3⟩
  go_wp2_with fail
  refine (H3.out _ hb3).mono ?_
  rintro e w4 ⟨rfl, hb4⟩
  replace hb4 := Below.then hb3 hb4
  clear cr cs
  have cr := fun i => row_cell (below_row hb4 HRow.out.1 (row_lt HRow.out.1)) i
  have cs := fun i => row_cell (below_row hb4 HRow.out.2 (row_lt HRow.out.2)) i
  cases b3
  · have HV := Lib.hid (HN3.out (of_decide_eq_false HB3.out))
    go_wp2_with (first | go_big_skip | go_big_want)
    go_ret
    exact ⟨by rw [HV.out]; rfl, Below.then hB0 hb4⟩
  have HV := Lib.hid (HE.out (of_decide_eq_true HB0.out) (of_decide_eq_true HB1.out) (of_decide_eq_true HB2.out) (of_decide_eq_true HB3.out))
  go_wp2_with fail
  go_ret
  exact ⟨by rw [HV.out]; rfl, Below.then hB0 hb4⟩
end Go.Proofs.Ytnakkjgnjffkpaa

/-
  Deeds that move a motion: deed.same, deed.paid, deed.Right.
-/
import Derived.Test.YtnakkjgnjffkpaaDed
import Derived.BigQuiet
import Derived.BigRegion
namespace Go.Proofs.Ytnakkjgnjffkpaa
open Go.RowKit
set_option linter.unusedVariables false

theorem lapp_cons {α : Type} (a : α) (l m : List α) : List.append (a :: l) m = a :: List.append l m := rfl
theorem lapp_nil {α : Type} (l : List α) : List.append [] l = l := rfl
def same6 (member dest D2 : Int) (amount A2 : Nat) (epoch : Int) (par P2 : Par) (motion : Int) (yes : Bool) (nb : Nat) : Bool := decide (member = 0) && (decide (dest = D2) && (decide (amount = A2) && (decide (epoch = 0) && (parEq par P2 && (decide (motion = 0) && (!yes && decide (nb = 0)))))))
set_option maxRecDepth 100000 in
set_option maxHeartbeats 16000000 in
theorem same6_any (account member dest D2 : Int) (amount A2 : Nat) (epoch : Int) (bits : List Nat) (what : Int) (par P2 : Par) (motion : Int) (yes : Bool) (a : DedA) (w : World) :
    Calls Try.prog 133 #[.agg (dedC (⟨6, account, member, dest, amount, epoch, bits, what, par, motion, yes⟩, a)), .agg (dedC (⟨6, account, 0, D2, A2, 0, [], what, P2, 0, false⟩, DedA.nil))] w fun e w' => e = .returned (.bool (same6 member dest D2 amount A2 epoch par P2 motion yes bits.length)) ∧ Below w.heap.size w w' := by
  have r0 : row ((w.alloc (.cells (dedC (⟨6, account, member, dest, amount, epoch, bits, what, par, motion, yes⟩, a)) 79)).alloc (.cells (dedC (⟨6, account, 0, D2, A2, 0, [], what, P2, 0, false⟩, DedA.nil)) 79)) w.heap.size = some (dedC (⟨6, account, member, dest, amount, epoch, bits, what, par, motion, yes⟩, a)) := (by (repeat (first | assumption | (refine row_at _ _ _ _ ?_; first | rfl | (simp only [World.size_alloc]; done) | (simp only [World.size_alloc]; omega)) | (refine (row_past _ _ _ ?_).trans ?_; (focus (first | exact Nat.lt_succ_self _ | ((repeat rw [World.size_alloc]); omega) | (simp; done) | (simp; omega) | omega))) | rw [row_drewN] | rw [row_drew])); (first | done | fail))
  have q0 : row ((w.alloc (.cells (dedC (⟨6, account, member, dest, amount, epoch, bits, what, par, motion, yes⟩, a)) 79)).alloc (.cells (dedC (⟨6, account, 0, D2, A2, 0, [], what, P2, 0, false⟩, DedA.nil)) 79)) (w.heap.size + 1) = some (dedC (⟨6, account, 0, D2, A2, 0, [], what, P2, 0, false⟩, DedA.nil)) := (by (repeat (first | assumption | (refine row_at _ _ _ _ ?_; first | rfl | (simp only [World.size_alloc]; done) | (simp only [World.size_alloc]; omega)) | (refine (row_past _ _ _ ?_).trans ?_; (focus (first | exact Nat.lt_succ_self _ | ((repeat rw [World.size_alloc]); omega) | (simp; done) | (simp; omega) | omega))) | rw [row_drewN] | rw [row_drew])); (first | done | fail))
  have hB0 : Below w.heap.size w ((w.alloc (.cells (dedC (⟨6, account, member, dest, amount, epoch, bits, what, par, motion, yes⟩, a)) 79)).alloc (.cells (dedC (⟨6, account, 0, D2, A2, 0, [], what, P2, 0, false⟩, DedA.nil)) 79)) := (by (repeat (first | exact Below.refl _ _ | assumption | (refine Below.allocT ?_ _) | refine Below.drew ?_ | refine below_drewN ?_ _ | (refine Below.then ?_ (by assumption)) | (refine Below.setRow ?_ ?_ _; rotate_left; (focus (first | exact Nat.lt_succ_self _ | ((repeat rw [World.size_alloc]); omega) | (simp; done) | (simp; omega) | omega))) | (refine Below.setCell ?_ ?_ _; rotate_left; (focus (first | exact Nat.lt_succ_self _ | ((repeat rw [World.size_alloc]); omega) | (simp; done) | (simp; omega) | omega))) | (refine Below.then' ?_ (by assumption) ?_; rotate_left; (focus (first | exact Nat.lt_succ_self _ | ((repeat rw [World.size_alloc]); omega) | (simp; done) | (simp; omega) | omega))) | fail)); (first | done | fail))
  obtain ⟨w0, hw0⟩ : ∃ x, x = ((w.alloc (.cells (dedC (⟨6, account, member, dest, amount, epoch, bits, what, par, motion, yes⟩, a)) 79)).alloc (.cells (dedC (⟨6, account, 0, D2, A2, 0, [], what, P2, 0, false⟩, DedA.nil)) 79)) := ⟨_, rfl⟩
  rw [← hw0] at r0 q0 hB0
  have c0 := fun i => row_cell r0 i
  have d0 := fun i => row_cell q0 i
  have HB0 := Lib.hid hB0
  clear hB0
  go_enter Try.func133, Try.ntmps133
  simp only [lapp_cons, lapp_nil]
  go_wp2_with (first | (rw [← hw0]; clear hw0) | go_big_skip | go_big_want | go_big_guard)
  rotate_left
  iterate 7
    focus
      clear r0 q0 c0 d0
      have HV : Hid (same6 member dest D2 amount A2 epoch par P2 motion yes bits.length = false) := Lib.hid (by
        have : ¬ ((amount : Int) = (A2 : Int)) → ¬ amount = A2 := fun h e => h (by rw [e])
        unfold same6; simp_all)
      go_ret
      exact ⟨by rw [HV.out]; rfl, HB0.out⟩
  clear r0 q0 c0 d0
  have HV : Hid (same6 member dest D2 amount A2 epoch par P2 motion yes bits.length = ((bits.length : Int) == 0)) := Lib.hid (by
    have e : amount = A2 := by omega
    unfold same6
    rw [Bool.eq_iff_iff]
    simp_all)
  go_ret
  exact ⟨by rw [HV.out]; rfl, HB0.out⟩
def sameV (d : Ded) : Bool := same6 d.member d.dest (bareD d).dest d.amount (bareD d).amount d.epoch d.par (bareD d).par d.motion d.yes d.bits.length
theorem paid6_any (d : Ded) (a : DedA) (hk : d.kind = 6) (w : World) : Calls Try.prog 135 #[.agg (dedC (d, a))] w fun e w' => e = .returned (.bool (decide (d.what = 2))) ∧ Below w.heap.size w w' := by
  obtain ⟨kind, account, member, dest, amount, epoch, bits, what, par, motion, yes⟩ := d
  have hk : kind = 6 := hk
  subst hk
  have r0 : row (w.alloc (.cells (dedC (⟨6, account, member, dest, amount, epoch, bits, what, par, motion, yes⟩, a)) 79)) w.heap.size = some (dedC (⟨6, account, member, dest, amount, epoch, bits, what, par, motion, yes⟩, a)) := (by (repeat (first | assumption | (refine row_at _ _ _ _ ?_; first | rfl | (simp only [World.size_alloc]; done) | (simp only [World.size_alloc]; omega)) | (refine (row_past _ _ _ ?_).trans ?_; (focus (first | exact Nat.lt_succ_self _ | ((repeat rw [World.size_alloc]); omega) | (simp; done) | (simp; omega) | omega))) | rw [row_drewN] | rw [row_drew])); (first | done | fail))
  have hB0 : Below w.heap.size w (w.alloc (.cells (dedC (⟨6, account, member, dest, amount, epoch, bits, what, par, motion, yes⟩, a)) 79)) := (by (repeat (first | exact Below.refl _ _ | assumption | (refine Below.allocT ?_ _) | refine Below.drew ?_ | refine below_drewN ?_ _ | (refine Below.then ?_ (by assumption)) | (refine Below.setRow ?_ ?_ _; rotate_left; (focus (first | exact Nat.lt_succ_self _ | ((repeat rw [World.size_alloc]); omega) | (simp; done) | (simp; omega) | omega))) | (refine Below.setCell ?_ ?_ _; rotate_left; (focus (first | exact Nat.lt_succ_self _ | ((repeat rw [World.size_alloc]); omega) | (simp; done) | (simp; omega) | omega))) | (refine Below.then' ?_ (by assumption) ?_; rotate_left; (focus (first | exact Nat.lt_succ_self _ | ((repeat rw [World.size_alloc]); omega) | (simp; done) | (simp; omega) | omega))) | fail)); (first | done | fail))
  have c0 := fun i => row_cell r0 i
  have HW := Lib.hid (fun W => dwithin_any 6 1 3 W)
  rw [show btw 6 1 3 = false by decide] at HW
  by_cases h : what = 2
  · subst h
    go_enter Try.func135, Try.ntmps135
    go_wp2_with fail
    refine (HW.out _).mono ?_
    rintro e w1 ⟨rfl, rfl⟩
    go_wp2_with fail
    go_ret
    exact ⟨rfl, hB0⟩
  · have e1 : (what == 2) = false := beq_eq_false_iff_ne.2 h
    have HV : Hid (decide (what = 2) = false) := Lib.hid (decide_eq_false h)
    clear h
    go_enter Try.func135, Try.ntmps135
    go_wp2_with fail
    refine (HW.out _).mono ?_
    rintro e w1 ⟨rfl, rfl⟩
    go_wp2_with fail
    go_ret
    exact ⟨by show _ = Ending.returned (.bool (decide (what = 2))); rw [HV.out]; rfl, hB0⟩
/-- The plain law: what sameV says. -/
theorem sameV_yes {d : Ded} (h : sameV d = true) : d.member = 0 ∧ d.epoch = 0 ∧ d.motion = 0 ∧ d.yes = false ∧ d.bits.length = 0 ∧ (d.what ≠ 2 → d.dest = 0 ∧ d.amount = 0) ∧ (d.what ≠ 1 → d.par = zeroP) := by
  unfold sameV same6 at h
  simp only [Bool.and_eq_true, decide_eq_true_eq, Bool.not_eq_true'] at h
  obtain ⟨h1, h2, h3, h4, h5, h6, h7, h8⟩ := h
  refine ⟨h1, h4, h6, h7, h8, fun hw => ?_, fun hw => ?_⟩
  · unfold bareD at h2 h3
    simp only [if_neg hw] at h2 h3
    exact ⟨h2, h3⟩
  · unfold bareD parEq at h5
    simp only [if_neg hw, decide_eq_true_eq] at h5
    exact h5
theorem sameV_no {d : Ded} (h : sameV d = false) : rightD d = false := by
  refine decide_eq_false fun ⟨_, _, h1, h2, h3, h4, h5, _, _, _, h6, _, h7⟩ => ?_
  have : sameV d = true := by
    unfold sameV same6
    simp only [Bool.and_eq_true, decide_eq_true_eq, Bool.not_eq_true']
    refine ⟨h1, ?_, ?_, h2, ?_, h4, h5, h3⟩
    · unfold bareD
      by_cases hw : d.what = 2
      · simp only [if_pos hw]
      · simp only [if_neg hw]; exact (h6 hw).1
    · unfold bareD
      by_cases hw : d.what = 2
      · simp only [if_pos hw]
      · simp only [if_neg hw]; exact (h6 hw).2
    · unfold bareD parEq
      by_cases hw : d.what = 1
      · simp only [if_pos hw]; simp
      · simp only [if_neg hw]; exact decide_eq_true (h7 hw)
  rw [h] at this; cases this
theorem ded_quietO {C : World → Prop} {o : Oper} {x : Operand} (ho : o.op = .load 79 x) {a : Act} {w : World} {g : Nat} {d : Ded × DedA}
    (h1 : a.eval x = .pointer (some ⟨g, 0, none⟩)) (h2 : row w g = some (dedC d)) : Oper.quietAt Try.prog o a C w (.agg (dedC d)) := by
  obtain ⟨ds, op, ty, pos, af, gd⟩ := o
  have ho' : op = .load 79 x := ho
  subst ho'
  have := ded_quiet (C := C) (dst := ds) (ty := ty) (pos := pos) (after := af) (gd := gd) h1 h2 (dedC_room d)
  rwa [dedC_ext] at this
set_option maxRecDepth 100000 in
set_option maxHeartbeats 16000000 in
theorem dright6_any (d : Ded) (a : DedA) (hk : d.kind = 6) (w : World) : Calls Try.prog 82 #[.agg (dedC (d, a))] w fun e w' => e = .returned (.bool (rightD d)) ∧ Below w.heap.size w w' := by
  have HBare := Lib.hid (fun W => bare6_any d a hk W)
  have HPaid := Lib.hid (fun W => paid6_any d a hk W)
  have HNo := Lib.hid (fun h => sameV_no (d := d) h)
  have HYes := Lib.hid (fun h => sameV_yes (d := d) h)
  have HSame : Hid (∀ W, Calls Try.prog 133 #[.agg (dedC (d, a)), .agg (dedC (bareD d, DedA.nil))] W fun e w' => e = .returned (.bool (sameV d)) ∧ Below W.heap.size W w') := Lib.hid fun W => by
    have := same6_any d.account d.member d.dest (bareD d).dest d.amount (bareD d).amount d.epoch d.bits d.what d.par (bareD d).par d.motion d.yes a W
    rw [show (⟨6, d.account, d.member, d.dest, d.amount, d.epoch, d.bits, d.what, d.par, d.motion, d.yes⟩ : Ded) = d by rw [← hk]] at this
    exact this
  have HCk := Lib.hid (fun W => check_any d.par W)
  generalize hsv : sameV d = sv at *
  generalize bareD d = bd at *
  have HSV := Lib.hid hsv
  obtain ⟨kind, account, member, dest, amount, epoch, bits, what, par, motion, yes⟩ := d
  have hk : kind = 6 := hk
  subst hk
  have r0 : row (w.alloc (.cells (dedC (⟨6, account, member, dest, amount, epoch, bits, what, par, motion, yes⟩, a)) 79)) w.heap.size = some (dedC (⟨6, account, member, dest, amount, epoch, bits, what, par, motion, yes⟩, a)) := (by (repeat (first | assumption | (refine row_at _ _ _ _ ?_; first | rfl | (simp only [World.size_alloc]; done) | (simp only [World.size_alloc]; omega)) | (refine (row_past _ _ _ ?_).trans ?_; (focus (first | exact Nat.lt_succ_self _ | ((repeat rw [World.size_alloc]); omega) | (simp; done) | (simp; omega) | omega))) | rw [row_drewN] | rw [row_drew])); (first | done | fail))
  have hB0 : Below w.heap.size w (w.alloc (.cells (dedC (⟨6, account, member, dest, amount, epoch, bits, what, par, motion, yes⟩, a)) 79)) := (by (repeat (first | exact Below.refl _ _ | assumption | (refine Below.allocT ?_ _) | refine Below.drew ?_ | refine below_drewN ?_ _ | (refine Below.then ?_ (by assumption)) | (refine Below.setRow ?_ ?_ _; rotate_left; (focus (first | exact Nat.lt_succ_self _ | ((repeat rw [World.size_alloc]); omega) | (simp; done) | (simp; omega) | omega))) | (refine Below.setCell ?_ ?_ _; rotate_left; (focus (first | exact Nat.lt_succ_self _ | ((repeat rw [World.size_alloc]); omega) | (simp; done) | (simp; omega) | omega))) | (refine Below.then' ?_ (by assumption) ?_; rotate_left; (focus (first | exact Nat.lt_succ_self _ | ((repeat rw [World.size_alloc]); omega) | (simp; done) | (simp; omega) | omega))) | fail)); (first | done | fail))
  have HW := Lib.hid (fun n lo hi W => dwithin_any n lo hi W)
  have HW6 := Lib.hid (fun W => dwithin_any 6 1 7 W)
  rw [show btw 6 1 7 = true by decide] at HW6
  clear hsv
  go_enter Try.func82, Try.ntmps82
  go_upto_region 1 with fail
  generalize w.alloc (.cells (dedC (⟨6, account, member, dest, amount, epoch, bits, what, par, motion, yes⟩, a)) 79) = w0 at *
  have HM : Hid (∀ w', Below w0.heap.size w0 w' → row w' w.heap.size = some (dedC (⟨6, account, member, dest, amount, epoch, bits, what, par, motion, yes⟩, a)) ∧ w'.cell? ⟨w.heap.size, 0, none⟩ = some (.int .i64 6)) := Lib.hid fun w' h => ⟨(row_below h (row_lt r0)).trans r0, row_cell ((row_below h (row_lt r0)).trans r0) 0⟩
  have HB0 := Lib.hid hB0
  clear r0 hB0
  (refine wp_region_calm (by kernel_rfl) (by kernel_rfl) ?_; (repeat (first | go_big_quiet_skip | (go_big_quiet_want; apply calm_val; (focus (intro w' hb'; obtain ⟨q1, q2⟩ := HM.out w' hb'; first | exact ded_quietO rfl rfl q1 | (unfold Oper.quietAt; go_simp; first | rfl | (go_at_call 132; exact calm_call hb' (same_below (HW6.out _))) | (go_at_call 134; exact calm_call hb' (HBare.out _)) | (go_at_call 133; exact calm_call hb' (HSame.out _))))); (try simp only [Act.put, List.setIfInBounds_toArray, List.set_cons_zero, List.set_cons_succ]); go_big_quiet_on))); refine wpQuiet_nil ?_; intro w' hb')
  cases sv
  · have HV := Lib.hid (HNo.out rfl)
    go_wp2_with fail
    go_ret
    exact ⟨by rw [HV.out]; rfl, Below.then HB0.out hb'⟩
  obtain ⟨y1, y2, y3, y4, y5, y6, y7⟩ := HYes.out rfl
  replace y1 : member = 0 := y1
  replace y2 : epoch = 0 := y2
  replace y3 : motion = 0 := y3
  replace y4 : yes = false := y4
  have y5 : bits.length = 0 := y5
  have y5' := List.eq_nil_of_length_eq_zero y5
  replace y6 : what ≠ 2 → dest = 0 ∧ amount = 0 := y6
  replace y7 : what ≠ 1 → par = zeroP := y7
  subst y1 y2 y3 y4
  clear y5
  subst y5'
  have HY6 := Lib.hid y6
  have HY7 := Lib.hid y7
  have HRt : Hid (∀ b : Bool, (0 ≤ account ∧ account ≤ 63 ∧ 1 ≤ what ∧ what ≤ 4 ∧ (what = 2 → 0 ≤ dest ∧ dest ≤ 63 ∧ 0 < amount ∧ amount ≤ 4611686018427387904) ∧ (what = 1 → rightB par = true) ↔ b = true) → rightD (⟨6, account, 0, dest, amount, 0, [], what, par, 0, false⟩ : Ded) = b) := Lib.hid fun b h => by
    unfold rightD
    rw [Bool.eq_iff_iff, decide_eq_true_eq, ← h]
    constructor
    · rintro ⟨a1, a2, _, _, _, _, _, a3, a4, a5, _, a6, _⟩; exact ⟨a1, a2, a3, a4, a5, a6⟩
    · rintro ⟨a1, a2, a3, a4, a5, a6⟩; exact ⟨a1, a2, rfl, rfl, rfl, rfl, rfl, a3, a4, a5, HY6.out, a6, HY7.out⟩
  have rr := (HM.out w' hb').1
  have cc := fun i => row_cell rr i
  have HRr := Lib.hid rr
  have HBw := Lib.hid (Below.then HB0.out hb')
  have t127 : btw 0 0 127 = true := by decide
  have t31 : btw 0 0 31 = true := by decide
  have HW0 := Lib.hid (fun W => dwithin_any 0 0 127 W)
  rw [t127] at HW0
  have HW1 := Lib.hid (fun W => dwithin_any 0 0 31 W)
  rw [t31] at HW1
  have HWe := Lib.hid (fun W => dwithin_any 0 0 1073741824 W)
  rw [show btw 0 0 1073741824 = true by decide] at HWe
  clear HM y6 y7 HNo HYes HBare HSame hb' rr
  obtain ⟨w1, hw1⟩ : ∃ x, x = w' := ⟨_, rfl⟩
  by_cases ha : 0 ≤ account ∧ account ≤ 63
  rotate_left
  · have HA := Lib.hid (fun W => dwithin_any account 0 63 W)
    rw [show btw account 0 63 = false from decide_eq_false ha] at HA
    have HV := Lib.hid (HRt.out false ⟨fun h => absurd ⟨h.1, h.2.1⟩ ha, fun h => by cases h⟩)
    clear ha
    go_wp2_with fail
    refine (HA.out _).mono ?_
    rintro e w2 ⟨rfl, rfl⟩
    go_wp2_with fail
    go_ret
    exact ⟨by rw [HV.out]; rfl, HBw.out⟩
  have HA := Lib.hid (fun W => dwithin_any account 0 63 W)
  rw [show btw account 0 63 = true from decide_eq_true ha] at HA
  have HAc := Lib.hid ha
  clear ha
  by_cases hd : 0 ≤ dest ∧ dest ≤ 63
  rotate_left
  · have HD := Lib.hid (fun W => dwithin_any dest 0 63 W)
    rw [show btw dest 0 63 = false from decide_eq_false hd] at HD
    have HV := Lib.hid (HRt.out false ⟨fun h => by
      by_cases h2 : what = 2
      · exact absurd ⟨(h.2.2.2.2.1 h2).1, (h.2.2.2.2.1 h2).2.1⟩ hd
      · exact absurd (by rw [(HY6.out h2).1]; decide) hd, fun h => by cases h⟩)
    clear hd
    go_wp2_with fail
    refine (HA.out _).mono ?_
    rintro e w2 ⟨rfl, rfl⟩
    go_wp2_with fail
    refine (HD.out _).mono ?_
    rintro e w2 ⟨rfl, rfl⟩
    go_wp2_with fail
    go_ret
    exact ⟨by rw [HV.out]; rfl, HBw.out⟩
  have HD := Lib.hid (fun W => dwithin_any dest 0 63 W)
  rw [show btw dest 0 63 = true from decide_eq_true hd] at HD
  have HDs := Lib.hid hd
  clear hd
  go_wp2_with fail
  refine (HA.out _).mono ?_
  rintro e w2 ⟨rfl, rfl⟩
  go_wp2_with fail
  refine (HD.out _).mono ?_
  rintro e w2 ⟨rfl, rfl⟩
  go_wp2_with fail
  refine (HW0.out _).mono ?_
  rintro e w2 ⟨rfl, rfl⟩
  go_wp2_with fail
  refine (HW1.out _).mono ?_
  rintro e w2 ⟨rfl, rfl⟩
  clear hw1 cc HA HD HW0 HW1 t127 t31
  go_upto_region 5 with fail
  have HM2 : Hid (∀ W, Below w'.heap.size w' W → row W w.heap.size = some (dedC ((⟨6, account, 0, dest, amount, 0, [], what, par, 0, false⟩ : Ded), a)) ∧ W.cell? ⟨w.heap.size, 4, none⟩ = some (.int .u64 (amount : Int)) ∧ W.cell? ⟨w.heap.size, 5, none⟩ = some (.int .i64 0) ∧ W.cell? ⟨w.heap.size, 6, none⟩ = some (.slice a.a 0 a.c)) := Lib.hid fun W h =>
    have hr := (row_below h (row_lt HRr.out)).trans HRr.out
    ⟨hr, row_cell hr 4, row_cell hr 5, row_cell hr 6⟩
  obtain ⟨wb, hwb⟩ : ∃ x, x = w' := ⟨_, rfl⟩
  rw [← hwb] at HM2 HBw HRr ⊢
  clear hwb w'
  by_cases h2 : what = 2
  · subst h2
    have HPd : Hid (∀ W, Calls Try.prog 135 #[.agg (dedC ((⟨6, account, 0, dest, amount, 0, [], 2, par, 0, false⟩ : Ded), a))] W fun e w' => e = .returned (.bool true) ∧ Below W.heap.size W w') := Lib.hid fun W => HPaid.out W
    clear HPaid
    by_cases h3 : amount = 0
    · subst h3
      have HV := Lib.hid (HRt.out false ⟨fun h => absurd (h.2.2.2.2.1 rfl).2.2.1 (Nat.lt_irrefl 0), fun h => by cases h⟩)
      (refine wp_region_calm (by kernel_rfl) (by kernel_rfl) ?_; (repeat (first | go_big_quiet_skip | (go_big_quiet_want; apply calm_val; (focus (intro w' hb'; obtain ⟨q1, q4, q5, q6⟩ := HM2.out w' hb'; first | exact ded_quietO rfl rfl q1 | (unfold Oper.quietAt; go_simp; first | rfl | (go_at_call 132; exact calm_call hb' (same_below (HWe.out _))) | (go_at_call 135; exact calm_call hb' (HPd.out _))))); (try simp only [Act.put, List.setIfInBounds_toArray, List.set_cons_zero, List.set_cons_succ]); go_big_quiet_on))); refine wpQuiet_nil ?_; intro w' hb')
      go_wp2_with fail
      go_ret
      exact ⟨by rw [HV.out]; rfl, Below.then HBw.out hb'⟩
    by_cases h4 : 4611686018427387904 < amount
    · have HV := Lib.hid (HRt.out false ⟨fun h => absurd (h.2.2.2.2.1 rfl).2.2.2 (by omega), fun h => by cases h⟩)
      have e1 : (0 : Int) < (amount : Int) := by omega
      have e1' : 0 < amount := by omega
      have e2 : (4611686018427387904 : Int) < (amount : Int) := by omega
      clear h3 h4
      (refine wp_region_calm (by kernel_rfl) (by kernel_rfl) ?_; (repeat (first | go_big_quiet_skip | (go_big_quiet_want; apply calm_val; (focus (intro w' hb'; obtain ⟨q1, q4, q5, q6⟩ := HM2.out w' hb'; first | exact ded_quietO rfl rfl q1 | (unfold Oper.quietAt; go_simp; first | rfl | (go_at_call 132; exact calm_call hb' (same_below (HWe.out _))) | (go_at_call 135; exact calm_call hb' (HPd.out _))))); (try simp only [Act.put, List.setIfInBounds_toArray, List.set_cons_zero, List.set_cons_succ]); go_big_quiet_on))); refine wpQuiet_nil ?_; intro w' hb')
      go_wp2_with fail
      go_ret
      exact ⟨by rw [HV.out]; rfl, Below.then HBw.out hb'⟩
    have HV := Lib.hid (HRt.out true ⟨fun _ => rfl, fun _ => ⟨HAc.out.1, HAc.out.2, by omega, by omega, fun _ => ⟨HDs.out.1, HDs.out.2, by omega, by omega⟩, fun h => by omega⟩⟩)
    have e1 : (0 : Int) < (amount : Int) := by omega
    have e1' : 0 < amount := by omega
    have e2 : ¬ (4611686018427387904 : Int) < (amount : Int) := by omega
    have HWw := Lib.hid (fun W => dwithin_any 2 1 4 W)
    rw [show btw 2 1 4 = true by decide] at HWw
    clear h3 h4
    (refine wp_region_calm (by kernel_rfl) (by kernel_rfl) ?_; (repeat (first | go_big_quiet_skip | (go_big_quiet_want; apply calm_val; (focus (intro w' hb'; obtain ⟨q1, q4, q5, q6⟩ := HM2.out w' hb'; first | exact ded_quietO rfl rfl q1 | (unfold Oper.quietAt; go_simp; first | rfl | (go_at_call 132; exact calm_call hb' (same_below (HWe.out _))) | (go_at_call 135; exact calm_call hb' (HPd.out _))))); (try simp only [Act.put, List.setIfInBounds_toArray, List.set_cons_zero, List.set_cons_succ]); go_big_quiet_on))); refine wpQuiet_nil ?_; intro w' hb')
    have cc := fun i => row_cell (HM2.out w' hb').1 i
    go_wp2_with fail
    refine (HWw.out _).mono ?_
    rintro e w3 ⟨rfl, rfl⟩
    go_wp2_with fail
    go_ret
    exact ⟨by rw [HV.out]; rfl, Below.then HBw.out hb'⟩
  obtain ⟨y8, y9⟩ := HY6.out h2
  subst y8 y9
  have ef : decide (what = 2) = false := decide_eq_false h2
  have HPd : Hid (∀ W, Calls Try.prog 135 #[.agg (dedC ((⟨6, account, 0, 0, 0, 0, [], what, par, 0, false⟩ : Ded), a))] W fun e w' => e = .returned (.bool false) ∧ Below W.heap.size W w') := Lib.hid fun W => by
    have := HPaid.out W
    rwa [ef] at this
  clear HPaid ef
  have HWw := Lib.hid (fun W => dwithin_any what 1 4 W)
  by_cases h5 : 1 ≤ what ∧ what ≤ 4
  · rw [show btw what 1 4 = true from decide_eq_true h5] at HWw
    by_cases h6 : what = 1
    · subst h6
      have HV := Lib.hid (HRt.out (rightB par) ⟨fun h => h.2.2.2.2.2 rfl, fun h => ⟨HAc.out.1, HAc.out.2, by omega, by omega, fun h => by omega, fun _ => h⟩⟩)
      have hck : checkE par = if rightB par then 0 else 70 := rfl
      clear h2 h5
      (refine wp_region_calm (by kernel_rfl) (by kernel_rfl) ?_; (repeat (first | go_big_quiet_skip | (go_big_quiet_want; apply calm_val; (focus (intro w' hb'; obtain ⟨q1, q4, q5, q6⟩ := HM2.out w' hb'; first | exact ded_quietO rfl rfl q1 | (unfold Oper.quietAt; go_simp; first | rfl | (go_at_call 132; exact calm_call hb' (same_below (HWe.out _))) | (go_at_call 135; exact calm_call hb' (HPd.out _))))); (try simp only [Act.put, List.setIfInBounds_toArray, List.set_cons_zero, List.set_cons_succ]); go_big_quiet_on))); refine wpQuiet_nil ?_; intro w' hb')
      have cc := fun i => row_cell (HM2.out w' hb').1 i
      have rr := (HM2.out w' hb').1
      go_wp2_with fail
      refine (HWw.out _).mono ?_
      rintro e w3 ⟨rfl, rfl⟩
      go_wp2_with fail
      refine (HCk.out _).mono ?_
      rintro e w3 ⟨rfl, hb3⟩
      have HB3 := Lib.hid (Below.then (Below.then HBw.out hb') hb3)
      rw [hck]
      cases hr : rightB par
      · rw [hr] at HV
        go_wp2_with fail
        go_ret
        exact ⟨by rw [HV.out]; rfl, HB3.out⟩
      · rw [hr] at HV
        go_wp2_with fail
        go_ret
        exact ⟨by rw [HV.out]; rfl, HB3.out⟩
    · have HV := Lib.hid (HRt.out true ⟨fun _ => rfl, fun _ => ⟨HAc.out.1, HAc.out.2, h5.1, h5.2, fun h => absurd h h2, fun h => absurd h h6⟩⟩)
      have e1 : (what != 1) = true := bne_iff_ne.2 h6
      clear h2 h5 h6
      (refine wp_region_calm (by kernel_rfl) (by kernel_rfl) ?_; (repeat (first | go_big_quiet_skip | (go_big_quiet_want; apply calm_val; (focus (intro w' hb'; obtain ⟨q1, q4, q5, q6⟩ := HM2.out w' hb'; first | exact ded_quietO rfl rfl q1 | (unfold Oper.quietAt; go_simp; first | rfl | (go_at_call 132; exact calm_call hb' (same_below (HWe.out _))) | (go_at_call 135; exact calm_call hb' (HPd.out _))))); (try simp only [Act.put, List.setIfInBounds_toArray, List.set_cons_zero, List.set_cons_succ]); go_big_quiet_on))); refine wpQuiet_nil ?_; intro w' hb')
      have cc := fun i => row_cell (HM2.out w' hb').1 i
      go_wp2_with fail
      refine (HWw.out _).mono ?_
      rintro e w3 ⟨rfl, rfl⟩
      go_wp2_with fail
      go_ret
      exact ⟨by rw [HV.out]; rfl, Below.then HBw.out hb'⟩
  · rw [show btw what 1 4 = false from decide_eq_false h5] at HWw
    have HV := Lib.hid (HRt.out false ⟨fun h => absurd ⟨h.2.2.1, h.2.2.2.1⟩ h5, fun h => by cases h⟩)
    clear h2 h5
    (refine wp_region_calm (by kernel_rfl) (by kernel_rfl) ?_; (repeat (first | go_big_quiet_skip | (go_big_quiet_want; apply calm_val; (focus (intro w' hb'; obtain ⟨q1, q4, q5, q6⟩ := HM2.out w' hb'; first | exact ded_quietO rfl rfl q1 | (unfold Oper.quietAt; go_simp; first | rfl | (go_at_call 132; exact calm_call hb' (same_below (HWe.out _))) | (go_at_call 135; exact calm_call hb' (HPd.out _))))); (try simp only [Act.put, List.setIfInBounds_toArray, List.set_cons_zero, List.set_cons_succ]); go_big_quiet_on))); refine wpQuiet_nil ?_; intro w' hb')
    have cc := fun i => row_cell (HM2.out w' hb').1 i
    go_wp2_with fail
    refine (HWw.out _).mono ?_
    rintro e w3 ⟨rfl, rfl⟩
    go_wp2_with fail
    go_ret
    exact ⟨by rw [HV.out]; rfl, Below.then HBw.out hb'⟩
end Go.Proofs.Ytnakkjgnjffkpaa

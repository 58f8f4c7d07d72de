/-
  Deeds that move a motion, in the reference: uses and Right; a deed as the document has it.
-/
import Derived.Test.YtnakkjgnjffkpaaDed2
namespace Go.Proofs.Ytnakkjgnjffkpaa
open Go.RowKit
set_option linter.unusedVariables false

theorem rded_quietO {C : World → Prop} {o : Oper} {x : Operand} (ho : o.op = .load 92 x) {a : Act} {w : World} {g : Nat} {d : Ded × DedA}
    (h1 : a.eval x = .pointer (some ⟨g, 0, none⟩)) (h2 : row w g = some (dedC d)) : Oper.quietAt Try.prog o a C w (.agg (dedC d)) := by
  obtain ⟨ds, op, ty, pos, af, gd⟩ := o
  have ho' : op = .load 92 x := ho
  subst ho'
  have := rded_quiet (C := C) (dst := ds) (ty := ty) (pos := pos) (after := af) (gd := gd) h1 h2 (dedC_room d)
  rwa [dedC_ext] at this
set_option maxRecDepth 100000 in
theorem uses6_1 (account member dest : Int) (amount : Nat) (epoch : Int) (bits : List Nat) (what : Int) (par : Par) (motion : Int) (yes : Bool) (a : DedA) (w : World) :
    Calls Try.prog 138 #[.agg (dedC ((⟨6, account, member, dest, amount, epoch, bits, what, par, motion, yes⟩ : Ded), a)), .int .i64 1] w fun e w' => e = .returned (.bool true) ∧ Below w.heap.size w w' := by
  have r0 : row (w.alloc (.cells (dedC ((⟨6, account, member, dest, amount, epoch, bits, what, par, motion, yes⟩ : Ded), a)) 92)) w.heap.size = some (dedC ((⟨6, account, member, dest, amount, epoch, bits, what, par, motion, yes⟩ : Ded), a)) := (by (repeat (first | assumption | (refine row_at _ _ _ _ ?_; first | rfl | (simp only [World.size_alloc]; done) | (simp only [World.size_alloc]; omega)) | (refine (row_past _ _ _ ?_).trans ?_; (focus (first | exact Nat.lt_succ_self _ | ((repeat rw [World.size_alloc]); omega) | (simp; done) | (simp; omega) | omega))) | rw [row_drewN] | rw [row_drew])); (first | done | fail))
  have hB0 : Below w.heap.size w (w.alloc (.cells (dedC ((⟨6, account, member, dest, amount, epoch, bits, what, par, motion, yes⟩ : Ded), a)) 92)) := (by (repeat (first | exact Below.refl _ _ | assumption | (refine Below.allocT ?_ _) | refine Below.drew ?_ | refine below_drewN ?_ _ | (refine Below.then ?_ (by assumption)) | (refine Below.setRow ?_ ?_ _; rotate_left; (focus (first | exact Nat.lt_succ_self _ | ((repeat rw [World.size_alloc]); omega) | (simp; done) | (simp; omega) | omega))) | (refine Below.setCell ?_ ?_ _; rotate_left; (focus (first | exact Nat.lt_succ_self _ | ((repeat rw [World.size_alloc]); omega) | (simp; done) | (simp; omega) | omega))) | (refine Below.then' ?_ (by assumption) ?_; rotate_left; (focus (first | exact Nat.lt_succ_self _ | ((repeat rw [World.size_alloc]); omega) | (simp; done) | (simp; omega) | omega))) | fail)); (first | done | fail))
  have c0 : (w.alloc (.cells (dedC ((⟨6, account, member, dest, amount, epoch, bits, what, par, motion, yes⟩ : Ded), a)) 92)).cell? ⟨w.heap.size, 0, none⟩ = some (.int .i64 6) := row_cell r0 0
  have c7 : (w.alloc (.cells (dedC ((⟨6, account, member, dest, amount, epoch, bits, what, par, motion, yes⟩ : Ded), a)) 92)).cell? ⟨w.heap.size, 7, none⟩ = some (.int .i64 what) := row_cell r0 7
  have HB := Lib.hid hB0
  clear r0 hB0
  by_cases h1 : what = 1
  · subst h1
    go_enter Try.func138, Try.ntmps138
    go_wp2_with fail
    go_ret
    exact ⟨rfl, HB.out⟩
  by_cases h2 : what = 2
  · subst h2
    go_enter Try.func138, Try.ntmps138
    go_wp2_with fail
    go_ret
    exact ⟨rfl, HB.out⟩
  have e1 : (what == 1) = false := beq_eq_false_iff_ne.2 h1
  have e2 : (what == 2) = false := beq_eq_false_iff_ne.2 h2
  have HV : Hid (decide (what = 1) = false ∧ decide (what = 2) = false) := Lib.hid ⟨decide_eq_false h1, decide_eq_false h2⟩
  clear h1 h2
  go_enter Try.func138, Try.ntmps138
  go_wp2_with fail
  go_ret
  exact ⟨by first | rfl | (rw [HV.out.1]; rfl) | (rw [HV.out.2]; rfl), HB.out⟩
set_option maxRecDepth 100000 in
theorem uses6_2 (account member dest : Int) (amount : Nat) (epoch : Int) (bits : List Nat) (what : Int) (par : Par) (motion : Int) (yes : Bool) (a : DedA) (w : World) :
    Calls Try.prog 138 #[.agg (dedC ((⟨6, account, member, dest, amount, epoch, bits, what, par, motion, yes⟩ : Ded), a)), .int .i64 2] w fun e w' => e = .returned (.bool false) ∧ Below w.heap.size w w' := by
  have r0 : row (w.alloc (.cells (dedC ((⟨6, account, member, dest, amount, epoch, bits, what, par, motion, yes⟩ : Ded), a)) 92)) w.heap.size = some (dedC ((⟨6, account, member, dest, amount, epoch, bits, what, par, motion, yes⟩ : Ded), a)) := (by (repeat (first | assumption | (refine row_at _ _ _ _ ?_; first | rfl | (simp only [World.size_alloc]; done) | (simp only [World.size_alloc]; omega)) | (refine (row_past _ _ _ ?_).trans ?_; (focus (first | exact Nat.lt_succ_self _ | ((repeat rw [World.size_alloc]); omega) | (simp; done) | (simp; omega) | omega))) | rw [row_drewN] | rw [row_drew])); (first | done | fail))
  have hB0 : Below w.heap.size w (w.alloc (.cells (dedC ((⟨6, account, member, dest, amount, epoch, bits, what, par, motion, yes⟩ : Ded), a)) 92)) := (by (repeat (first | exact Below.refl _ _ | assumption | (refine Below.allocT ?_ _) | refine Below.drew ?_ | refine below_drewN ?_ _ | (refine Below.then ?_ (by assumption)) | (refine Below.setRow ?_ ?_ _; rotate_left; (focus (first | exact Nat.lt_succ_self _ | ((repeat rw [World.size_alloc]); omega) | (simp; done) | (simp; omega) | omega))) | (refine Below.setCell ?_ ?_ _; rotate_left; (focus (first | exact Nat.lt_succ_self _ | ((repeat rw [World.size_alloc]); omega) | (simp; done) | (simp; omega) | omega))) | (refine Below.then' ?_ (by assumption) ?_; rotate_left; (focus (first | exact Nat.lt_succ_self _ | ((repeat rw [World.size_alloc]); omega) | (simp; done) | (simp; omega) | omega))) | fail)); (first | done | fail))
  have c0 : (w.alloc (.cells (dedC ((⟨6, account, member, dest, amount, epoch, bits, what, par, motion, yes⟩ : Ded), a)) 92)).cell? ⟨w.heap.size, 0, none⟩ = some (.int .i64 6) := row_cell r0 0
  have c7 : (w.alloc (.cells (dedC ((⟨6, account, member, dest, amount, epoch, bits, what, par, motion, yes⟩ : Ded), a)) 92)).cell? ⟨w.heap.size, 7, none⟩ = some (.int .i64 what) := row_cell r0 7
  have HB := Lib.hid hB0
  clear r0 hB0
  by_cases h1 : what = 1
  · subst h1
    go_enter Try.func138, Try.ntmps138
    go_wp2_with fail
    go_ret
    exact ⟨rfl, HB.out⟩
  by_cases h2 : what = 2
  · subst h2
    go_enter Try.func138, Try.ntmps138
    go_wp2_with fail
    go_ret
    exact ⟨rfl, HB.out⟩
  have e1 : (what == 1) = false := beq_eq_false_iff_ne.2 h1
  have e2 : (what == 2) = false := beq_eq_false_iff_ne.2 h2
  have HV : Hid (decide (what = 1) = false ∧ decide (what = 2) = false) := Lib.hid ⟨decide_eq_false h1, decide_eq_false h2⟩
  clear h1 h2
  go_enter Try.func138, Try.ntmps138
  go_wp2_with fail
  go_ret
  exact ⟨by first | rfl | (rw [HV.out.1]; rfl) | (rw [HV.out.2]; rfl), HB.out⟩
set_option maxRecDepth 100000 in
theorem uses6_3 (account member dest : Int) (amount : Nat) (epoch : Int) (bits : List Nat) (what : Int) (par : Par) (motion : Int) (yes : Bool) (a : DedA) (w : World) :
    Calls Try.prog 138 #[.agg (dedC ((⟨6, account, member, dest, amount, epoch, bits, what, par, motion, yes⟩ : Ded), a)), .int .i64 3] w fun e w' => e = .returned (.bool (decide (what = 2))) ∧ Below w.heap.size w w' := by
  have r0 : row (w.alloc (.cells (dedC ((⟨6, account, member, dest, amount, epoch, bits, what, par, motion, yes⟩ : Ded), a)) 92)) w.heap.size = some (dedC ((⟨6, account, member, dest, amount, epoch, bits, what, par, motion, yes⟩ : Ded), a)) := (by (repeat (first | assumption | (refine row_at _ _ _ _ ?_; first | rfl | (simp only [World.size_alloc]; done) | (simp only [World.size_alloc]; omega)) | (refine (row_past _ _ _ ?_).trans ?_; (focus (first | exact Nat.lt_succ_self _ | ((repeat rw [World.size_alloc]); omega) | (simp; done) | (simp; omega) | omega))) | rw [row_drewN] | rw [row_drew])); (first | done | fail))
  have hB0 : Below w.heap.size w (w.alloc (.cells (dedC ((⟨6, account, member, dest, amount, epoch, bits, what, par, motion, yes⟩ : Ded), a)) 92)) := (by (repeat (first | exact Below.refl _ _ | assumption | (refine Below.allocT ?_ _) | refine Below.drew ?_ | refine below_drewN ?_ _ | (refine Below.then ?_ (by assumption)) | (refine Below.setRow ?_ ?_ _; rotate_left; (focus (first | exact Nat.lt_succ_self _ | ((repeat rw [World.size_alloc]); omega) | (simp; done) | (simp; omega) | omega))) | (refine Below.setCell ?_ ?_ _; rotate_left; (focus (first | exact Nat.lt_succ_self _ | ((repeat rw [World.size_alloc]); omega) | (simp; done) | (simp; omega) | omega))) | (refine Below.then' ?_ (by assumption) ?_; rotate_left; (focus (first | exact Nat.lt_succ_self _ | ((repeat rw [World.size_alloc]); omega) | (simp; done) | (simp; omega) | omega))) | fail)); (first | done | fail))
  have c0 : (w.alloc (.cells (dedC ((⟨6, account, member, dest, amount, epoch, bits, what, par, motion, yes⟩ : Ded), a)) 92)).cell? ⟨w.heap.size, 0, none⟩ = some (.int .i64 6) := row_cell r0 0
  have c7 : (w.alloc (.cells (dedC ((⟨6, account, member, dest, amount, epoch, bits, what, par, motion, yes⟩ : Ded), a)) 92)).cell? ⟨w.heap.size, 7, none⟩ = some (.int .i64 what) := row_cell r0 7
  have HB := Lib.hid hB0
  clear r0 hB0
  by_cases h1 : what = 1
  · subst h1
    go_enter Try.func138, Try.ntmps138
    go_wp2_with fail
    go_ret
    exact ⟨rfl, HB.out⟩
  by_cases h2 : what = 2
  · subst h2
    go_enter Try.func138, Try.ntmps138
    go_wp2_with fail
    go_ret
    exact ⟨rfl, HB.out⟩
  have e1 : (what == 1) = false := beq_eq_false_iff_ne.2 h1
  have e2 : (what == 2) = false := beq_eq_false_iff_ne.2 h2
  have HV : Hid (decide (what = 1) = false ∧ decide (what = 2) = false) := Lib.hid ⟨decide_eq_false h1, decide_eq_false h2⟩
  clear h1 h2
  go_enter Try.func138, Try.ntmps138
  go_wp2_with fail
  go_ret
  exact ⟨by first | rfl | (rw [HV.out.1]; rfl) | (rw [HV.out.2]; rfl), HB.out⟩
set_option maxRecDepth 100000 in
theorem uses6_4 (account member dest : Int) (amount : Nat) (epoch : Int) (bits : List Nat) (what : Int) (par : Par) (motion : Int) (yes : Bool) (a : DedA) (w : World) :
    Calls Try.prog 138 #[.agg (dedC ((⟨6, account, member, dest, amount, epoch, bits, what, par, motion, yes⟩ : Ded), a)), .int .i64 4] w fun e w' => e = .returned (.bool (decide (what = 2))) ∧ Below w.heap.size w w' := by
  have r0 : row (w.alloc (.cells (dedC ((⟨6, account, member, dest, amount, epoch, bits, what, par, motion, yes⟩ : Ded), a)) 92)) w.heap.size = some (dedC ((⟨6, account, member, dest, amount, epoch, bits, what, par, motion, yes⟩ : Ded), a)) := (by (repeat (first | assumption | (refine row_at _ _ _ _ ?_; first | rfl | (simp only [World.size_alloc]; done) | (simp only [World.size_alloc]; omega)) | (refine (row_past _ _ _ ?_).trans ?_; (focus (first | exact Nat.lt_succ_self _ | ((repeat rw [World.size_alloc]); omega) | (simp; done) | (simp; omega) | omega))) | rw [row_drewN] | rw [row_drew])); (first | done | fail))
  have hB0 : Below w.heap.size w (w.alloc (.cells (dedC ((⟨6, account, member, dest, amount, epoch, bits, what, par, motion, yes⟩ : Ded), a)) 92)) := (by (repeat (first | exact Below.refl _ _ | assumption | (refine Below.allocT ?_ _) | refine Below.drew ?_ | refine below_drewN ?_ _ | (refine Below.then ?_ (by assumption)) | (refine Below.setRow ?_ ?_ _; rotate_left; (focus (first | exact Nat.lt_succ_self _ | ((repeat rw [World.size_alloc]); omega) | (simp; done) | (simp; omega) | omega))) | (refine Below.setCell ?_ ?_ _; rotate_left; (focus (first | exact Nat.lt_succ_self _ | ((repeat rw [World.size_alloc]); omega) | (simp; done) | (simp; omega) | omega))) | (refine Below.then' ?_ (by assumption) ?_; rotate_left; (focus (first | exact Nat.lt_succ_self _ | ((repeat rw [World.size_alloc]); omega) | (simp; done) | (simp; omega) | omega))) | fail)); (first | done | fail))
  have c0 : (w.alloc (.cells (dedC ((⟨6, account, member, dest, amount, epoch, bits, what, par, motion, yes⟩ : Ded), a)) 92)).cell? ⟨w.heap.size, 0, none⟩ = some (.int .i64 6) := row_cell r0 0
  have c7 : (w.alloc (.cells (dedC ((⟨6, account, member, dest, amount, epoch, bits, what, par, motion, yes⟩ : Ded), a)) 92)).cell? ⟨w.heap.size, 7, none⟩ = some (.int .i64 what) := row_cell r0 7
  have HB := Lib.hid hB0
  clear r0 hB0
  by_cases h1 : what = 1
  · subst h1
    go_enter Try.func138, Try.ntmps138
    go_wp2_with fail
    go_ret
    exact ⟨rfl, HB.out⟩
  by_cases h2 : what = 2
  · subst h2
    go_enter Try.func138, Try.ntmps138
    go_wp2_with fail
    go_ret
    exact ⟨rfl, HB.out⟩
  have e1 : (what == 1) = false := beq_eq_false_iff_ne.2 h1
  have e2 : (what == 2) = false := beq_eq_false_iff_ne.2 h2
  have HV : Hid (decide (what = 1) = false ∧ decide (what = 2) = false) := Lib.hid ⟨decide_eq_false h1, decide_eq_false h2⟩
  clear h1 h2
  go_enter Try.func138, Try.ntmps138
  go_wp2_with fail
  go_ret
  exact ⟨by first | rfl | (rw [HV.out.1]; rfl) | (rw [HV.out.2]; rfl), HB.out⟩
set_option maxRecDepth 100000 in
theorem uses6_5 (account member dest : Int) (amount : Nat) (epoch : Int) (bits : List Nat) (what : Int) (par : Par) (motion : Int) (yes : Bool) (a : DedA) (w : World) :
    Calls Try.prog 138 #[.agg (dedC ((⟨6, account, member, dest, amount, epoch, bits, what, par, motion, yes⟩ : Ded), a)), .int .i64 5] w fun e w' => e = .returned (.bool false) ∧ Below w.heap.size w w' := by
  have r0 : row (w.alloc (.cells (dedC ((⟨6, account, member, dest, amount, epoch, bits, what, par, motion, yes⟩ : Ded), a)) 92)) w.heap.size = some (dedC ((⟨6, account, member, dest, amount, epoch, bits, what, par, motion, yes⟩ : Ded), a)) := (by (repeat (first | assumption | (refine row_at _ _ _ _ ?_; first | rfl | (simp only [World.size_alloc]; done) | (simp only [World.size_alloc]; omega)) | (refine (row_past _ _ _ ?_).trans ?_; (focus (first | exact Nat.lt_succ_self _ | ((repeat rw [World.size_alloc]); omega) | (simp; done) | (simp; omega) | omega))) | rw [row_drewN] | rw [row_drew])); (first | done | fail))
  have hB0 : Below w.heap.size w (w.alloc (.cells (dedC ((⟨6, account, member, dest, amount, epoch, bits, what, par, motion, yes⟩ : Ded), a)) 92)) := (by (repeat (first | exact Below.refl _ _ | assumption | (refine Below.allocT ?_ _) | refine Below.drew ?_ | refine below_drewN ?_ _ | (refine Below.then ?_ (by assumption)) | (refine Below.setRow ?_ ?_ _; rotate_left; (focus (first | exact Nat.lt_succ_self _ | ((repeat rw [World.size_alloc]); omega) | (simp; done) | (simp; omega) | omega))) | (refine Below.setCell ?_ ?_ _; rotate_left; (focus (first | exact Nat.lt_succ_self _ | ((repeat rw [World.size_alloc]); omega) | (simp; done) | (simp; omega) | omega))) | (refine Below.then' ?_ (by assumption) ?_; rotate_left; (focus (first | exact Nat.lt_succ_self _ | ((repeat rw [World.size_alloc]); omega) | (simp; done) | (simp; omega) | omega))) | fail)); (first | done | fail))
  have c0 : (w.alloc (.cells (dedC ((⟨6, account, member, dest, amount, epoch, bits, what, par, motion, yes⟩ : Ded), a)) 92)).cell? ⟨w.heap.size, 0, none⟩ = some (.int .i64 6) := row_cell r0 0
  have c7 : (w.alloc (.cells (dedC ((⟨6, account, member, dest, amount, epoch, bits, what, par, motion, yes⟩ : Ded), a)) 92)).cell? ⟨w.heap.size, 7, none⟩ = some (.int .i64 what) := row_cell r0 7
  have HB := Lib.hid hB0
  clear r0 hB0
  by_cases h1 : what = 1
  · subst h1
    go_enter Try.func138, Try.ntmps138
    go_wp2_with fail
    go_ret
    exact ⟨rfl, HB.out⟩
  by_cases h2 : what = 2
  · subst h2
    go_enter Try.func138, Try.ntmps138
    go_wp2_with fail
    go_ret
    exact ⟨rfl, HB.out⟩
  have e1 : (what == 1) = false := beq_eq_false_iff_ne.2 h1
  have e2 : (what == 2) = false := beq_eq_false_iff_ne.2 h2
  have HV : Hid (decide (what = 1) = false ∧ decide (what = 2) = false) := Lib.hid ⟨decide_eq_false h1, decide_eq_false h2⟩
  clear h1 h2
  go_enter Try.func138, Try.ntmps138
  go_wp2_with fail
  go_ret
  exact ⟨by first | rfl | (rw [HV.out.1]; rfl) | (rw [HV.out.2]; rfl), HB.out⟩
set_option maxRecDepth 100000 in
theorem uses6_6 (account member dest : Int) (amount : Nat) (epoch : Int) (bits : List Nat) (what : Int) (par : Par) (motion : Int) (yes : Bool) (a : DedA) (w : World) :
    Calls Try.prog 138 #[.agg (dedC ((⟨6, account, member, dest, amount, epoch, bits, what, par, motion, yes⟩ : Ded), a)), .int .i64 6] w fun e w' => e = .returned (.bool true) ∧ Below w.heap.size w w' := by
  have r0 : row (w.alloc (.cells (dedC ((⟨6, account, member, dest, amount, epoch, bits, what, par, motion, yes⟩ : Ded), a)) 92)) w.heap.size = some (dedC ((⟨6, account, member, dest, amount, epoch, bits, what, par, motion, yes⟩ : Ded), a)) := (by (repeat (first | assumption | (refine row_at _ _ _ _ ?_; first | rfl | (simp only [World.size_alloc]; done) | (simp only [World.size_alloc]; omega)) | (refine (row_past _ _ _ ?_).trans ?_; (focus (first | exact Nat.lt_succ_self _ | ((repeat rw [World.size_alloc]); omega) | (simp; done) | (simp; omega) | omega))) | rw [row_drewN] | rw [row_drew])); (first | done | fail))
  have hB0 : Below w.heap.size w (w.alloc (.cells (dedC ((⟨6, account, member, dest, amount, epoch, bits, what, par, motion, yes⟩ : Ded), a)) 92)) := (by (repeat (first | exact Below.refl _ _ | assumption | (refine Below.allocT ?_ _) | refine Below.drew ?_ | refine below_drewN ?_ _ | (refine Below.then ?_ (by assumption)) | (refine Below.setRow ?_ ?_ _; rotate_left; (focus (first | exact Nat.lt_succ_self _ | ((repeat rw [World.size_alloc]); omega) | (simp; done) | (simp; omega) | omega))) | (refine Below.setCell ?_ ?_ _; rotate_left; (focus (first | exact Nat.lt_succ_self _ | ((repeat rw [World.size_alloc]); omega) | (simp; done) | (simp; omega) | omega))) | (refine Below.then' ?_ (by assumption) ?_; rotate_left; (focus (first | exact Nat.lt_succ_self _ | ((repeat rw [World.size_alloc]); omega) | (simp; done) | (simp; omega) | omega))) | fail)); (first | done | fail))
  have c0 : (w.alloc (.cells (dedC ((⟨6, account, member, dest, amount, epoch, bits, what, par, motion, yes⟩ : Ded), a)) 92)).cell? ⟨w.heap.size, 0, none⟩ = some (.int .i64 6) := row_cell r0 0
  have c7 : (w.alloc (.cells (dedC ((⟨6, account, member, dest, amount, epoch, bits, what, par, motion, yes⟩ : Ded), a)) 92)).cell? ⟨w.heap.size, 7, none⟩ = some (.int .i64 what) := row_cell r0 7
  have HB := Lib.hid hB0
  clear r0 hB0
  by_cases h1 : what = 1
  · subst h1
    go_enter Try.func138, Try.ntmps138
    go_wp2_with fail
    go_ret
    exact ⟨rfl, HB.out⟩
  by_cases h2 : what = 2
  · subst h2
    go_enter Try.func138, Try.ntmps138
    go_wp2_with fail
    go_ret
    exact ⟨rfl, HB.out⟩
  have e1 : (what == 1) = false := beq_eq_false_iff_ne.2 h1
  have e2 : (what == 2) = false := beq_eq_false_iff_ne.2 h2
  have HV : Hid (decide (what = 1) = false ∧ decide (what = 2) = false) := Lib.hid ⟨decide_eq_false h1, decide_eq_false h2⟩
  clear h1 h2
  go_enter Try.func138, Try.ntmps138
  go_wp2_with fail
  go_ret
  exact ⟨by first | rfl | (rw [HV.out.1]; rfl) | (rw [HV.out.2]; rfl), HB.out⟩
set_option maxRecDepth 100000 in
theorem uses6_7 (account member dest : Int) (amount : Nat) (epoch : Int) (bits : List Nat) (what : Int) (par : Par) (motion : Int) (yes : Bool) (a : DedA) (w : World) :
    Calls Try.prog 138 #[.agg (dedC ((⟨6, account, member, dest, amount, epoch, bits, what, par, motion, yes⟩ : Ded), a)), .int .i64 7] w fun e w' => e = .returned (.bool (decide (what = 1))) ∧ Below w.heap.size w w' := by
  have r0 : row (w.alloc (.cells (dedC ((⟨6, account, member, dest, amount, epoch, bits, what, par, motion, yes⟩ : Ded), a)) 92)) w.heap.size = some (dedC ((⟨6, account, member, dest, amount, epoch, bits, what, par, motion, yes⟩ : Ded), a)) := (by (repeat (first | assumption | (refine row_at _ _ _ _ ?_; first | rfl | (simp only [World.size_alloc]; done) | (simp only [World.size_alloc]; omega)) | (refine (row_past _ _ _ ?_).trans ?_; (focus (first | exact Nat.lt_succ_self _ | ((repeat rw [World.size_alloc]); omega) | (simp; done) | (simp; omega) | omega))) | rw [row_drewN] | rw [row_drew])); (first | done | fail))
  have hB0 : Below w.heap.size w (w.alloc (.cells (dedC ((⟨6, account, member, dest, amount, epoch, bits, what, par, motion, yes⟩ : Ded), a)) 92)) := (by (repeat (first | exact Below.refl _ _ | assumption | (refine Below.allocT ?_ _) | refine Below.drew ?_ | refine below_drewN ?_ _ | (refine Below.then ?_ (by assumption)) | (refine Below.setRow ?_ ?_ _; rotate_left; (focus (first | exact Nat.lt_succ_self _ | ((repeat rw [World.size_alloc]); omega) | (simp; done) | (simp; omega) | omega))) | (refine Below.setCell ?_ ?_ _; rotate_left; (focus (first | exact Nat.lt_succ_self _ | ((repeat rw [World.size_alloc]); omega) | (simp; done) | (simp; omega) | omega))) | (refine Below.then' ?_ (by assumption) ?_; rotate_left; (focus (first | exact Nat.lt_succ_self _ | ((repeat rw [World.size_alloc]); omega) | (simp; done) | (simp; omega) | omega))) | fail)); (first | done | fail))
  have c0 : (w.alloc (.cells (dedC ((⟨6, account, member, dest, amount, epoch, bits, what, par, motion, yes⟩ : Ded), a)) 92)).cell? ⟨w.heap.size, 0, none⟩ = some (.int .i64 6) := row_cell r0 0
  have c7 : (w.alloc (.cells (dedC ((⟨6, account, member, dest, amount, epoch, bits, what, par, motion, yes⟩ : Ded), a)) 92)).cell? ⟨w.heap.size, 7, none⟩ = some (.int .i64 what) := row_cell r0 7
  have HB := Lib.hid hB0
  clear r0 hB0
  by_cases h1 : what = 1
  · subst h1
    go_enter Try.func138, Try.ntmps138
    go_wp2_with fail
    go_ret
    exact ⟨rfl, HB.out⟩
  by_cases h2 : what = 2
  · subst h2
    go_enter Try.func138, Try.ntmps138
    go_wp2_with fail
    go_ret
    exact ⟨rfl, HB.out⟩
  have e1 : (what == 1) = false := beq_eq_false_iff_ne.2 h1
  have e2 : (what == 2) = false := beq_eq_false_iff_ne.2 h2
  have HV : Hid (decide (what = 1) = false ∧ decide (what = 2) = false) := Lib.hid ⟨decide_eq_false h1, decide_eq_false h2⟩
  clear h1 h2
  go_enter Try.func138, Try.ntmps138
  go_wp2_with fail
  go_ret
  exact ⟨by first | rfl | (rw [HV.out.1]; rfl) | (rw [HV.out.2]; rfl), HB.out⟩
set_option maxRecDepth 100000 in
theorem uses6_8 (account member dest : Int) (amount : Nat) (epoch : Int) (bits : List Nat) (what : Int) (par : Par) (motion : Int) (yes : Bool) (a : DedA) (w : World) :
    Calls Try.prog 138 #[.agg (dedC ((⟨6, account, member, dest, amount, epoch, bits, what, par, motion, yes⟩ : Ded), a)), .int .i64 8] w fun e w' => e = .returned (.bool false) ∧ Below w.heap.size w w' := by
  have r0 : row (w.alloc (.cells (dedC ((⟨6, account, member, dest, amount, epoch, bits, what, par, motion, yes⟩ : Ded), a)) 92)) w.heap.size = some (dedC ((⟨6, account, member, dest, amount, epoch, bits, what, par, motion, yes⟩ : Ded), a)) := (by (repeat (first | assumption | (refine row_at _ _ _ _ ?_; first | rfl | (simp only [World.size_alloc]; done) | (simp only [World.size_alloc]; omega)) | (refine (row_past _ _ _ ?_).trans ?_; (focus (first | exact Nat.lt_succ_self _ | ((repeat rw [World.size_alloc]); omega) | (simp; done) | (simp; omega) | omega))) | rw [row_drewN] | rw [row_drew])); (first | done | fail))
  have hB0 : Below w.heap.size w (w.alloc (.cells (dedC ((⟨6, account, member, dest, amount, epoch, bits, what, par, motion, yes⟩ : Ded), a)) 92)) := (by (repeat (first | exact Below.refl _ _ | assumption | (refine Below.allocT ?_ _) | refine Below.drew ?_ | refine below_drewN ?_ _ | (refine Below.then ?_ (by assumption)) | (refine Below.setRow ?_ ?_ _; rotate_left; (focus (first | exact Nat.lt_succ_self _ | ((repeat rw [World.size_alloc]); omega) | (simp; done) | (simp; omega) | omega))) | (refine Below.setCell ?_ ?_ _; rotate_left; (focus (first | exact Nat.lt_succ_self _ | ((repeat rw [World.size_alloc]); omega) | (simp; done) | (simp; omega) | omega))) | (refine Below.then' ?_ (by assumption) ?_; rotate_left; (focus (first | exact Nat.lt_succ_self _ | ((repeat rw [World.size_alloc]); omega) | (simp; done) | (simp; omega) | omega))) | fail)); (first | done | fail))
  have c0 : (w.alloc (.cells (dedC ((⟨6, account, member, dest, amount, epoch, bits, what, par, motion, yes⟩ : Ded), a)) 92)).cell? ⟨w.heap.size, 0, none⟩ = some (.int .i64 6) := row_cell r0 0
  have c7 : (w.alloc (.cells (dedC ((⟨6, account, member, dest, amount, epoch, bits, what, par, motion, yes⟩ : Ded), a)) 92)).cell? ⟨w.heap.size, 7, none⟩ = some (.int .i64 what) := row_cell r0 7
  have HB := Lib.hid hB0
  clear r0 hB0
  by_cases h1 : what = 1
  · subst h1
    go_enter Try.func138, Try.ntmps138
    go_wp2_with fail
    go_ret
    exact ⟨rfl, HB.out⟩
  by_cases h2 : what = 2
  · subst h2
    go_enter Try.func138, Try.ntmps138
    go_wp2_with fail
    go_ret
    exact ⟨rfl, HB.out⟩
  have e1 : (what == 1) = false := beq_eq_false_iff_ne.2 h1
  have e2 : (what == 2) = false := beq_eq_false_iff_ne.2 h2
  have HV : Hid (decide (what = 1) = false ∧ decide (what = 2) = false) := Lib.hid ⟨decide_eq_false h1, decide_eq_false h2⟩
  clear h1 h2
  go_enter Try.func138, Try.ntmps138
  go_wp2_with fail
  go_ret
  exact ⟨by first | rfl | (rw [HV.out.1]; rfl) | (rw [HV.out.2]; rfl), HB.out⟩
set_option maxRecDepth 100000 in
set_option maxHeartbeats 16000000 in
theorem rdright6_any (d : Ded) (a : DedA) (hk : d.kind = 6) (hbl : d.bits.length ≤ 9223372036854775807) (w : World) : Calls Try.prog 89 #[.agg (dedC (d, a))] w fun e w' => e = .returned (.bool (rightD d)) ∧ Below w.heap.size w w' := by
  obtain ⟨kind, account, member, dest, amount, epoch, bits, what, par, motion, yes⟩ := d
  have hk : kind = 6 := hk
  subst hk
  have hbl : bits.length ≤ 9223372036854775807 := hbl
  have r0 : row (w.alloc (.cells (dedC ((⟨6, account, member, dest, amount, epoch, bits, what, par, motion, yes⟩ : Ded), a)) 92)) w.heap.size = some (dedC ((⟨6, account, member, dest, amount, epoch, bits, what, par, motion, yes⟩ : Ded), a)) := (by (repeat (first | assumption | (refine row_at _ _ _ _ ?_; first | rfl | (simp only [World.size_alloc]; done) | (simp only [World.size_alloc]; omega)) | (refine (row_past _ _ _ ?_).trans ?_; (focus (first | exact Nat.lt_succ_self _ | ((repeat rw [World.size_alloc]); omega) | (simp; done) | (simp; omega) | omega))) | rw [row_drewN] | rw [row_drew])); (first | done | fail))
  have hB0 : Below w.heap.size w (w.alloc (.cells (dedC ((⟨6, account, member, dest, amount, epoch, bits, what, par, motion, yes⟩ : Ded), a)) 92)) := (by (repeat (first | exact Below.refl _ _ | assumption | (refine Below.allocT ?_ _) | refine Below.drew ?_ | refine below_drewN ?_ _ | (refine Below.then ?_ (by assumption)) | (refine Below.setRow ?_ ?_ _; rotate_left; (focus (first | exact Nat.lt_succ_self _ | ((repeat rw [World.size_alloc]); omega) | (simp; done) | (simp; omega) | omega))) | (refine Below.setCell ?_ ?_ _; rotate_left; (focus (first | exact Nat.lt_succ_self _ | ((repeat rw [World.size_alloc]); omega) | (simp; done) | (simp; omega) | omega))) | (refine Below.then' ?_ (by assumption) ?_; rotate_left; (focus (first | exact Nat.lt_succ_self _ | ((repeat rw [World.size_alloc]); omega) | (simp; done) | (simp; omega) | omega))) | fail)); (first | done | fail))
  have HIn := Lib.hid (fun n lo hi W => in08_any n lo hi W)
  have HR := Lib.hid (fun W => right_any par W)
  have HK6 := Lib.hid (fun W => in08_any 6 1 7 W)
  rw [show btw 6 1 7 = true by decide] at HK6
  have HU1 := Lib.hid (fun W => uses6_1 account member dest amount epoch bits what par motion yes a W)
  have HU2 := Lib.hid (fun W => uses6_2 account member dest amount epoch bits what par motion yes a W)
  have HU3 := Lib.hid (fun W => uses6_3 account member dest amount epoch bits what par motion yes a W)
  have HU4 := Lib.hid (fun W => uses6_4 account member dest amount epoch bits what par motion yes a W)
  have HU5 := Lib.hid (fun W => uses6_5 account member dest amount epoch bits what par motion yes a W)
  have HU6 := Lib.hid (fun W => uses6_6 account member dest amount epoch bits what par motion yes a W)
  have HU7 := Lib.hid (fun W => uses6_7 account member dest amount epoch bits what par motion yes a W)
  have HU8 := Lib.hid (fun W => uses6_8 account member dest amount epoch bits what par motion yes a W)
  obtain ⟨dv, hdv⟩ : ∃ x, x = rightD (⟨6, account, member, dest, amount, epoch, bits, what, par, motion, yes⟩ : Ded) := ⟨_, rfl⟩
  have HRt : Hid (∀ b : Bool, (0 ≤ account ∧ account ≤ 63 ∧ member = 0 ∧ epoch = 0 ∧ bits.length = 0 ∧ motion = 0 ∧ yes = false ∧ 1 ≤ what ∧ what ≤ 4 ∧ (what = 2 → 0 ≤ dest ∧ dest ≤ 63 ∧ 0 < amount ∧ amount ≤ 4611686018427387904) ∧ (what ≠ 2 → dest = 0 ∧ amount = 0) ∧ (what = 1 → rightB par = true) ∧ (what ≠ 1 → par = zeroP) ↔ b = true) → rightD (⟨6, account, member, dest, amount, epoch, bits, what, par, motion, yes⟩ : Ded) = b) := Lib.hid fun b h => by
    unfold rightD
    rw [Bool.eq_iff_iff, decide_eq_true_eq]; exact h
  go_enter Try.func89, Try.ntmps89
  go_upto_region 1 with fail
  generalize w.alloc (.cells (dedC ((⟨6, account, member, dest, amount, epoch, bits, what, par, motion, yes⟩ : Ded), a)) 92) = w0 at *
  have cc := fun i => row_cell r0 i
  have HB0 := Lib.hid hB0
  have HRr := Lib.hid r0
  clear hB0 r0
  go_wp2_with fail
  refine (HK6.out _).mono ?_
  rintro e w1 ⟨rfl, rfl⟩
  go_wp2_with fail
  have HC := Lib.hid (HIn.out (account) 0 63)
  generalize hb : btw (account) 0 63 = b at *
  have HB := Lib.hid hb
  clear hb
  refine (HC.out _).mono ?_
  rintro e w1 ⟨rfl, rfl⟩
  cases b
  · have HV := Lib.hid (HRt.out false ⟨fun ⟨a1, a2, m0, e0, b0, o0, y0, w1, w4, h2, hn2, h1, hn1⟩ => (by exact absurd ⟨a1, a2⟩ (of_decide_eq_false HB.out)), fun h => (by cases h)⟩)
    go_wp2_with fail
    go_ret
    exact ⟨by rw [HV.out]; rfl, HB0.out⟩
  clear HC
  have HBa := HB
  clear HB
  go_wp2_with fail
  have HC := Lib.hid (HIn.out (member) 0 127)
  generalize hb : btw (member) 0 127 = b at *
  have HB := Lib.hid hb
  clear hb
  refine (HC.out _).mono ?_
  rintro e w1 ⟨rfl, rfl⟩
  cases b
  · have HV := Lib.hid (HRt.out false ⟨fun ⟨a1, a2, m0, e0, b0, o0, y0, w1, w4, h2, hn2, h1, hn1⟩ => (by exact absurd (by rw [m0]; decide) (of_decide_eq_false HB.out)), fun h => (by cases h)⟩)
    go_wp2_with fail
    go_ret
    exact ⟨by rw [HV.out]; rfl, HB0.out⟩
  clear HC
  clear HB
  go_wp2_with fail
  have HC := Lib.hid (HIn.out (dest) 0 63)
  generalize hb : btw (dest) 0 63 = b at *
  have HB := Lib.hid hb
  clear hb
  refine (HC.out _).mono ?_
  rintro e w1 ⟨rfl, rfl⟩
  cases b
  · have HV := Lib.hid (HRt.out false ⟨fun ⟨a1, a2, m0, e0, b0, o0, y0, w1, w4, h2, hn2, h1, hn1⟩ => (by exact absurd (if hw : what = 2 then ⟨(h2 hw).1, (h2 hw).2.1⟩ else (by rw [(hn2 hw).1]; decide)) (of_decide_eq_false HB.out)), fun h => (by cases h)⟩)
    go_wp2_with fail
    go_ret
    exact ⟨by rw [HV.out]; rfl, HB0.out⟩
  clear HC
  have HBd := HB
  clear HB
  go_wp2_with fail
  have HC := Lib.hid (HIn.out (epoch) 0 1073741824)
  generalize hb : btw (epoch) 0 1073741824 = b at *
  have HB := Lib.hid hb
  clear hb
  refine (HC.out _).mono ?_
  rintro e w1 ⟨rfl, rfl⟩
  cases b
  · have HV := Lib.hid (HRt.out false ⟨fun ⟨a1, a2, m0, e0, b0, o0, y0, w1, w4, h2, hn2, h1, hn1⟩ => (by exact absurd (by rw [e0]; decide) (of_decide_eq_false HB.out)), fun h => (by cases h)⟩)
    go_wp2_with fail
    go_ret
    exact ⟨by rw [HV.out]; rfl, HB0.out⟩
  clear HC
  clear HB
  go_wp2_with fail
  have HC := Lib.hid (HIn.out (motion) 0 31)
  generalize hb : btw (motion) 0 31 = b at *
  have HB := Lib.hid hb
  clear hb
  refine (HC.out _).mono ?_
  rintro e w1 ⟨rfl, rfl⟩
  cases b
  · have HV := Lib.hid (HRt.out false ⟨fun ⟨a1, a2, m0, e0, b0, o0, y0, w1, w4, h2, hn2, h1, hn1⟩ => (by exact absurd (by rw [o0]; decide) (of_decide_eq_false HB.out)), fun h => (by cases h)⟩)
    go_wp2_with fail
    go_ret
    exact ⟨by rw [HV.out]; rfl, HB0.out⟩
  clear HC
  clear HB
  by_cases hl : 32 < bits.length
  · have HV := Lib.hid (HRt.out false ⟨fun ⟨a1, a2, m0, e0, b0, o0, y0, w1, w4, h2, hn2, h1, hn1⟩ => (by omega), fun h => (by cases h)⟩)
    have hl' : (32 : Int) < (bits.length : Int) := by omega
    go_wp2_with fail
    go_ret
    exact ⟨by rw [HV.out]; rfl, HB0.out⟩
  have hl' : ¬ (32 : Int) < (bits.length : Int) := by omega
  by_cases hm : 4611686018427387904 < amount
  · have HV := Lib.hid (HRt.out false ⟨fun ⟨a1, a2, m0, e0, b0, o0, y0, w1, w4, h2, hn2, h1, hn1⟩ => (by exact if hw : what = 2 then absurd (h2 hw).2.2.2 (by omega) else absurd (hn2 hw).2 (by omega)), fun h => (by cases h)⟩)
    have hm' : (4611686018427387904 : Int) < (amount : Int) := by omega
    go_wp2_with fail
    go_ret
    exact ⟨by rw [HV.out]; rfl, HB0.out⟩
  have hm' : ¬ (4611686018427387904 : Int) < (amount : Int) := by omega
  have HMx := Lib.hid hm
  clear hl hm
  go_upto_region 3 with fail
  have rr := HRr.out
  go_wp2_with fail
  refine (HU1.out _).mono ?_
  rintro e w1 ⟨rfl, hb1⟩
  have HB1 := Lib.hid (Below.then HB0.out hb1)
  have r1 := (row_below hb1 (row_lt HRr.out)).trans HRr.out
  have HRr1 := Lib.hid r1
  clear cc rr hb1 HB0 HRr r1
  have rr := HRr1.out
  have cc := fun i => row_cell rr i
  go_wp2_with fail
  refine (HU2.out _).mono ?_
  rintro e w2 ⟨rfl, hb2⟩
  have HB2 := Lib.hid (Below.then HB1.out hb2)
  have HRr2 := Lib.hid ((row_below hb2 (row_lt HRr1.out)).trans HRr1.out)
  clear cc rr hb2 HB1 HRr1
  have rr := HRr2.out
  have cc := fun i => row_cell rr i
  by_cases hm0 : member = 0
  rotate_left
  · have HV := Lib.hid (HRt.out false ⟨fun ⟨a1, a2, m0, e0, b0, o0, y0, w1, w4, h2, hn2, h1, hn1⟩ => (by exact absurd m0 hm0), fun h => (by cases h)⟩)
    have e1 : (member != 0) = true := bne_iff_ne.2 hm0
    go_wp2_with fail
    go_ret
    exact ⟨by rw [HV.out]; rfl, HB2.out⟩
  subst hm0
  go_wp2_with fail
  refine (HU3.out _).mono ?_
  rintro e w3 ⟨rfl, hb3⟩
  have HB3 := Lib.hid (Below.then HB2.out hb3)
  have HRr3 := Lib.hid ((row_below hb3 (row_lt HRr2.out)).trans HRr2.out)
  clear cc rr hb3 HB2 HRr2
  have rr := HRr3.out
  have cc := fun i => row_cell rr i
  generalize hq2 : decide (what = 2) = q2 at *
  have HQ2 := Lib.hid hq2
  clear hq2
  by_cases hd0 : q2 = false ∧ dest ≠ 0
  · have HV := Lib.hid (HRt.out false ⟨fun ⟨a1, a2, m0, e0, b0, o0, y0, w1, w4, h2, hn2, h1, hn1⟩ => (by exact absurd (hn2 (of_decide_eq_false (HQ2.out.trans hd0.1))).1 hd0.2), fun h => (by cases h)⟩)
    have e1 : (dest != 0) = true := bne_iff_ne.2 hd0.2
    have e2 := hd0.1
    subst e2
    go_wp2_with fail
    go_ret
    exact ⟨by rw [HV.out]; rfl, HB3.out⟩
  cases q2
  · have hw : what ≠ 2 := of_decide_eq_false HQ2.out
    have hdz : dest = 0 := Classical.byContradiction fun h => hd0 ⟨rfl, h⟩
    subst hdz
    clear hd0
    go_wp2_with fail
    refine (HU5.out _).mono ?_
    rintro e w4 ⟨rfl, hb4⟩
    have HB4 := Lib.hid (Below.then HB3.out hb4)
    have HRr4 := Lib.hid ((row_below hb4 (row_lt HRr3.out)).trans HRr3.out)
    clear cc rr hb4 HB3 HRr3
    have rr := HRr4.out
    have cc := fun i => row_cell rr i
    by_cases he0 : epoch = 0
    rotate_left
    · have HV := Lib.hid (HRt.out false ⟨fun ⟨a1, a2, m0, e0, b0, o0, y0, w1, w4, h2, hn2, h1, hn1⟩ => (by exact absurd e0 he0), fun h => (by cases h)⟩)
      have e1 : (epoch != 0) = true := bne_iff_ne.2 he0
      go_wp2_with fail
      go_ret
      exact ⟨by rw [HV.out]; rfl, HB4.out⟩
    subst he0
    by_cases hb0 : bits.length = 0
    rotate_left
    · have HV := Lib.hid (HRt.out false ⟨fun ⟨a1, a2, m0, e0, b0, o0, y0, w1, w4, h2, hn2, h1, hn1⟩ => (by exact absurd b0 hb0), fun h => (by cases h)⟩)
      have e1 : ((bits.length : Int) != 0) = true := bne_iff_ne.2 (by omega)
      go_wp2_with fail
      go_ret
      exact ⟨by rw [HV.out]; rfl, HB4.out⟩
    have hbn := List.eq_nil_of_length_eq_zero hb0
    clear hb0 hbl hl'
    subst hbn
    go_upto_region 5 with fail
    have HM5 : Hid (∀ W, Below w4.heap.size w4 W → row W w.heap.size = some (dedC ((⟨6, account, 0, 0, amount, 0, [], what, par, motion, yes⟩ : Ded), a)) ∧ W.cell? ⟨w.heap.size, 4, none⟩ = some (.int .u64 (amount : Int)) ∧ W.cell? ⟨w.heap.size, 32, none⟩ = some (.int .i64 motion) ∧ W.cell? ⟨w.heap.size, 33, none⟩ = some (.bool yes) ∧ W.cell? ⟨w.heap.size, 7, none⟩ = some (.int .i64 what)) := Lib.hid fun W h =>
      have hr := (row_below h (row_lt HRr4.out)).trans HRr4.out
      ⟨hr, row_cell hr 4, row_cell hr 32, row_cell hr 33, row_cell hr 7⟩
    clear cc rr HRr4
    by_cases ha : 0 < amount
    · have HV := Lib.hid (HRt.out false ⟨fun ⟨a1, a2, m0, e0, b0, o0, y0, w1, w4, h2, hn2, h1, hn1⟩ => (by exact absurd (hn2 hw).2 (by omega)), fun h => (by cases h)⟩)
      have e1 : (0 : Int) < (amount : Int) := by omega
      (refine wp_region_calm (by kernel_rfl) (by kernel_rfl) ?_; (repeat (first | go_big_quiet_skip | (go_big_quiet_want; apply calm_val; (focus (intro w' hb'; obtain ⟨q1, q4, q5, q6, q7⟩ := HM5.out w' hb'; first | exact rded_quietO rfl rfl q1 | (unfold Oper.quietAt; go_simp; first | rfl | (go_at_call_of 138 (Value.int IntKind.i64 4); exact calm_call hb' (HU4.out _)) | (go_at_call_of 138 (Value.int IntKind.i64 8); exact calm_call hb' (HU8.out _))))); (try simp only [Act.put, List.setIfInBounds_toArray, List.set_cons_zero, List.set_cons_succ]); go_big_quiet_on))); refine wpQuiet_nil ?_; intro w' hb')
      go_wp2_with fail
      go_ret
      exact ⟨by rw [HV.out]; rfl, Below.then HB4.out hb'⟩
    obtain rfl : amount = 0 := by omega
    by_cases ho0 : motion = 0
    rotate_left
    · have HV := Lib.hid (HRt.out false ⟨fun ⟨a1, a2, m0, e0, b0, o0, y0, w1, w4, h2, hn2, h1, hn1⟩ => (by exact absurd o0 ho0), fun h => (by cases h)⟩)
      have e1 : (motion != 0) = true := bne_iff_ne.2 ho0
      (refine wp_region_calm (by kernel_rfl) (by kernel_rfl) ?_; (repeat (first | go_big_quiet_skip | (go_big_quiet_want; apply calm_val; (focus (intro w' hb'; obtain ⟨q1, q4, q5, q6, q7⟩ := HM5.out w' hb'; first | exact rded_quietO rfl rfl q1 | (unfold Oper.quietAt; go_simp; first | rfl | (go_at_call_of 138 (Value.int IntKind.i64 4); exact calm_call hb' (HU4.out _)) | (go_at_call_of 138 (Value.int IntKind.i64 8); exact calm_call hb' (HU8.out _))))); (try simp only [Act.put, List.setIfInBounds_toArray, List.set_cons_zero, List.set_cons_succ]); go_big_quiet_on))); refine wpQuiet_nil ?_; intro w' hb')
      go_wp2_with fail
      go_ret
      exact ⟨by rw [HV.out]; rfl, Below.then HB4.out hb'⟩
    subst ho0
    cases yes
    rotate_left
    · have HV := Lib.hid (HRt.out false ⟨fun ⟨a1, a2, m0, e0, b0, o0, y0, w1, w4, h2, hn2, h1, hn1⟩ => (by (cases y0)), fun h => (by cases h)⟩)
      (refine wp_region_calm (by kernel_rfl) (by kernel_rfl) ?_; (repeat (first | go_big_quiet_skip | (go_big_quiet_want; apply calm_val; (focus (intro w' hb'; obtain ⟨q1, q4, q5, q6, q7⟩ := HM5.out w' hb'; first | exact rded_quietO rfl rfl q1 | (unfold Oper.quietAt; go_simp; first | rfl | (go_at_call_of 138 (Value.int IntKind.i64 4); exact calm_call hb' (HU4.out _)) | (go_at_call_of 138 (Value.int IntKind.i64 8); exact calm_call hb' (HU8.out _))))); (try simp only [Act.put, List.setIfInBounds_toArray, List.set_cons_zero, List.set_cons_succ]); go_big_quiet_on))); refine wpQuiet_nil ?_; intro w' hb')
      go_wp2_with fail
      go_ret
      exact ⟨by rw [HV.out]; rfl, Below.then HB4.out hb'⟩
    (refine wp_region_calm (by kernel_rfl) (by kernel_rfl) ?_; (repeat (first | go_big_quiet_skip | (go_big_quiet_want; apply calm_val; (focus (intro w' hb'; obtain ⟨q1, q4, q5, q6, q7⟩ := HM5.out w' hb'; first | exact rded_quietO rfl rfl q1 | (unfold Oper.quietAt; go_simp; first | rfl | (go_at_call_of 138 (Value.int IntKind.i64 4); exact calm_call hb' (HU4.out _)) | (go_at_call_of 138 (Value.int IntKind.i64 8); exact calm_call hb' (HU8.out _))))); (try simp only [Act.put, List.setIfInBounds_toArray, List.set_cons_zero, List.set_cons_succ]); go_big_quiet_on))); refine wpQuiet_nil ?_; intro w' hb')
    have HB5 := Lib.hid (Below.then HB4.out hb')
    have HM7 : Hid (∀ W, Below w'.heap.size w' W → row W w.heap.size = some (dedC ((⟨6, account, 0, 0, 0, 0, [], what, par, 0, false⟩ : Ded), a)) ∧ W.cell? ⟨w.heap.size, 7, none⟩ = some (.int .i64 what)) := Lib.hid fun W h => ⟨(HM5.out W (Below.then hb' h)).1, (HM5.out W (Below.then hb' h)).2.2.2.2⟩
    obtain ⟨w5, hw5⟩ : ∃ x, x = w' := ⟨_, rfl⟩
    rw [← hw5] at HM7 HB5 ⊢
    clear hw5 HM5 hb' w'
    go_upto_region 7 with fail
    have HC := Lib.hid (HIn.out what 0 4)
    by_cases hw0 : what = 0
    · have HV := Lib.hid (HRt.out false ⟨fun ⟨a1, a2, m0, e0, b0, o0, y0, w1, w4, h2, hn2, h1, hn1⟩ => (by omega), fun h => (by cases h)⟩)
      subst hw0
      (refine wp_region_calm (by kernel_rfl) (by kernel_rfl) ?_; (repeat (first | go_big_quiet_skip | (go_big_quiet_want; apply calm_val; (focus (intro w' hb'; obtain ⟨q1, q7⟩ := HM7.out w' hb'; first | exact rded_quietO rfl rfl q1 | (unfold Oper.quietAt; go_simp; first | rfl | (go_at_call 138; exact calm_call hb' (HU6.out _)) | (go_at_call 137; exact calm_call hb' (same_below (HC.out _)))))); (try simp only [Act.put, List.setIfInBounds_toArray, List.set_cons_zero, List.set_cons_succ]); go_big_quiet_on))); refine wpQuiet_nil ?_; intro w' hb')
      go_wp2_with fail
      go_ret
      exact ⟨by rw [HV.out]; rfl, Below.then HB5.out hb'⟩
    have en : (what != 0) = true := bne_iff_ne.2 hw0
    by_cases hw4 : 0 ≤ what ∧ what ≤ 4
    rotate_left
    · have HV := Lib.hid (HRt.out false ⟨fun ⟨a1, a2, m0, e0, b0, o0, y0, w1, w4, h2, hn2, h1, hn1⟩ => (by exact absurd ⟨by omega, w4⟩ hw4), fun h => (by cases h)⟩)
      rw [show btw what 0 4 = false from decide_eq_false hw4] at HC
      clear hw4 hw0 hw
      (refine wp_region_calm (by kernel_rfl) (by kernel_rfl) ?_; (repeat (first | go_big_quiet_skip | (go_big_quiet_want; apply calm_val; (focus (intro w' hb'; obtain ⟨q1, q7⟩ := HM7.out w' hb'; first | exact rded_quietO rfl rfl q1 | (unfold Oper.quietAt; go_simp; first | rfl | (go_at_call 138; exact calm_call hb' (HU6.out _)) | (go_at_call 137; exact calm_call hb' (same_below (HC.out _)))))); (try simp only [Act.put, List.setIfInBounds_toArray, List.set_cons_zero, List.set_cons_succ]); go_big_quiet_on))); refine wpQuiet_nil ?_; intro w' hb')
      go_wp2_with fail
      go_ret
      exact ⟨by rw [HV.out]; rfl, Below.then HB5.out hb'⟩
    rw [show btw what 0 4 = true from decide_eq_true hw4] at HC
    have HF : Hid (∀ b : Bool, ((what = 1 → rightB par = true) ∧ (what ≠ 1 → par = zeroP) ↔ b = true) → rightD (⟨6, account, 0, 0, 0, 0, [], what, par, 0, false⟩ : Ded) = b) := Lib.hid fun b hb => HRt.out b ⟨fun ⟨_, _, _, _, _, _, _, _, _, _, _, h1, hn1⟩ => hb.1 ⟨h1, hn1⟩, fun h => ⟨(of_decide_eq_true HBa.out).1, (of_decide_eq_true HBa.out).2, (by first | rfl | trivial), (by first | rfl | trivial), (by first | rfl | trivial), (by first | rfl | trivial), (by first | rfl | trivial), by omega, hw4.2, fun h2 => absurd h2 hw, fun _ => ⟨(by first | rfl | trivial), (by first | rfl | trivial)⟩, (hb.2 h).1, (hb.2 h).2⟩⟩
    clear hw4 hw0
    (refine wp_region_calm (by kernel_rfl) (by kernel_rfl) ?_; (repeat (first | go_big_quiet_skip | (go_big_quiet_want; apply calm_val; (focus (intro w' hb'; obtain ⟨q1, q7⟩ := HM7.out w' hb'; first | exact rded_quietO rfl rfl q1 | (unfold Oper.quietAt; go_simp; first | rfl | (go_at_call 138; exact calm_call hb' (HU6.out _)) | (go_at_call 137; exact calm_call hb' (same_below (HC.out _)))))); (try simp only [Act.put, List.setIfInBounds_toArray, List.set_cons_zero, List.set_cons_succ]); go_big_quiet_on))); refine wpQuiet_nil ?_; intro w' hb')
    have HB7 := Lib.hid (Below.then HB5.out hb')
    have rr := (HM7.out w' hb').1
    go_wp2_with fail
    refine (HU7.out _).mono ?_
    rintro e w8 ⟨rfl, hb8⟩
    have r8 := (row_below hb8 (row_lt rr)).trans rr
    have HB8 := Lib.hid (Below.then HB7.out hb8)
    clear rr hb8
    by_cases h1 : what = 1
    · subst h1
      have HV := Lib.hid (HF.out (rightB par) ⟨fun h => h.1 rfl, fun h => ⟨fun _ => h, fun h => absurd rfl h⟩⟩)
      go_wp2_with fail
      refine (HR.out _).mono ?_
      rintro e w9 ⟨rfl, hb9⟩
      go_wp2_with fail
      go_ret
      exact ⟨by rw [HV.out]; rfl, Below.then HB8.out hb9⟩
    have ed : decide (what = 1) = false := decide_eq_false h1
    have HV := Lib.hid (HF.out (parEq par zeroP) ⟨fun h => decide_eq_true (h.2 h1), fun h => ⟨fun hh => absurd hh h1, fun _ => of_decide_eq_true h⟩⟩)
    clear h1
    go_wp2_with fail
    go_ret
    exact ⟨by rw [HV.out]; rfl, HB8.out⟩
  · have hw : what = 2 := of_decide_eq_true HQ2.out
    subst hw
    clear hd0 HQ2
    go_wp2_with fail
    refine (HU5.out _).mono ?_
    rintro e w4 ⟨rfl, hb4⟩
    have HB4 := Lib.hid (Below.then HB3.out hb4)
    have HRr4 := Lib.hid ((row_below hb4 (row_lt HRr3.out)).trans HRr3.out)
    clear cc rr hb4 HB3 HRr3
    have rr := HRr4.out
    have cc := fun i => row_cell rr i
    by_cases he0 : epoch = 0
    rotate_left
    · have HV := Lib.hid (HRt.out false ⟨fun ⟨a1, a2, m0, e0, b0, o0, y0, w1, w4, h2, hn2, h1, hn1⟩ => (by exact absurd e0 he0), fun h => (by cases h)⟩)
      have e1 : (epoch != 0) = true := bne_iff_ne.2 he0
      go_wp2_with fail
      go_ret
      exact ⟨by rw [HV.out]; rfl, HB4.out⟩
    subst he0
    by_cases hb0 : bits.length = 0
    rotate_left
    · have HV := Lib.hid (HRt.out false ⟨fun ⟨a1, a2, m0, e0, b0, o0, y0, w1, w4, h2, hn2, h1, hn1⟩ => (by exact absurd b0 hb0), fun h => (by cases h)⟩)
      have e1 : ((bits.length : Int) != 0) = true := bne_iff_ne.2 (by omega)
      go_wp2_with fail
      go_ret
      exact ⟨by rw [HV.out]; rfl, HB4.out⟩
    have hbn := List.eq_nil_of_length_eq_zero hb0
    clear hb0 hbl hl'
    subst hbn
    go_upto_region 5 with fail
    have HM5 : Hid (∀ W, Below w4.heap.size w4 W → row W w.heap.size = some (dedC ((⟨6, account, 0, dest, amount, 0, [], 2, par, motion, yes⟩ : Ded), a)) ∧ W.cell? ⟨w.heap.size, 4, none⟩ = some (.int .u64 (amount : Int)) ∧ W.cell? ⟨w.heap.size, 32, none⟩ = some (.int .i64 motion) ∧ W.cell? ⟨w.heap.size, 33, none⟩ = some (.bool yes) ∧ W.cell? ⟨w.heap.size, 7, none⟩ = some (.int .i64 2)) := Lib.hid fun W h =>
      have hr := (row_below h (row_lt HRr4.out)).trans HRr4.out
      ⟨hr, row_cell hr 4, row_cell hr 32, row_cell hr 33, row_cell hr 7⟩
    clear cc rr HRr4
    by_cases ha : amount = 0
    · have HV := Lib.hid (HRt.out false ⟨fun ⟨a1, a2, m0, e0, b0, o0, y0, w1, w4, h2, hn2, h1, hn1⟩ => (by exact absurd (h2 (by first | rfl | trivial)).2.2.1 (by omega)), fun h => (by cases h)⟩)
      subst ha
      (refine wp_region_calm (by kernel_rfl) (by kernel_rfl) ?_; (repeat (first | go_big_quiet_skip | (go_big_quiet_want; apply calm_val; (focus (intro w' hb'; obtain ⟨q1, q4, q5, q6, q7⟩ := HM5.out w' hb'; first | exact rded_quietO rfl rfl q1 | (unfold Oper.quietAt; go_simp; first | rfl | (go_at_call_of 138 (Value.int IntKind.i64 4); exact calm_call hb' (HU4.out _)) | (go_at_call_of 138 (Value.int IntKind.i64 8); exact calm_call hb' (HU8.out _))))); (try simp only [Act.put, List.setIfInBounds_toArray, List.set_cons_zero, List.set_cons_succ]); go_big_quiet_on))); refine wpQuiet_nil ?_; intro w' hb')
      go_wp2_with fail
      go_ret
      exact ⟨by rw [HV.out]; rfl, Below.then HB4.out hb'⟩
    have ha' : 0 < amount := by omega
    have ha'' : (0 : Int) < (amount : Int) := by omega
    by_cases ho0 : motion = 0
    rotate_left
    · have HV := Lib.hid (HRt.out false ⟨fun ⟨a1, a2, m0, e0, b0, o0, y0, w1, w4, h2, hn2, h1, hn1⟩ => (by exact absurd o0 ho0), fun h => (by cases h)⟩)
      have e1 : (motion != 0) = true := bne_iff_ne.2 ho0
      (refine wp_region_calm (by kernel_rfl) (by kernel_rfl) ?_; (repeat (first | go_big_quiet_skip | (go_big_quiet_want; apply calm_val; (focus (intro w' hb'; obtain ⟨q1, q4, q5, q6, q7⟩ := HM5.out w' hb'; first | exact rded_quietO rfl rfl q1 | (unfold Oper.quietAt; go_simp; first | rfl | (go_at_call_of 138 (Value.int IntKind.i64 4); exact calm_call hb' (HU4.out _)) | (go_at_call_of 138 (Value.int IntKind.i64 8); exact calm_call hb' (HU8.out _))))); (try simp only [Act.put, List.setIfInBounds_toArray, List.set_cons_zero, List.set_cons_succ]); go_big_quiet_on))); refine wpQuiet_nil ?_; intro w' hb')
      go_wp2_with fail
      go_ret
      exact ⟨by rw [HV.out]; rfl, Below.then HB4.out hb'⟩
    subst ho0
    cases yes
    rotate_left
    · have HV := Lib.hid (HRt.out false ⟨fun ⟨a1, a2, m0, e0, b0, o0, y0, w1, w4, h2, hn2, h1, hn1⟩ => (by (cases y0)), fun h => (by cases h)⟩)
      (refine wp_region_calm (by kernel_rfl) (by kernel_rfl) ?_; (repeat (first | go_big_quiet_skip | (go_big_quiet_want; apply calm_val; (focus (intro w' hb'; obtain ⟨q1, q4, q5, q6, q7⟩ := HM5.out w' hb'; first | exact rded_quietO rfl rfl q1 | (unfold Oper.quietAt; go_simp; first | rfl | (go_at_call_of 138 (Value.int IntKind.i64 4); exact calm_call hb' (HU4.out _)) | (go_at_call_of 138 (Value.int IntKind.i64 8); exact calm_call hb' (HU8.out _))))); (try simp only [Act.put, List.setIfInBounds_toArray, List.set_cons_zero, List.set_cons_succ]); go_big_quiet_on))); refine wpQuiet_nil ?_; intro w' hb')
      go_wp2_with fail
      go_ret
      exact ⟨by rw [HV.out]; rfl, Below.then HB4.out hb'⟩
    (refine wp_region_calm (by kernel_rfl) (by kernel_rfl) ?_; (repeat (first | go_big_quiet_skip | (go_big_quiet_want; apply calm_val; (focus (intro w' hb'; obtain ⟨q1, q4, q5, q6, q7⟩ := HM5.out w' hb'; first | exact rded_quietO rfl rfl q1 | (unfold Oper.quietAt; go_simp; first | rfl | (go_at_call_of 138 (Value.int IntKind.i64 4); exact calm_call hb' (HU4.out _)) | (go_at_call_of 138 (Value.int IntKind.i64 8); exact calm_call hb' (HU8.out _))))); (try simp only [Act.put, List.setIfInBounds_toArray, List.set_cons_zero, List.set_cons_succ]); go_big_quiet_on))); refine wpQuiet_nil ?_; intro w' hb')
    have HB5 := Lib.hid (Below.then HB4.out hb')
    have HM7 : Hid (∀ W, Below w'.heap.size w' W → row W w.heap.size = some (dedC ((⟨6, account, 0, dest, amount, 0, [], 2, par, 0, false⟩ : Ded), a)) ∧ W.cell? ⟨w.heap.size, 7, none⟩ = some (.int .i64 2)) := Lib.hid fun W h => ⟨(HM5.out W (Below.then hb' h)).1, (HM5.out W (Below.then hb' h)).2.2.2.2⟩
    obtain ⟨w5, hw5⟩ : ∃ x, x = w' := ⟨_, rfl⟩
    rw [← hw5] at HM7 HB5 ⊢
    clear hw5 HM5 hb' w'
    go_upto_region 7 with fail
    have HC := Lib.hid (HIn.out 2 0 4)
    rw [show btw 2 0 4 = true by decide] at HC
    have HF : Hid (∀ b : Bool, (par = zeroP ↔ b = true) → rightD (⟨6, account, 0, dest, amount, 0, [], 2, par, 0, false⟩ : Ded) = b) := Lib.hid fun b hb => HRt.out b ⟨fun ⟨_, _, _, _, _, _, _, _, _, _, _, h1, hn1⟩ => hb.1 (hn1 (by omega)), fun h => ⟨(of_decide_eq_true HBa.out).1, (of_decide_eq_true HBa.out).2, (by first | rfl | trivial), (by first | rfl | trivial), (by first | rfl | trivial), (by first | rfl | trivial), (by first | rfl | trivial), by omega, by omega, fun _ => ⟨(of_decide_eq_true HBd.out).1, (of_decide_eq_true HBd.out).2, ha', by have := HMx.out; omega⟩, fun h => (by first | exact absurd rfl h | exact h.elim | simp at h), fun h => (by first | omega | exact h.elim | simp at h), fun _ => hb.2 h⟩⟩
    (refine wp_region_calm (by kernel_rfl) (by kernel_rfl) ?_; (repeat (first | go_big_quiet_skip | (go_big_quiet_want; apply calm_val; (focus (intro w' hb'; obtain ⟨q1, q7⟩ := HM7.out w' hb'; first | exact rded_quietO rfl rfl q1 | (unfold Oper.quietAt; go_simp; first | rfl | (go_at_call 138; exact calm_call hb' (HU6.out _)) | (go_at_call 137; exact calm_call hb' (same_below (HC.out _)))))); (try simp only [Act.put, List.setIfInBounds_toArray, List.set_cons_zero, List.set_cons_succ]); go_big_quiet_on))); refine wpQuiet_nil ?_; intro w' hb')
    have HB7 := Lib.hid (Below.then HB5.out hb')
    have rr := (HM7.out w' hb').1
    go_wp2_with fail
    refine (HU7.out _).mono ?_
    rintro e w8 ⟨rfl, hb8⟩
    have r8 := (row_below hb8 (row_lt rr)).trans rr
    have HB8 := Lib.hid (Below.then HB7.out hb8)
    clear rr hb8
    have HV := Lib.hid (HF.out (parEq par zeroP) ⟨fun h => decide_eq_true h, fun h => of_decide_eq_true h⟩)
    go_wp2_with fail
    go_ret
    exact ⟨by rw [HV.out]; rfl, HB8.out⟩
end Go.Proofs.Ytnakkjgnjffkpaa

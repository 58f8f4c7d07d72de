/-
  A motion that fits, in the program and in the reference.
-/
import Derived.Test.YtnakkjgnjffkpaaMoot5
import Derived.Test.YtnakkjgnjffkpaaCheck
import Derived.Test.YtnakkjgnjffkpaaPl07
import Derived.Test.YtnakkjgnjffkpaaBits8
import Derived.Test.YtnakkjgnjffkpaaRef23
import Derived.Test.YtnakkjgnjffkpaaRef23d
namespace Go.Proofs.Ytnakkjgnjffkpaa
open Go.RowKit
set_option linter.unusedVariables false

theorem apar_build0 {dst : Option Tmp} {ty : TypeId} {pos : String} {after : Array Edge} {gd : Option (Nat × Bool)} {a : Act} {w : World} {K : Act → World → Prop} {Q : Exit → Act → World → Prop} :
    Oper.wp Try.prog ⟨dst, .build 76 #[], ty, pos, after, gd⟩ a w K Q = K (a.put dst (.agg zeroP.cells)) w := by
  have h : Try.prog.built 76 [] = some zeroP.cells := by kernel_rfl
  unfold Oper.wp execOp
  simp [run_build, h]
  rfl
attribute [go_sem ↓] apar_build0
def parB (m : Mot) : Bool := if m.what = 1 then rightB m.par else parEq m.par zeroP
def fit23 (m : Mot) : Bool := betw m.account 0 63 && (betw m.dest 0 63 && (betw m.what 1 4 && (betw m.state 1 4 && (betw m.ends 0 2147483647 && (betw m.due 0 2147483647 && (decide (m.amount ≤ 4611686018427387904) && (decide (m.yes.length = 16) && (decide (m.no.length = 16) && parB m))))))))
set_option maxRecDepth 100000 in
set_option maxHeartbeats 16000000 in
theorem mfits23_any (m : Mot) (a : MotA) (hy : m.yes.length ≤ 1000000) (hno : m.no.length ≤ 1000000) (w : World) : Calls Try.prog 41 #[.agg (motC (m, a))] w fun e w' => e = .returned (.bool (fit23 m)) ∧ Below w.heap.size w w' := by
  have r0 : row (w.alloc (.cells (motC (m, a)) 103)) w.heap.size = some (motC (m, a)) := (by (repeat (first | assumption | (refine row_at _ _ _ _ ?_; first | rfl | (simp only [World.size_alloc]; done) | (simp only [World.size_alloc]; omega)) | (refine (row_past _ _ _ ?_).trans ?_; (focus (first | exact Nat.lt_succ_self _ | ((repeat rw [World.size_alloc]); omega) | (simp; done) | (simp; omega) | omega))) | rw [row_drewN] | rw [row_drew])); (first | done | fail))
  have hB0 : Below w.heap.size w (w.alloc (.cells (motC (m, a)) 103)) := (by (repeat (first | exact Below.refl _ _ | assumption | (refine Below.allocT ?_ _) | refine Below.drew ?_ | refine below_drewN ?_ _ | (refine Below.then ?_ (by assumption)) | (refine Below.setRow ?_ ?_ _; rotate_left; (focus (first | exact Nat.lt_succ_self _ | ((repeat rw [World.size_alloc]); omega) | (simp; done) | (simp; omega) | omega))) | (refine Below.setCell ?_ ?_ _; rotate_left; (focus (first | exact Nat.lt_succ_self _ | ((repeat rw [World.size_alloc]); omega) | (simp; done) | (simp; omega) | omega))) | (refine Below.then' ?_ (by assumption) ?_; rotate_left; (focus (first | exact Nat.lt_succ_self _ | ((repeat rw [World.size_alloc]); omega) | (simp; done) | (simp; omega) | omega))) | fail)); (first | done | fail))
  have HC0 := Lib.hid (fun W => mwithin_any m.account 0 63 W)
  obtain ⟨b0, h0⟩ : ∃ b, betw m.account 0 63 = b := ⟨_, rfl⟩
  rw [h0] at HC0
  have HC1 := Lib.hid (fun W => mwithin_any m.dest 0 63 W)
  obtain ⟨b1, h1⟩ : ∃ b, betw m.dest 0 63 = b := ⟨_, rfl⟩
  rw [h1] at HC1
  have HC2 := Lib.hid (fun W => mwithin_any m.what 1 4 W)
  obtain ⟨b2, h2⟩ : ∃ b, betw m.what 1 4 = b := ⟨_, rfl⟩
  rw [h2] at HC2
  have HC3 := Lib.hid (fun W => mwithin_any m.state 1 4 W)
  obtain ⟨b3, h3⟩ : ∃ b, betw m.state 1 4 = b := ⟨_, rfl⟩
  rw [h3] at HC3
  have HC4 := Lib.hid (fun W => mwithin_any m.ends 0 2147483647 W)
  obtain ⟨b4, h4⟩ : ∃ b, betw m.ends 0 2147483647 = b := ⟨_, rfl⟩
  rw [h4] at HC4
  have HC5 := Lib.hid (fun W => mwithin_any m.due 0 2147483647 W)
  obtain ⟨b5, h5⟩ : ∃ b, betw m.due 0 2147483647 = b := ⟨_, rfl⟩
  rw [h5] at HC5
  have HC7 := Lib.hid (fun W => check128 a.a1 m.yes.length a.c1 W)
  have HC8 := Lib.hid (fun W => check128 a.a2 m.no.length a.c2 W)
  have HCp := Lib.hid (fun W => check_any m.par W)
  have HV : Hid (fit23 m = (b0 && (b1 && (b2 && (b3 && (b4 && (b5 && (decide (m.amount ≤ 4611686018427387904) && (decide (m.yes.length = 16) && (decide (m.no.length = 16) && parB m)))))))))) := Lib.hid (by unfold fit23; rw [h0, h1, h2, h3, h4, h5])
  clear h0 h1 h2 h3 h4 h5 hy hno
  obtain ⟨w0, hw0⟩ : ∃ x, x = w.alloc (.cells (motC (m, a)) 103) := ⟨_, rfl⟩
  rw [← hw0] at r0 hB0
  have c0 := fun i => row_cell r0 i
  have HB0 := Lib.hid hB0
  have HR0 := Lib.hid r0
  clear hB0
  go_enter Try.func41, Try.ntmps41
  try simp only [lapp_cons, lapp_nil]
  go_upto_region 1 with (rw [← hw0]; clear hw0)
  go_wp2_with (first | go_big_skip | go_big_want | go_big_guard)
  refine (HC0.out _).mono ?_
  rintro e w1 ⟨rfl, rfl⟩
  clear HC0
  cases b0
  · go_wp2_with (first | go_big_skip | go_big_want | go_big_guard)
    go_ret
    exact ⟨by rw [HV.out]; rfl, HB0.out⟩
  go_wp2_with (first | go_big_skip | go_big_want | go_big_guard)
  refine (HC1.out _).mono ?_
  rintro e w1 ⟨rfl, rfl⟩
  clear HC1
  cases b1
  · go_wp2_with (first | go_big_skip | go_big_want | go_big_guard)
    go_ret
    exact ⟨by rw [HV.out]; rfl, HB0.out⟩
  go_wp2_with (first | go_big_skip | go_big_want | go_big_guard)
  refine (HC2.out _).mono ?_
  rintro e w1 ⟨rfl, rfl⟩
  clear HC2
  cases b2
  · go_wp2_with (first | go_big_skip | go_big_want | go_big_guard)
    go_ret
    exact ⟨by rw [HV.out]; rfl, HB0.out⟩
  go_wp2_with (first | go_big_skip | go_big_want | go_big_guard)
  refine (HC3.out _).mono ?_
  rintro e w1 ⟨rfl, rfl⟩
  clear HC3
  cases b3
  · go_wp2_with (first | go_big_skip | go_big_want | go_big_guard)
    go_ret
    exact ⟨by rw [HV.out]; rfl, HB0.out⟩
  go_wp2_with (first | go_big_skip | go_big_want | go_big_guard)
  refine (HC4.out _).mono ?_
  rintro e w1 ⟨rfl, rfl⟩
  clear HC4
  cases b4
  · go_wp2_with (first | go_big_skip | go_big_want | go_big_guard)
    go_ret
    exact ⟨by rw [HV.out]; rfl, HB0.out⟩
  go_wp2_with (first | go_big_skip | go_big_want | go_big_guard)
  refine (HC5.out _).mono ?_
  rintro e w1 ⟨rfl, rfl⟩
  clear HC5
  cases b5
  · go_wp2_with (first | go_big_skip | go_big_want | go_big_guard)
    go_ret
    exact ⟨by rw [HV.out]; rfl, HB0.out⟩
  by_cases hm : 4611686018427387904 < m.amount
  · have hm' : (4611686018427387904 : Int) < (m.amount : Int) := by omega
    have HV2 : Hid (fit23 m = false) := Lib.hid (by rw [HV.out, decide_eq_false (show ¬ m.amount ≤ 4611686018427387904 by omega)]; rfl)
    clear hm
    go_wp2_with (first | go_big_skip | go_big_want | go_big_guard)
    go_ret
    exact ⟨by rw [HV2.out]; rfl, HB0.out⟩
  have hm' : ¬ (4611686018427387904 : Int) < (m.amount : Int) := by omega
  replace HV : Hid (fit23 m = (decide (m.yes.length = 16) && (decide (m.no.length = 16) && parB m))) := Lib.hid (by rw [HV.out, decide_eq_true (show m.amount ≤ 4611686018427387904 by omega)]; rfl)
  clear hm
  by_cases hl : m.yes.length = 16
  rotate_left
  · have HV2 : Hid (fit23 m = false) := Lib.hid (by rw [HV.out, decide_eq_false hl]; rfl)
    have hz : len16 m.yes.length = 60 := by unfold len16; rw [if_neg hl]
    rw [hz] at HC7
    clear hl
    go_wp2_with (first | go_big_skip | go_big_want | go_big_guard)
    refine (HC7.out _).mono ?_
    rintro e w1 ⟨rfl, hb1⟩
    have HB1 := Lib.hid (Below.then HB0.out hb1)
    clear hb1
    go_wp2_with (first | go_big_skip | go_big_want | go_big_guard)
    go_ret
    exact ⟨by rw [HV2.out]; rfl, HB1.out⟩
  replace HV : Hid (fit23 m = (decide (m.no.length = 16) && parB m)) := Lib.hid (by rw [HV.out, decide_eq_true hl]; rfl)
  have hz : len16 m.yes.length = 0 := by unfold len16; rw [if_pos hl]
  rw [hz] at HC7
  clear hz hl
  go_wp2_with (first | go_big_skip | go_big_want | go_big_guard)
  refine (HC7.out _).mono ?_
  rintro e w1 ⟨rfl, hb1⟩
  have HB1 := Lib.hid (Below.then HB0.out hb1)
  have HR1 := Lib.hid ((row_below hb1 (row_lt HR0.out)).trans HR0.out)
  clear hb1 c0 HB0 HR0 HC7 r0
  have rr := HR1.out
  have c0 := fun i => row_cell rr i
  by_cases hl : m.no.length = 16
  rotate_left
  · have HV2 : Hid (fit23 m = false) := Lib.hid (by rw [HV.out, decide_eq_false hl]; rfl)
    have hz : len16 m.no.length = 60 := by unfold len16; rw [if_neg hl]
    rw [hz] at HC8
    clear hl
    go_wp2_with (first | go_big_skip | go_big_want | go_big_guard)
    refine (HC8.out _).mono ?_
    rintro e w1 ⟨rfl, hb1⟩
    have HB1 := Lib.hid (Below.then HB1.out hb1)
    clear hb1
    go_wp2_with (first | go_big_skip | go_big_want | go_big_guard)
    go_ret
    exact ⟨by rw [HV2.out]; rfl, HB1.out⟩
  replace HV : Hid (fit23 m = parB m) := Lib.hid (by rw [HV.out, decide_eq_true hl]; rfl)
  have hz : len16 m.no.length = 0 := by unfold len16; rw [if_pos hl]
  rw [hz] at HC8
  clear hz hl
  go_wp2_with (first | go_big_skip | go_big_want | go_big_guard)
  refine (HC8.out _).mono ?_
  rintro e w2 ⟨rfl, hb2⟩
  have HB2 := Lib.hid (Below.then HB1.out hb2)
  have HR2 := Lib.hid ((row_below hb2 (row_lt HR1.out)).trans HR1.out)
  clear hb2 c0 HB1 HR1 HC8 rr
  have rr := HR2.out
  have c0 := fun i => row_cell rr i
  by_cases hw1 : m.what = 1
  · have HV2 : Hid (fit23 m = rightB m.par) := Lib.hid (by rw [HV.out]; unfold parB; rw [if_pos hw1])
    have hck : checkE m.par = if rightB m.par then 0 else 70 := rfl
    rw [hck] at HCp
    have e1 : (m.what == 1) = true := beq_iff_eq.2 hw1
    clear hw1 hck
    cases hr : rightB m.par with
    | true =>
      rw [hr] at HCp HV2
      go_wp2_with (first | go_big_skip | go_big_want | go_big_guard)
      refine (HCp.out _).mono ?_
      rintro e w3 ⟨rfl, hb3⟩
      go_wp2_with (first | go_big_skip | go_big_want | go_big_guard)
      go_ret
      exact ⟨by rw [HV2.out]; rfl, Below.then HB2.out hb3⟩
    | false =>
      rw [hr] at HCp HV2
      go_wp2_with (first | go_big_skip | go_big_want | go_big_guard)
      refine (HCp.out _).mono ?_
      rintro e w3 ⟨rfl, hb3⟩
      go_wp2_with (first | go_big_skip | go_big_want | go_big_guard)
      go_ret
      exact ⟨by rw [HV2.out]; rfl, Below.then HB2.out hb3⟩
  · have HV2 : Hid (fit23 m = parEq m.par zeroP) := Lib.hid (by rw [HV.out]; unfold parB; rw [if_neg hw1])
    have e1 : (m.what == 1) = false := beq_eq_false_iff_ne.2 hw1
    clear hw1
    go_wp2_with (first | go_big_skip | go_big_want | go_big_guard)
    go_ret
    exact ⟨by rw [HV2.out]; rfl, HB2.out⟩
set_option maxRecDepth 100000 in
set_option maxHeartbeats 16000000 in
theorem rfits23_any (m : Mot) (a : MotA) (hy : m.yes.length ≤ 1000000) (hno : m.no.length ≤ 1000000) (w : World) : Calls Try.prog 42 #[.agg (motC (m, a))] w fun e w' => e = .returned (.bool (fit23 m)) ∧ Below w.heap.size w w' := by
  have r0 : row (w.alloc (.cells (motC (m, a)) 107)) w.heap.size = some (motC (m, a)) := (by (repeat (first | assumption | (refine row_at _ _ _ _ ?_; first | rfl | (simp only [World.size_alloc]; done) | (simp only [World.size_alloc]; omega)) | (refine (row_past _ _ _ ?_).trans ?_; (focus (first | exact Nat.lt_succ_self _ | ((repeat rw [World.size_alloc]); omega) | (simp; done) | (simp; omega) | omega))) | rw [row_drewN] | rw [row_drew])); (first | done | fail))
  have hB0 : Below w.heap.size w (w.alloc (.cells (motC (m, a)) 107)) := (by (repeat (first | exact Below.refl _ _ | assumption | (refine Below.allocT ?_ _) | refine Below.drew ?_ | refine below_drewN ?_ _ | (refine Below.then ?_ (by assumption)) | (refine Below.setRow ?_ ?_ _; rotate_left; (focus (first | exact Nat.lt_succ_self _ | ((repeat rw [World.size_alloc]); omega) | (simp; done) | (simp; omega) | omega))) | (refine Below.setCell ?_ ?_ _; rotate_left; (focus (first | exact Nat.lt_succ_self _ | ((repeat rw [World.size_alloc]); omega) | (simp; done) | (simp; omega) | omega))) | (refine Below.then' ?_ (by assumption) ?_; rotate_left; (focus (first | exact Nat.lt_succ_self _ | ((repeat rw [World.size_alloc]); omega) | (simp; done) | (simp; omega) | omega))) | fail)); (first | done | fail))
  have HC0 := Lib.hid (fun W => in23_any m.account 0 63 W)
  obtain ⟨b0, h0⟩ : ∃ b, betw m.account 0 63 = b := ⟨_, rfl⟩
  rw [h0] at HC0
  have HC1 := Lib.hid (fun W => in23_any m.dest 0 63 W)
  obtain ⟨b1, h1⟩ : ∃ b, betw m.dest 0 63 = b := ⟨_, rfl⟩
  rw [h1] at HC1
  have HC2 := Lib.hid (fun W => in23_any m.what 1 4 W)
  obtain ⟨b2, h2⟩ : ∃ b, betw m.what 1 4 = b := ⟨_, rfl⟩
  rw [h2] at HC2
  have HC3 := Lib.hid (fun W => in23_any m.state 1 4 W)
  obtain ⟨b3, h3⟩ : ∃ b, betw m.state 1 4 = b := ⟨_, rfl⟩
  rw [h3] at HC3
  have HC4 := Lib.hid (fun W => in23_any m.ends 0 2147483647 W)
  obtain ⟨b4, h4⟩ : ∃ b, betw m.ends 0 2147483647 = b := ⟨_, rfl⟩
  rw [h4] at HC4
  have HC5 := Lib.hid (fun W => in23_any m.due 0 2147483647 W)
  obtain ⟨b5, h5⟩ : ∃ b, betw m.due 0 2147483647 = b := ⟨_, rfl⟩
  rw [h5] at HC5
  have HC7 := Lib.hid (fun W => rright20 a.a1 m.yes.length a.c1 hy W)
  have HC8 := Lib.hid (fun W => rright20 a.a2 m.no.length a.c2 hno W)
  have HCp := Lib.hid (fun W => right_any m.par W)
  have HV : Hid (fit23 m = (b0 && (b1 && (b2 && (b3 && (b4 && (b5 && (decide (m.amount ≤ 4611686018427387904) && (decide (m.yes.length = 16) && (decide (m.no.length = 16) && parB m)))))))))) := Lib.hid (by unfold fit23; rw [h0, h1, h2, h3, h4, h5])
  clear h0 h1 h2 h3 h4 h5 hy hno
  obtain ⟨w0, hw0⟩ : ∃ x, x = w.alloc (.cells (motC (m, a)) 107) := ⟨_, rfl⟩
  rw [← hw0] at r0 hB0
  have c0 := fun i => row_cell r0 i
  have HB0 := Lib.hid hB0
  have HR0 := Lib.hid r0
  clear hB0
  go_enter Try.func42, Try.ntmps42
  try simp only [lapp_cons, lapp_nil]
  go_upto_region 1 with (rw [← hw0]; clear hw0)
  go_wp2_with (first | go_big_skip | go_big_want | go_big_guard)
  refine (HC0.out _).mono ?_
  rintro e w1 ⟨rfl, rfl⟩
  clear HC0
  cases b0
  · go_wp2_with (first | go_big_skip | go_big_want | go_big_guard)
    go_ret
    exact ⟨by rw [HV.out]; rfl, HB0.out⟩
  go_wp2_with (first | go_big_skip | go_big_want | go_big_guard)
  refine (HC1.out _).mono ?_
  rintro e w1 ⟨rfl, rfl⟩
  clear HC1
  cases b1
  · go_wp2_with (first | go_big_skip | go_big_want | go_big_guard)
    go_ret
    exact ⟨by rw [HV.out]; rfl, HB0.out⟩
  go_wp2_with (first | go_big_skip | go_big_want | go_big_guard)
  refine (HC2.out _).mono ?_
  rintro e w1 ⟨rfl, rfl⟩
  clear HC2
  cases b2
  · go_wp2_with (first | go_big_skip | go_big_want | go_big_guard)
    go_ret
    exact ⟨by rw [HV.out]; rfl, HB0.out⟩
  go_wp2_with (first | go_big_skip | go_big_want | go_big_guard)
  refine (HC3.out _).mono ?_
  rintro e w1 ⟨rfl, rfl⟩
  clear HC3
  cases b3
  · go_wp2_with (first | go_big_skip | go_big_want | go_big_guard)
    go_ret
    exact ⟨by rw [HV.out]; rfl, HB0.out⟩
  go_wp2_with (first | go_big_skip | go_big_want | go_big_guard)
  refine (HC4.out _).mono ?_
  rintro e w1 ⟨rfl, rfl⟩
  clear HC4
  cases b4
  · go_wp2_with (first | go_big_skip | go_big_want | go_big_guard)
    go_ret
    exact ⟨by rw [HV.out]; rfl, HB0.out⟩
  go_wp2_with (first | go_big_skip | go_big_want | go_big_guard)
  refine (HC5.out _).mono ?_
  rintro e w1 ⟨rfl, rfl⟩
  clear HC5
  cases b5
  · go_wp2_with (first | go_big_skip | go_big_want | go_big_guard)
    go_ret
    exact ⟨by rw [HV.out]; rfl, HB0.out⟩
  by_cases hm : 4611686018427387904 < m.amount
  · have hm' : (4611686018427387904 : Int) < (m.amount : Int) := by omega
    have HV2 : Hid (fit23 m = false) := Lib.hid (by rw [HV.out, decide_eq_false (show ¬ m.amount ≤ 4611686018427387904 by omega)]; rfl)
    clear hm
    go_wp2_with (first | go_big_skip | go_big_want | go_big_guard)
    go_ret
    exact ⟨by rw [HV2.out]; rfl, HB0.out⟩
  have hm' : ¬ (4611686018427387904 : Int) < (m.amount : Int) := by omega
  replace HV : Hid (fit23 m = (decide (m.yes.length = 16) && (decide (m.no.length = 16) && parB m))) := Lib.hid (by rw [HV.out, decide_eq_true (show m.amount ≤ 4611686018427387904 by omega)]; rfl)
  clear hm
  by_cases hl : m.yes.length = 16
  rotate_left
  · have HV2 : Hid (fit23 m = false) := Lib.hid (by rw [HV.out, decide_eq_false hl]; rfl)
    rw [decide_eq_false hl] at HC7
    clear hl
    go_wp2_with (first | go_big_skip | go_big_want | go_big_guard)
    refine (HC7.out _).mono ?_
    rintro e w1 ⟨rfl, hb1⟩
    have HB1 := Lib.hid (Below.then HB0.out hb1)
    clear hb1
    go_wp2_with (first | go_big_skip | go_big_want | go_big_guard)
    go_ret
    exact ⟨by rw [HV2.out]; rfl, HB1.out⟩
  replace HV : Hid (fit23 m = (decide (m.no.length = 16) && parB m)) := Lib.hid (by rw [HV.out, decide_eq_true hl]; rfl)
  rw [decide_eq_true hl] at HC7
  clear hl
  go_wp2_with (first | go_big_skip | go_big_want | go_big_guard)
  refine (HC7.out _).mono ?_
  rintro e w1 ⟨rfl, hb1⟩
  have HB1 := Lib.hid (Below.then HB0.out hb1)
  have HR1 := Lib.hid ((row_below hb1 (row_lt HR0.out)).trans HR0.out)
  clear hb1 c0 HB0 HR0 HC7 r0
  have rr := HR1.out
  have c0 := fun i => row_cell rr i
  by_cases hl : m.no.length = 16
  rotate_left
  · have HV2 : Hid (fit23 m = false) := Lib.hid (by rw [HV.out, decide_eq_false hl]; rfl)
    rw [decide_eq_false hl] at HC8
    clear hl
    go_wp2_with (first | go_big_skip | go_big_want | go_big_guard)
    refine (HC8.out _).mono ?_
    rintro e w1 ⟨rfl, hb1⟩
    have HB1 := Lib.hid (Below.then HB1.out hb1)
    clear hb1
    go_wp2_with (first | go_big_skip | go_big_want | go_big_guard)
    go_ret
    exact ⟨by rw [HV2.out]; rfl, HB1.out⟩
  replace HV : Hid (fit23 m = parB m) := Lib.hid (by rw [HV.out, decide_eq_true hl]; rfl)
  rw [decide_eq_true hl] at HC8
  clear hl
  go_wp2_with (first | go_big_skip | go_big_want | go_big_guard)
  refine (HC8.out _).mono ?_
  rintro e w2 ⟨rfl, hb2⟩
  have HB2 := Lib.hid (Below.then HB1.out hb2)
  have HR2 := Lib.hid ((row_below hb2 (row_lt HR1.out)).trans HR1.out)
  clear hb2 c0 HB1 HR1 HC8 rr
  have rr := HR2.out
  have c0 := fun i => row_cell rr i
  by_cases hw1 : m.what = 1
  · have HV2 : Hid (fit23 m = rightB m.par) := Lib.hid (by rw [HV.out]; unfold parB; rw [if_pos hw1])
    have e1 : (m.what == 1) = true := beq_iff_eq.2 hw1
    clear hw1
    go_wp2_with (first | go_big_skip | go_big_want | go_big_guard)
    refine (HCp.out _).mono ?_
    rintro e w3 ⟨rfl, hb3⟩
    go_wp2_with (first | go_big_skip | go_big_want | go_big_guard)
    go_ret
    exact ⟨by rw [HV2.out]; rfl, Below.then HB2.out hb3⟩
  · have HV2 : Hid (fit23 m = parEq m.par zeroP) := Lib.hid (by rw [HV.out]; unfold parB; rw [if_neg hw1])
    have e1 : (m.what == 1) = false := beq_eq_false_iff_ne.2 hw1
    clear hw1
    go_wp2_with (first | go_big_skip | go_big_want | go_big_guard)
    go_ret
    exact ⟨by rw [HV2.out]; rfl, HB2.out⟩
end Go.Proofs.Ytnakkjgnjffkpaa

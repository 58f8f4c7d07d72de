/-
  Layer 23: which motions are counted, which pass, which are ripe, and what is over, are the document's.
-/
import Derived.Test.YtnakkjgnjffkpaaLaw23
import Derived.Test.YtnakkjgnjffkpaaRef23
import Derived.Test.YtnakkjgnjffkpaaRef23f
import Derived.Test.YtnakkjgnjffkpaaMoot10
import Derived.Test.YtnakkjgnjffkpaaPlain19
import Derived.Test.YtnakkjgnjffkpaaOpenMot
namespace Go.Proofs.Ytnakkjgnjffkpaa
open Go.RowKit
set_option linter.unusedVariables false

theorem finL_few (L : List Mot) (i : Int) (done : Bool) : (finL L i done).1.length ≤ L.length := by
  unfold finL
  split
  · simp
  · split
    · simp
    · simp
theorem rowC {W W' : World} {g : Nat} {cs : Array Value} (h : row W g = some cs) (hb : Below W.heap.size W W') : row W' g = some cs := below_row' hb h
set_option maxRecDepth 100000 in
set_option maxHeartbeats 16000000 in
theorem mootCloses_any (p : Par) (A : Option Addr) (n c : Nat) (xs : List (Mot × MotA)) (A1 : Option Addr) (n1 c1 : Nat) (ms : List Mb) (i mem ep : Int) (yes quo : Bool) (hp : p.Ok) (hep : i64ok ep) (hn : xs.length = n) (h0 : A = none → c = 0) (hm : n ≤ 9223372036854775807) (hn1 : ms.length = n1) (hok : ∀ m ∈ ms, m.Ok) (w : World) (hX : ML w A xs) (hU : SliceOf 6 Mb.cells w A1 ms) :
    Calls Try.prog 10 #[.agg p.cells, .agg #[.slice A n c, .slice A1 n1 c1], .agg #[.int .i64 i, .int .i64 mem, .int .i64 ep, .bool yes, .bool quo]] w fun e w' => e = .returned (.bool true) ∧ Below w.heap.size w w' := by
  have r0 : row (((w.alloc (.cells p.cells 76)).alloc (.cells #[.slice A n c, .slice A1 n1 c1] 111)).alloc (.cells #[.int .i64 i, .int .i64 mem, .int .i64 ep, .bool yes, .bool quo] 97)) w.heap.size = some p.cells := (by (repeat (first | assumption | (refine row_at _ _ _ _ ?_; first | rfl | (simp only [World.size_alloc]; done) | (simp only [World.size_alloc]; omega)) | (refine (row_past _ _ _ ?_).trans ?_; (focus (first | exact Nat.lt_succ_self _ | ((repeat rw [World.size_alloc]); omega) | (simp; done) | (simp; omega) | omega))) | rw [row_drewN] | rw [row_drew])); (first | done | fail))
  have q0 : row (((w.alloc (.cells p.cells 76)).alloc (.cells #[.slice A n c, .slice A1 n1 c1] 111)).alloc (.cells #[.int .i64 i, .int .i64 mem, .int .i64 ep, .bool yes, .bool quo] 97)) (w.heap.size + 1) = some #[.slice A n c, .slice A1 n1 c1] := (by (repeat (first | assumption | (refine row_at _ _ _ _ ?_; first | rfl | (simp only [World.size_alloc]; done) | (simp only [World.size_alloc]; omega)) | (refine (row_past _ _ _ ?_).trans ?_; (focus (first | exact Nat.lt_succ_self _ | ((repeat rw [World.size_alloc]); omega) | (simp; done) | (simp; omega) | omega))) | rw [row_drewN] | rw [row_drew])); (first | done | fail))
  have s0 : row (((w.alloc (.cells p.cells 76)).alloc (.cells #[.slice A n c, .slice A1 n1 c1] 111)).alloc (.cells #[.int .i64 i, .int .i64 mem, .int .i64 ep, .bool yes, .bool quo] 97)) (w.heap.size + 2) = some #[.int .i64 i, .int .i64 mem, .int .i64 ep, .bool yes, .bool quo] := (by (repeat (first | assumption | (refine row_at _ _ _ _ ?_; first | rfl | (simp only [World.size_alloc]; done) | (simp only [World.size_alloc]; omega)) | (refine (row_past _ _ _ ?_).trans ?_; (focus (first | exact Nat.lt_succ_self _ | ((repeat rw [World.size_alloc]); omega) | (simp; done) | (simp; omega) | omega))) | rw [row_drewN] | rw [row_drew])); (first | done | fail))
  have hB0 : Below w.heap.size w (((w.alloc (.cells p.cells 76)).alloc (.cells #[.slice A n c, .slice A1 n1 c1] 111)).alloc (.cells #[.int .i64 i, .int .i64 mem, .int .i64 ep, .bool yes, .bool quo] 97)) := (by (repeat (first | exact Below.refl _ _ | assumption | (refine Below.allocT ?_ _) | refine Below.drew ?_ | refine below_drewN ?_ _ | (refine Below.then ?_ (by assumption)) | (refine Below.setRow ?_ ?_ _; rotate_left; (focus (first | exact Nat.lt_succ_self _ | ((repeat rw [World.size_alloc]); omega) | (simp; done) | (simp; omega) | omega))) | (refine Below.setCell ?_ ?_ _; rotate_left; (focus (first | exact Nat.lt_succ_self _ | ((repeat rw [World.size_alloc]); omega) | (simp; done) | (simp; omega) | omega))) | (refine Below.then' ?_ (by assumption) ?_; rotate_left; (focus (first | exact Nat.lt_succ_self _ | ((repeat rw [World.size_alloc]); omega) | (simp; done) | (simp; omega) | omega))) | fail)); (first | done | fail))
  have HX := Lib.hid hX
  have HN := Lib.hid hn
  have HZ := Lib.hid h0
  have HU := Lib.hid hU
  have HN1 := Lib.hid hn1
  have HOk := Lib.hid hok
  have HP := Lib.hid hp
  have HEp := Lib.hid hep
  clear hX hn h0 hU hn1 hok hp hep
  go_enter Try.func10, Try.ntmps10
  go_upto_region 1 with fail
  change Code.wp _ _ _ _ (((w.alloc (.cells p.cells 76)).alloc (.cells #[.slice A n c, .slice A1 n1 c1] 111)).alloc (.cells #[.int .i64 i, .int .i64 mem, .int .i64 ep, .bool yes, .bool quo] 97))
  generalize ((w.alloc (.cells p.cells 76)).alloc (.cells #[.slice A n c, .slice A1 n1 c1] 111)).alloc (.cells #[.int .i64 i, .int .i64 mem, .int .i64 ep, .bool yes, .bool quo] 97) = w0 at *
  have HB0 := Lib.hid hB0
  have HR0 := Lib.hid (And.intro r0 (And.intro q0 s0))
  clear hB0 r0 q0 s0
  go_wp2_with fail
  refine (awake23_any _).mono ?_
  rintro e w1 ⟨rfl, hb1⟩
  have HB1 := Lib.hid (Below.then HB0.out hb1)
  have HR1 := Lib.hid (And.intro (rowC HR0.out.1 hb1) (And.intro (rowC HR0.out.2.1 hb1) (rowC HR0.out.2.2 hb1)))
  clear hb1 HR0 HB0
  have k10 : w1.cell? ⟨w.heap.size + 1, 0, none⟩ = some (.slice A n c) := row_cell HR1.out.2.1 0
  go_wp2_with fail
  refine (few23_any A n c xs HN.out hm _ (HX.out.below HB1.out (Nat.le_refl _))).mono ?_
  rintro e w2 ⟨rfl, hb2⟩
  have HB2 := Lib.hid (Below.then HB1.out hb2)
  have HR2 := Lib.hid (And.intro (rowC HR1.out.1 hb2) (And.intro (rowC HR1.out.2.1 hb2) (rowC HR1.out.2.2 hb2)))
  clear hb2 HR1 HB1 k10
  have k11 : w2.cell? ⟨w.heap.size + 1, 1, none⟩ = some (.slice A1 n1 c1) := row_cell HR2.out.2.1 1
  have k22 : w2.cell? ⟨w.heap.size + 2, 2, none⟩ = some (.int .i64 ep) := row_cell HR2.out.2.2 2
  have r2 := HR2.out.1
  cases hfw : fewM xs
  case false =>
    clear hfw
    go_wp2_with fail
    go_ret
    exact ⟨rfl, HB2.out⟩
  case true =>
  have HF := Lib.hid (fewM_of hfw)
  clear hfw
  have hm60 : n ≤ 60 := by have := HF.out.2; rw [HN.out] at this; exact this
  by_cases h200 : 200 < n1
  · have h200' : (200 : Int) < (n1 : Int) := by omega
    clear h200
    go_wp2_with fail
    go_ret
    exact ⟨rfl, HB2.out⟩
  have h200' : ¬ (200 : Int) < (n1 : Int) := by omega
  by_cases he0 : ep < 0
  · go_wp2_with fail
    go_ret
    exact ⟨rfl, HB2.out⟩
  by_cases he1 : 1073741824 < ep
  · go_wp2_with fail
    go_ret
    exact ⟨rfl, HB2.out⟩
  have HRp := Lib.hid (fun W => right_any p W)
  cases hr : rightB p
  case false =>
    rw [hr] at HRp
    go_wp2_with fail
    refine (plain_any p _).mono ?_
    rintro e w3 ⟨rfl, hb3⟩
    go_wp2_with fail
    refine (HRp.out _).mono ?_
    rintro e w4 ⟨rfl, hb4⟩
    go_wp2_with fail
    go_ret
    exact ⟨rfl, Below.then (Below.then HB2.out hb3) hb4⟩
  case true =>
  rw [hr] at HRp
  have hoth : Hid ((0 ≤ p.enact ∧ p.enact ≤ 1000) ∧ (0 ≤ ep ∧ ep ≤ 1073741824)) := Lib.hid ⟨(by
    unfold rightB at hr
    simp only [Bool.and_eq_true] at hr
    exact (others_facts hr.2.2.1).2.2.2.2.1), by omega, by omega⟩
  have hn1' : n1 ≤ 200 := by omega
  clear h200 hr
  go_wp2_with fail
  refine (plain_any p _).mono ?_
  rintro e w3 ⟨rfl, hb3⟩
  have HB3 := Lib.hid (Below.then HB2.out hb3)
  have HR3 := Lib.hid (And.intro (rowC HR2.out.1 hb3) (And.intro (rowC HR2.out.2.1 hb3) (rowC HR2.out.2.2 hb3)))
  clear hb3 HR2 HB2 k11 k22 r2
  go_wp2_with fail
  refine (HRp.out _).mono ?_
  rintro e w4 ⟨rfl, hb4⟩
  have HB4 := Lib.hid (Below.then HB3.out hb4)
  have HR4 := Lib.hid (And.intro (rowC HR3.out.1 hb4) (And.intro (rowC HR3.out.2.1 hb4) (rowC HR3.out.2.2 hb4)))
  clear hb4 HR3 HB3 HRp
  have hf : ∀ x ∈ xs, x.1.yes.length ≤ 1000000 ∧ x.1.no.length ≤ 1000000 := fun x hx => by have := HF.out.1 x hx; omega
  have HMC := Lib.hid (fun W h => mclose_any p A n c xs A1 n1 c1 ms ep HP.out HEp.out HN.out HZ.out (by omega) HN1.out (by omega) HOk.out W (HX.out.below h (Nat.le_refl _)) (HU.out.below h (Nat.le_refl _)) hf)
  have HRC := Lib.hid (fun W A' c' A1' c1' hM hS => rclose_any p A' n c' xs A1' n1 c1' ms ep HP.out.quorum hoth.out.1 hoth.out.2 HN.out (by omega) HN1.out (by omega) HOk.out W hM hS)
  have HMF := Lib.hid (fun W h => mfinish_any A n c xs i yes HN.out HZ.out (by omega) W (HX.out.below h (Nat.le_refl _)) hf)
  have HRF := Lib.hid (fun W A' c' hM => rfinish_any A' n c' xs i yes HN.out (by omega) W hM)
  have HMR := Lib.hid (fun W h => mripe_any A n c xs ep quo HN.out (by omega) W (HX.out.sl.below h (Nat.le_refl _)))
  have HRR := Lib.hid (fun W A' c' hM => rripe_any A' n c' xs ep quo HN.out (by omega) W hM)
  have HPl := Lib.hid (fun W h => plainML_any A n c xs HN.out (by omega) W (HX.out.below h (Nat.le_refl _)))
  have hcl : (closeL p.quorum p.enact ms ep (xs.map (·.1))).length = n := by unfold closeL; rw [List.length_map, List.length_map]; exact HN.out
  have hfl := finL_few (xs.map (·.1)) i yes
  rw [List.length_map, HN.out] at hfl
  have hrl : (ripeL ep quo (xs.map (·.1))).length ≤ 60 := by
    have := ripeK_few ep quo (xs.map (·.1)) (xs.map (·.1)).length
    rw [List.length_map, HN.out] at this
    unfold ripeL
    rw [List.length_map, HN.out]; omega
  generalize closeL p.quorum p.enact ms ep (xs.map (·.1)) = CL at *
  generalize finL (xs.map (·.1)) i yes = FF at *
  obtain ⟨FL, FE⟩ := FF
  have hfl : FL.length ≤ n := hfl
  generalize ripeL ep quo (xs.map (·.1)) = RL at *
  clear hf
  have k40 : w4.cell? ⟨w.heap.size + 1, 0, none⟩ = some (.slice A n c) := row_cell HR4.out.2.1 0
  have k41 : w4.cell? ⟨w.heap.size + 1, 1, none⟩ = some (.slice A1 n1 c1) := row_cell HR4.out.2.1 1
  have k42 : w4.cell? ⟨w.heap.size + 2, 2, none⟩ = some (.int .i64 ep) := row_cell HR4.out.2.2 2
  have r4 := HR4.out.1
  go_wp2_with fail
  refine (HMC.out _ HB4.out).mono ?_
  rintro e w5 ⟨A5, n5, c5, ys, rfl, hn5, hM5, hL5, h05, hb5⟩
  have HB5 := Lib.hid (Below.then HB4.out hb5)
  have HR5 := Lib.hid (And.intro (rowC HR4.out.1 hb5) (And.intro (rowC HR4.out.2.1 hb5) (rowC HR4.out.2.2 hb5)))
  have hn5' : n5 = n := by rw [← hn5, ← hcl, ← hL5, List.length_map]
  subst hn5'
  have HM5 := Lib.hid hM5
  have HL5 := Lib.hid (And.intro hn5 hL5)
  clear hb5 HR4 HB4 k40 k41 k42 r4 hM5 hn5 hL5 h05 HMC
  go_upto_region 6 with fail
  have HM : Hid (∀ W, Below w5.heap.size w5 W → row W w.heap.size = some p.cells ∧ W.cell? ⟨w.heap.size + 1, 0, none⟩ = some (.slice A n5 c) ∧ W.cell? ⟨w.heap.size + 1, 1, none⟩ = some (.slice A1 n1 c1) ∧ W.cell? ⟨w.heap.size + 2, 2, none⟩ = some (.int .i64 ep)) := Lib.hid fun W h =>
    ⟨rowC HR5.out.1 h, row_cell (rowC HR5.out.2.1 h) 0, row_cell (rowC HR5.out.2.1 h) 1, row_cell (rowC HR5.out.2.2 h) 2⟩
  have HPm := Lib.hid (fun W h => plainL_any A1 n1 c1 ms HN1.out (by omega) W (HU.out.below h (Nat.le_refl _)))
  go_region_held3 (fun W => row W w.heap.size = some p.cells ∧ W.cell? ⟨w.heap.size + 1, 0, none⟩ = some (.slice A n5 c) ∧ W.cell? ⟨w.heap.size + 1, 1, none⟩ = some (.slice A1 n1 c1) ∧ W.cell? ⟨w.heap.size + 2, 2, none⟩ = some (.int .i64 ep)) (exact HM.out _ (by (repeat (first | exact Below.refl _ _ | assumption | (refine Below.allocT ?_ _) | refine Below.drew ?_ | refine below_drewN ?_ _ | (refine Below.then ?_ (by assumption)) | (refine Below.setRow ?_ ?_ _; rotate_left; (focus (first | exact Nat.lt_succ_self _ | ((repeat rw [World.size_alloc]); omega) | (simp; done) | (simp; omega) | omega))) | (refine Below.setCell ?_ ?_ _; rotate_left; (focus (first | exact Nat.lt_succ_self _ | ((repeat rw [World.size_alloc]); omega) | (simp; done) | (simp; omega) | omega))) | (refine Below.then' ?_ (by assumption) ?_; rotate_left; (focus (first | exact Nat.lt_succ_self _ | ((repeat rw [World.size_alloc]); omega) | (simp; done) | (simp; omega) | omega))) | fail)); (first | done | fail))) (first | (go_at_call 35; refine (plain_any p _).mono ?_; rintro e w6 ⟨rfl, hb6⟩) | (go_at_call 36; refine (HPl.out _ (Below.then HB5.out (by (repeat (first | exact Below.refl _ _ | assumption | (refine Below.allocT ?_ _) | refine Below.drew ?_ | refine below_drewN ?_ _ | (refine Below.then ?_ (by assumption)) | (refine Below.setRow ?_ ?_ _; rotate_left; (focus (first | exact Nat.lt_succ_self _ | ((repeat rw [World.size_alloc]); omega) | (simp; done) | (simp; omega) | omega))) | (refine Below.setCell ?_ ?_ _; rotate_left; (focus (first | exact Nat.lt_succ_self _ | ((repeat rw [World.size_alloc]); omega) | (simp; done) | (simp; omega) | omega))) | (refine Below.then' ?_ (by assumption) ?_; rotate_left; (focus (first | exact Nat.lt_succ_self _ | ((repeat rw [World.size_alloc]); omega) | (simp; done) | (simp; omega) | omega))) | fail)); (first | done | fail)))).mono ?_; rintro e w7 ⟨A7, c7, rfl, hM7, hb7⟩) | (go_at_call 46; refine (HPm.out _ (Below.then HB5.out (by (repeat (first | exact Below.refl _ _ | assumption | (refine Below.allocT ?_ _) | refine Below.drew ?_ | refine below_drewN ?_ _ | (refine Below.then ?_ (by assumption)) | (refine Below.setRow ?_ ?_ _; rotate_left; (focus (first | exact Nat.lt_succ_self _ | ((repeat rw [World.size_alloc]); omega) | (simp; done) | (simp; omega) | omega))) | (refine Below.setCell ?_ ?_ _; rotate_left; (focus (first | exact Nat.lt_succ_self _ | ((repeat rw [World.size_alloc]); omega) | (simp; done) | (simp; omega) | omega))) | (refine Below.then' ?_ (by assumption) ?_; rotate_left; (focus (first | exact Nat.lt_succ_self _ | ((repeat rw [World.size_alloc]); omega) | (simp; done) | (simp; omega) | omega))) | fail)); (first | done | fail)))).mono ?_; rintro e w8 ⟨A8, c8, rfl, hS8, hb8⟩; rw [HN1.out]) | (go_at_call 45; refine (HRC.out _ A7 c7 A8 c8 (hM7.stay (by (repeat (first | exact Below.refl _ _ | assumption | (refine Below.allocT ?_ _) | refine Below.drew ?_ | refine below_drewN ?_ _ | (refine Below.then ?_ (by assumption)) | (refine Below.setRow ?_ ?_ _; rotate_left; (focus (first | exact Nat.lt_succ_self _ | ((repeat rw [World.size_alloc]); omega) | (simp; done) | (simp; omega) | omega))) | (refine Below.setCell ?_ ?_ _; rotate_left; (focus (first | exact Nat.lt_succ_self _ | ((repeat rw [World.size_alloc]); omega) | (simp; done) | (simp; omega) | omega))) | (refine Below.then' ?_ (by assumption) ?_; rotate_left; (focus (first | exact Nat.lt_succ_self _ | ((repeat rw [World.size_alloc]); omega) | (simp; done) | (simp; omega) | omega))) | fail)); (first | done | fail))) (SliceOf.below hS8 (show Below w8.heap.size w8 _ from (by (repeat (first | exact Below.refl _ _ | assumption | (refine Below.allocT ?_ _) | refine Below.drew ?_ | refine below_drewN ?_ _ | (refine Below.then ?_ (by assumption)) | (refine Below.setRow ?_ ?_ _; rotate_left; (focus (first | exact Nat.lt_succ_self _ | ((repeat rw [World.size_alloc]); omega) | (simp; done) | (simp; omega) | omega))) | (refine Below.setCell ?_ ?_ _; rotate_left; (focus (first | exact Nat.lt_succ_self _ | ((repeat rw [World.size_alloc]); omega) | (simp; done) | (simp; omega) | omega))) | (refine Below.then' ?_ (by assumption) ?_; rotate_left; (focus (first | exact Nat.lt_succ_self _ | ((repeat rw [World.size_alloc]); omega) | (simp; done) | (simp; omega) | omega))) | fail)); (first | done | fail))) (Nat.le_refl _))).mono ?_; rintro e w9 ⟨A9, n9, c9, zs, rfl, hn9, hM9, hL9, h09, hb9⟩))
  have h59 : Below w5.heap.size w5 w9 := (by (repeat (first | exact Below.refl _ _ | assumption | (refine Below.allocT ?_ _) | refine Below.drew ?_ | refine below_drewN ?_ _ | (refine Below.then ?_ (by assumption)) | (refine Below.setRow ?_ ?_ _; rotate_left; (focus (first | exact Nat.lt_succ_self _ | ((repeat rw [World.size_alloc]); omega) | (simp; done) | (simp; omega) | omega))) | (refine Below.setCell ?_ ?_ _; rotate_left; (focus (first | exact Nat.lt_succ_self _ | ((repeat rw [World.size_alloc]); omega) | (simp; done) | (simp; omega) | omega))) | (refine Below.then' ?_ (by assumption) ?_; rotate_left; (focus (first | exact Nat.lt_succ_self _ | ((repeat rw [World.size_alloc]); omega) | (simp; done) | (simp; omega) | omega))) | fail)); (first | done | fail))
  have HB9 := Lib.hid (Below.then HB5.out h59)
  have HR9 := Lib.hid (And.intro (rowC HR5.out.1 h59) (And.intro (rowC HR5.out.2.1 h59) (rowC HR5.out.2.2 h59)))
  have hn9' : n9 = n5 := by rw [← hn9, ← hcl, ← hL9, List.length_map]
  subst hn9'
  have HM9 := Lib.hid hM9
  have HL9 := Lib.hid (And.intro hn9 hL9)
  clear hb6 hb7 hb8 hb9 hM7 hS8 hM9 hn9 hL9 h09 HR5 HM HRC HPm HB5
  have k91 : w9.cell? ⟨w.heap.size + 1, 0, none⟩ = some (.slice A n9 c) := row_cell HR9.out.2.1 0
  have k92 : w9.cell? ⟨w.heap.size + 2, 0, none⟩ = some (.int .i64 i) := row_cell HR9.out.2.2 0
  have k93 : w9.cell? ⟨w.heap.size + 2, 3, none⟩ = some (.bool yes) := row_cell HR9.out.2.2 3
  go_wp2_with fail
  refine (HMF.out _ HB9.out).mono ?_
  rintro e w10 ⟨A10, n10, c10, fs, rfl, hn10, hM10, hL10, h010, hb10⟩
  have HB10 := Lib.hid (Below.then HB9.out hb10)
  have HR10 := Lib.hid (And.intro (rowC HR9.out.1 hb10) (And.intro (rowC HR9.out.2.1 hb10) (rowC HR9.out.2.2 hb10)))
  have HM10 := Lib.hid hM10
  have HL10 := Lib.hid (And.intro hn10 hL10)
  have H910 := Lib.hid (And.intro h59 hb10)
  have hn10' : n10 ≤ n9 := by rw [← hn10, ← List.length_map (·.1), hL10]; exact hfl
  clear hb10 HR9 HB9 k91 k92 k93 hM10 hn10 hL10 h010 HMF h59
  go_upto_region 8 with fail
  have HM : Hid (∀ W, Below w10.heap.size w10 W → W.cell? ⟨w.heap.size + 1, 0, none⟩ = some (.slice A n9 c) ∧ W.cell? ⟨w.heap.size + 2, 0, none⟩ = some (.int .i64 i) ∧ W.cell? ⟨w.heap.size + 2, 3, none⟩ = some (.bool yes)) := Lib.hid fun W h =>
    ⟨row_cell (rowC HR10.out.2.1 h) 0, row_cell (rowC HR10.out.2.2 h) 0, row_cell (rowC HR10.out.2.2 h) 3⟩
  go_region_held3 (fun W => W.cell? ⟨w.heap.size + 1, 0, none⟩ = some (.slice A n9 c) ∧ W.cell? ⟨w.heap.size + 2, 0, none⟩ = some (.int .i64 i) ∧ W.cell? ⟨w.heap.size + 2, 3, none⟩ = some (.bool yes)) (exact HM.out _ (by (repeat (first | exact Below.refl _ _ | assumption | (refine Below.allocT ?_ _) | refine Below.drew ?_ | refine below_drewN ?_ _ | (refine Below.then ?_ (by assumption)) | (refine Below.setRow ?_ ?_ _; rotate_left; (focus (first | exact Nat.lt_succ_self _ | ((repeat rw [World.size_alloc]); omega) | (simp; done) | (simp; omega) | omega))) | (refine Below.setCell ?_ ?_ _; rotate_left; (focus (first | exact Nat.lt_succ_self _ | ((repeat rw [World.size_alloc]); omega) | (simp; done) | (simp; omega) | omega))) | (refine Below.then' ?_ (by assumption) ?_; rotate_left; (focus (first | exact Nat.lt_succ_self _ | ((repeat rw [World.size_alloc]); omega) | (simp; done) | (simp; omega) | omega))) | fail)); (first | done | fail))) (first | (go_at_call 36; refine (HPl.out _ (Below.then HB10.out (by (repeat (first | exact Below.refl _ _ | assumption | (refine Below.allocT ?_ _) | refine Below.drew ?_ | refine below_drewN ?_ _ | (refine Below.then ?_ (by assumption)) | (refine Below.setRow ?_ ?_ _; rotate_left; (focus (first | exact Nat.lt_succ_self _ | ((repeat rw [World.size_alloc]); omega) | (simp; done) | (simp; omega) | omega))) | (refine Below.setCell ?_ ?_ _; rotate_left; (focus (first | exact Nat.lt_succ_self _ | ((repeat rw [World.size_alloc]); omega) | (simp; done) | (simp; omega) | omega))) | (refine Below.then' ?_ (by assumption) ?_; rotate_left; (focus (first | exact Nat.lt_succ_self _ | ((repeat rw [World.size_alloc]); omega) | (simp; done) | (simp; omega) | omega))) | fail)); (first | done | fail)))).mono ?_; rintro e w11 ⟨A11, c11, rfl, hM11, hb11⟩) | (go_at_call 48; refine (HRF.out _ A11 c11 (hM11.stay (by (repeat (first | exact Below.refl _ _ | assumption | (refine Below.allocT ?_ _) | refine Below.drew ?_ | refine below_drewN ?_ _ | (refine Below.then ?_ (by assumption)) | (refine Below.setRow ?_ ?_ _; rotate_left; (focus (first | exact Nat.lt_succ_self _ | ((repeat rw [World.size_alloc]); omega) | (simp; done) | (simp; omega) | omega))) | (refine Below.setCell ?_ ?_ _; rotate_left; (focus (first | exact Nat.lt_succ_self _ | ((repeat rw [World.size_alloc]); omega) | (simp; done) | (simp; omega) | omega))) | (refine Below.then' ?_ (by assumption) ?_; rotate_left; (focus (first | exact Nat.lt_succ_self _ | ((repeat rw [World.size_alloc]); omega) | (simp; done) | (simp; omega) | omega))) | fail)); (first | done | fail)))).mono ?_; rintro e w12 ⟨A12, n12, c12, gs, rfl, hn12, hM12, hL12, h012, hb12⟩))
  have h1012 : Below w10.heap.size w10 w12 := (by (repeat (first | exact Below.refl _ _ | assumption | (refine Below.allocT ?_ _) | refine Below.drew ?_ | refine below_drewN ?_ _ | (refine Below.then ?_ (by assumption)) | (refine Below.setRow ?_ ?_ _; rotate_left; (focus (first | exact Nat.lt_succ_self _ | ((repeat rw [World.size_alloc]); omega) | (simp; done) | (simp; omega) | omega))) | (refine Below.setCell ?_ ?_ _; rotate_left; (focus (first | exact Nat.lt_succ_self _ | ((repeat rw [World.size_alloc]); omega) | (simp; done) | (simp; omega) | omega))) | (refine Below.then' ?_ (by assumption) ?_; rotate_left; (focus (first | exact Nat.lt_succ_self _ | ((repeat rw [World.size_alloc]); omega) | (simp; done) | (simp; omega) | omega))) | fail)); (first | done | fail))
  have HB12 := Lib.hid (Below.then HB10.out h1012)
  have h912 : Below w9.heap.size w9 w12 := Below.then H910.out.2 h1012
  have h512 : Below w5.heap.size w5 w12 := Below.then H910.out.1 h912
  have HR12 := Lib.hid (And.intro (rowC HR10.out.1 h1012) (And.intro (rowC HR10.out.2.1 h1012) (rowC HR10.out.2.2 h1012)))
  have hn12' : n12 = n10 := by
    have h1 := congrArg List.length hL12
    have h2 := congrArg List.length HL10.out.2
    rw [List.length_map] at h1 h2
    rw [← hn12, h1, ← h2]; exact HL10.out.1
  subst hn12'
  have HM12 := Lib.hid hM12
  have HL12 := Lib.hid (And.intro hn12 hL12)
  clear hb11 hb12 hM11 hM12 hn12 hL12 h012 HR10 HM HRF HB10 H910
  go_upto_region 9 with fail
  have HM : Hid (∀ W, Below w12.heap.size w12 W → W.cell? ⟨w.heap.size + 1, 0, none⟩ = some (.slice A n9 c) ∧ W.cell? ⟨w.heap.size + 2, 2, none⟩ = some (.int .i64 ep) ∧ W.cell? ⟨w.heap.size + 2, 4, none⟩ = some (.bool quo)) := Lib.hid fun W h =>
    ⟨row_cell (rowC HR12.out.2.1 h) 0, row_cell (rowC HR12.out.2.2 h) 2, row_cell (rowC HR12.out.2.2 h) 4⟩
  have HP5 := Lib.hid (fun W h => plainML_any A5 n9 c5 ys HL5.out.1 (by omega) W (HM5.out.stay h))
  have HP10 := Lib.hid (fun W h => plainML_any A10 n12 c10 fs HL10.out.1 (by omega) W (HM10.out.stay h))
  have HS1 := Lib.hid (fun W A' c' h1 h2 => sameList_any A' A9 n9 c' c9 ys zs HL5.out.1 (by rw [HL5.out.2, HL9.out.2]) (by omega) W h1 (HM9.out.stay h2))
  have HS2 := Lib.hid (fun W A' c' h1 h2 => sameList_any A' A12 n12 c' c12 fs gs HL10.out.1 (by rw [HL10.out.2, HL12.out.2]) (by omega) W h1 (HM12.out.stay h2))
  have HS3 : Hid (∀ W A' c' A'' c'', SliceOf 1 intJ W A' RL → SliceOf 1 intJ W A'' RL → Calls Try.prog 49 #[.slice A' RL.length c', .slice A'' RL.length c''] W fun e w' => e = .returned (.bool true) ∧ Below W.heap.size W w') := Lib.hid fun W A' c' A'' c'' h1 h2 => by
    have := same16j_any A' A'' _ c' _ c'' RL RL rfl rfl (by omega) W h1 h2
    rwa [decide_eq_true (rfl : RL = RL)] at this
  go_region_held3 (fun W => W.cell? ⟨w.heap.size + 1, 0, none⟩ = some (.slice A n9 c) ∧ W.cell? ⟨w.heap.size + 2, 2, none⟩ = some (.int .i64 ep) ∧ W.cell? ⟨w.heap.size + 2, 4, none⟩ = some (.bool quo)) (exact HM.out _ (by (repeat (first | exact Below.refl _ _ | assumption | (refine Below.allocT ?_ _) | refine Below.drew ?_ | refine below_drewN ?_ _ | (refine Below.then ?_ (by assumption)) | (refine Below.setRow ?_ ?_ _; rotate_left; (focus (first | exact Nat.lt_succ_self _ | ((repeat rw [World.size_alloc]); omega) | (simp; done) | (simp; omega) | omega))) | (refine Below.setCell ?_ ?_ _; rotate_left; (focus (first | exact Nat.lt_succ_self _ | ((repeat rw [World.size_alloc]); omega) | (simp; done) | (simp; omega) | omega))) | (refine Below.then' ?_ (by assumption) ?_; rotate_left; (focus (first | exact Nat.lt_succ_self _ | ((repeat rw [World.size_alloc]); omega) | (simp; done) | (simp; omega) | omega))) | fail)); (first | done | fail))) (first | (go_at_call_of 36 (Value.slice A5 n9 c5); refine (HP5.out _ (by (repeat (first | exact Below.refl _ _ | assumption | (refine Below.allocT ?_ _) | refine Below.drew ?_ | refine below_drewN ?_ _ | (refine Below.then ?_ (by assumption)) | (refine Below.setRow ?_ ?_ _; rotate_left; (focus (first | exact Nat.lt_succ_self _ | ((repeat rw [World.size_alloc]); omega) | (simp; done) | (simp; omega) | omega))) | (refine Below.setCell ?_ ?_ _; rotate_left; (focus (first | exact Nat.lt_succ_self _ | ((repeat rw [World.size_alloc]); omega) | (simp; done) | (simp; omega) | omega))) | (refine Below.then' ?_ (by assumption) ?_; rotate_left; (focus (first | exact Nat.lt_succ_self _ | ((repeat rw [World.size_alloc]); omega) | (simp; done) | (simp; omega) | omega))) | fail)); (first | done | fail))).mono ?_; rintro e w13 ⟨A13, c13, rfl, hM13, hb13⟩) | (go_at_call_of 38 (Value.slice A9 n9 c9); refine (HS1.out _ A13 c13 (hM13.stay (by (repeat (first | exact Below.refl _ _ | assumption | (refine Below.allocT ?_ _) | refine Below.drew ?_ | refine below_drewN ?_ _ | (refine Below.then ?_ (by assumption)) | (refine Below.setRow ?_ ?_ _; rotate_left; (focus (first | exact Nat.lt_succ_self _ | ((repeat rw [World.size_alloc]); omega) | (simp; done) | (simp; omega) | omega))) | (refine Below.setCell ?_ ?_ _; rotate_left; (focus (first | exact Nat.lt_succ_self _ | ((repeat rw [World.size_alloc]); omega) | (simp; done) | (simp; omega) | omega))) | (refine Below.then' ?_ (by assumption) ?_; rotate_left; (focus (first | exact Nat.lt_succ_self _ | ((repeat rw [World.size_alloc]); omega) | (simp; done) | (simp; omega) | omega))) | fail)); (first | done | fail))) (by (repeat (first | exact Below.refl _ _ | assumption | (refine Below.allocT ?_ _) | refine Below.drew ?_ | refine below_drewN ?_ _ | (refine Below.then ?_ (by assumption)) | (refine Below.setRow ?_ ?_ _; rotate_left; (focus (first | exact Nat.lt_succ_self _ | ((repeat rw [World.size_alloc]); omega) | (simp; done) | (simp; omega) | omega))) | (refine Below.setCell ?_ ?_ _; rotate_left; (focus (first | exact Nat.lt_succ_self _ | ((repeat rw [World.size_alloc]); omega) | (simp; done) | (simp; omega) | omega))) | (refine Below.then' ?_ (by assumption) ?_; rotate_left; (focus (first | exact Nat.lt_succ_self _ | ((repeat rw [World.size_alloc]); omega) | (simp; done) | (simp; omega) | omega))) | fail)); (first | done | fail))).mono ?_; rintro e w14 ⟨rfl, hb14⟩) | (go_at_call_of 36 (Value.slice A10 n12 c10); refine (HP10.out _ (by (repeat (first | exact Below.refl _ _ | assumption | (refine Below.allocT ?_ _) | refine Below.drew ?_ | refine below_drewN ?_ _ | (refine Below.then ?_ (by assumption)) | (refine Below.setRow ?_ ?_ _; rotate_left; (focus (first | exact Nat.lt_succ_self _ | ((repeat rw [World.size_alloc]); omega) | (simp; done) | (simp; omega) | omega))) | (refine Below.setCell ?_ ?_ _; rotate_left; (focus (first | exact Nat.lt_succ_self _ | ((repeat rw [World.size_alloc]); omega) | (simp; done) | (simp; omega) | omega))) | (refine Below.then' ?_ (by assumption) ?_; rotate_left; (focus (first | exact Nat.lt_succ_self _ | ((repeat rw [World.size_alloc]); omega) | (simp; done) | (simp; omega) | omega))) | fail)); (first | done | fail))).mono ?_; rintro e w15 ⟨A15, c15, rfl, hM15, hb15⟩) | (go_at_call_of 38 (Value.slice A12 n12 c12); refine (HS2.out _ A15 c15 (hM15.stay (by (repeat (first | exact Below.refl _ _ | assumption | (refine Below.allocT ?_ _) | refine Below.drew ?_ | refine below_drewN ?_ _ | (refine Below.then ?_ (by assumption)) | (refine Below.setRow ?_ ?_ _; rotate_left; (focus (first | exact Nat.lt_succ_self _ | ((repeat rw [World.size_alloc]); omega) | (simp; done) | (simp; omega) | omega))) | (refine Below.setCell ?_ ?_ _; rotate_left; (focus (first | exact Nat.lt_succ_self _ | ((repeat rw [World.size_alloc]); omega) | (simp; done) | (simp; omega) | omega))) | (refine Below.then' ?_ (by assumption) ?_; rotate_left; (focus (first | exact Nat.lt_succ_self _ | ((repeat rw [World.size_alloc]); omega) | (simp; done) | (simp; omega) | omega))) | fail)); (first | done | fail))) (by (repeat (first | exact Below.refl _ _ | assumption | (refine Below.allocT ?_ _) | refine Below.drew ?_ | refine below_drewN ?_ _ | (refine Below.then ?_ (by assumption)) | (refine Below.setRow ?_ ?_ _; rotate_left; (focus (first | exact Nat.lt_succ_self _ | ((repeat rw [World.size_alloc]); omega) | (simp; done) | (simp; omega) | omega))) | (refine Below.setCell ?_ ?_ _; rotate_left; (focus (first | exact Nat.lt_succ_self _ | ((repeat rw [World.size_alloc]); omega) | (simp; done) | (simp; omega) | omega))) | (refine Below.then' ?_ (by assumption) ?_; rotate_left; (focus (first | exact Nat.lt_succ_self _ | ((repeat rw [World.size_alloc]); omega) | (simp; done) | (simp; omega) | omega))) | fail)); (first | done | fail))).mono ?_; rintro e w16 ⟨rfl, hb16⟩) | (go_at_call 50; refine (HMR.out _ (Below.then HB12.out (by (repeat (first | exact Below.refl _ _ | assumption | (refine Below.allocT ?_ _) | refine Below.drew ?_ | refine below_drewN ?_ _ | (refine Below.then ?_ (by assumption)) | (refine Below.setRow ?_ ?_ _; rotate_left; (focus (first | exact Nat.lt_succ_self _ | ((repeat rw [World.size_alloc]); omega) | (simp; done) | (simp; omega) | omega))) | (refine Below.setCell ?_ ?_ _; rotate_left; (focus (first | exact Nat.lt_succ_self _ | ((repeat rw [World.size_alloc]); omega) | (simp; done) | (simp; omega) | omega))) | (refine Below.then' ?_ (by assumption) ?_; rotate_left; (focus (first | exact Nat.lt_succ_self _ | ((repeat rw [World.size_alloc]); omega) | (simp; done) | (simp; omega) | omega))) | fail)); (first | done | fail)))).mono ?_; rintro e w17 ⟨A17, c17, rfl, hS17, h017, hb17⟩) | (go_at_call_of 36 (Value.slice A n9 c); refine (HPl.out _ (Below.then HB12.out (by (repeat (first | exact Below.refl _ _ | assumption | (refine Below.allocT ?_ _) | refine Below.drew ?_ | refine below_drewN ?_ _ | (refine Below.then ?_ (by assumption)) | (refine Below.setRow ?_ ?_ _; rotate_left; (focus (first | exact Nat.lt_succ_self _ | ((repeat rw [World.size_alloc]); omega) | (simp; done) | (simp; omega) | omega))) | (refine Below.setCell ?_ ?_ _; rotate_left; (focus (first | exact Nat.lt_succ_self _ | ((repeat rw [World.size_alloc]); omega) | (simp; done) | (simp; omega) | omega))) | (refine Below.then' ?_ (by assumption) ?_; rotate_left; (focus (first | exact Nat.lt_succ_self _ | ((repeat rw [World.size_alloc]); omega) | (simp; done) | (simp; omega) | omega))) | fail)); (first | done | fail)))).mono ?_; rintro e w18 ⟨A18, c18, rfl, hM18, hb18⟩) | (go_at_call 51; refine (HRR.out _ A18 c18 (hM18.sl.below (by (repeat (first | exact Below.refl _ _ | assumption | (refine Below.allocT ?_ _) | refine Below.drew ?_ | refine below_drewN ?_ _ | (refine Below.then ?_ (by assumption)) | (refine Below.setRow ?_ ?_ _; rotate_left; (focus (first | exact Nat.lt_succ_self _ | ((repeat rw [World.size_alloc]); omega) | (simp; done) | (simp; omega) | omega))) | (refine Below.setCell ?_ ?_ _; rotate_left; (focus (first | exact Nat.lt_succ_self _ | ((repeat rw [World.size_alloc]); omega) | (simp; done) | (simp; omega) | omega))) | (refine Below.then' ?_ (by assumption) ?_; rotate_left; (focus (first | exact Nat.lt_succ_self _ | ((repeat rw [World.size_alloc]); omega) | (simp; done) | (simp; omega) | omega))) | fail)); (first | done | fail)) (Nat.le_refl _))).mono ?_; rintro e w19 ⟨A19, c19, rfl, hS19, h019, hb19⟩) | (go_at_call 49; refine (HS3.out _ A17 c17 A19 c19 (SliceOf.below hS17 (show Below w17.heap.size w17 _ from (by (repeat (first | exact Below.refl _ _ | assumption | (refine Below.allocT ?_ _) | refine Below.drew ?_ | refine below_drewN ?_ _ | (refine Below.then ?_ (by assumption)) | (refine Below.setRow ?_ ?_ _; rotate_left; (focus (first | exact Nat.lt_succ_self _ | ((repeat rw [World.size_alloc]); omega) | (simp; done) | (simp; omega) | omega))) | (refine Below.setCell ?_ ?_ _; rotate_left; (focus (first | exact Nat.lt_succ_self _ | ((repeat rw [World.size_alloc]); omega) | (simp; done) | (simp; omega) | omega))) | (refine Below.then' ?_ (by assumption) ?_; rotate_left; (focus (first | exact Nat.lt_succ_self _ | ((repeat rw [World.size_alloc]); omega) | (simp; done) | (simp; omega) | omega))) | fail)); (first | done | fail))) (Nat.le_refl _)) (SliceOf.below hS19 (show Below w19.heap.size w19 _ from (by (repeat (first | exact Below.refl _ _ | assumption | (refine Below.allocT ?_ _) | refine Below.drew ?_ | refine below_drewN ?_ _ | (refine Below.then ?_ (by assumption)) | (refine Below.setRow ?_ ?_ _; rotate_left; (focus (first | exact Nat.lt_succ_self _ | ((repeat rw [World.size_alloc]); omega) | (simp; done) | (simp; omega) | omega))) | (refine Below.setCell ?_ ?_ _; rotate_left; (focus (first | exact Nat.lt_succ_self _ | ((repeat rw [World.size_alloc]); omega) | (simp; done) | (simp; omega) | omega))) | (refine Below.then' ?_ (by assumption) ?_; rotate_left; (focus (first | exact Nat.lt_succ_self _ | ((repeat rw [World.size_alloc]); omega) | (simp; done) | (simp; omega) | omega))) | fail)); (first | done | fail))) (Nat.le_refl _))).mono ?_; rintro e w20 ⟨rfl, hb20⟩))
  have h1220 : Below w12.heap.size w12 w20 := (by (repeat (first | exact Below.refl _ _ | assumption | (refine Below.allocT ?_ _) | refine Below.drew ?_ | refine below_drewN ?_ _ | (refine Below.then ?_ (by assumption)) | (refine Below.setRow ?_ ?_ _; rotate_left; (focus (first | exact Nat.lt_succ_self _ | ((repeat rw [World.size_alloc]); omega) | (simp; done) | (simp; omega) | omega))) | (refine Below.setCell ?_ ?_ _; rotate_left; (focus (first | exact Nat.lt_succ_self _ | ((repeat rw [World.size_alloc]); omega) | (simp; done) | (simp; omega) | omega))) | (refine Below.then' ?_ (by assumption) ?_; rotate_left; (focus (first | exact Nat.lt_succ_self _ | ((repeat rw [World.size_alloc]); omega) | (simp; done) | (simp; omega) | omega))) | fail)); (first | done | fail))
  have HB20 := Lib.hid (Below.then HB12.out h1220)
  clear hb13 hb14 hb15 hb16 hb17 hb18 hb19 hb20 hM13 hM15 hS17 hM18 hS19 h1220
  go_wp2_with fail
  go_ret
  exact ⟨rfl, HB20.out⟩
end Go.Proofs.Ytnakkjgnjffkpaa

/-
  Layer 38: in annals that are none nothing is kept.
-/
import Derived.Test.YtnakkjgnjffkpaaAnn6
import Derived.Test.YtnakkjgnjffkpaaOpenRep
namespace Go.Proofs.Ytnakkjgnjffkpaa
open Go.RowKit
set_option linter.unusedVariables false
set_option linter.unusedSimpArgs false

theorem run_neq_sums0 (p : Sm) (w : World) : (binOp .neq 45 (.agg (smC p)) (.agg #[.int .i64 0, .int .i64 0, .int .i64 0, .int .u64 0, .int .u64 0, .int .u64 0, .int .u64 0, .int .u64 0, .int .i64 0, .int .i64 0, .int .i64 0, .int .i64 0])).run Try.prog w = .ok (.bool (!smEq p Sm.zero)) w := run_neq_sums p Sm.zero w
attribute [go_sem ↓] run_neq_sums0
set_option maxRecDepth 100000 in
set_option maxHeartbeats 4000000 in
theorem annalsNone_any (r : Rep) (a : RepA) (p q : Int) (w : World) (hp : i64ok p) (hq : i64ok q) (hIn : RepIn w (r, a)) :
    Calls Try.prog 4 #[.agg (repC (r, a)), .agg (spnC (p, q))] w fun e w' => e = .returned (.bool true) ∧ Below w.heap.size w w' := by
  have r0 : row ((w.alloc (.cells (repC (r, a)) 36)).alloc (.cells (spnC (p, q)) 43)) w.heap.size = some (repC (r, a)) := (by (repeat (first | assumption | (refine row_at _ _ _ _ ?_; first | rfl | (simp only [World.size_alloc]; done) | (simp only [World.size_alloc]; omega)) | (refine (row_past _ _ _ ?_).trans ?_; (focus (first | exact Nat.lt_succ_self _ | ((repeat rw [World.size_alloc]); omega) | (simp; done) | (simp; omega) | omega))) | rw [row_drewN] | rw [row_drew])); (first | done | fail))
  have q0 : row ((w.alloc (.cells (repC (r, a)) 36)).alloc (.cells (spnC (p, q)) 43)) (w.heap.size + 1) = some (spnC (p, q)) := (by (repeat (first | assumption | (refine row_at _ _ _ _ ?_; first | rfl | (simp only [World.size_alloc]; done) | (simp only [World.size_alloc]; omega)) | (refine (row_past _ _ _ ?_).trans ?_; (focus (first | exact Nat.lt_succ_self _ | ((repeat rw [World.size_alloc]); omega) | (simp; done) | (simp; omega) | omega))) | rw [row_drewN] | rw [row_drew])); (first | done | fail))
  have hB0 : Below w.heap.size w ((w.alloc (.cells (repC (r, a)) 36)).alloc (.cells (spnC (p, q)) 43)) := (by (repeat (first | exact Below.refl _ _ | assumption | (refine Below.allocT ?_ _) | refine Below.drew ?_ | refine below_drewN ?_ _ | (refine Below.then ?_ (by assumption)) | (refine Below.setRow ?_ ?_ _; rotate_left; (focus (first | exact Nat.lt_succ_self _ | ((repeat rw [World.size_alloc]); omega) | (simp; done) | (simp; omega) | omega))) | (refine Below.setCell ?_ ?_ _; rotate_left; (focus (first | exact Nat.lt_succ_self _ | ((repeat rw [World.size_alloc]); omega) | (simp; done) | (simp; omega) | omega))) | (refine Below.then' ?_ (by assumption) ?_; rotate_left; (focus (first | exact Nat.lt_succ_self _ | ((repeat rw [World.size_alloc]); omega) | (simp; done) | (simp; omega) | omega))) | fail)); (first | done | fail))
  have hz := repC_one (r, a)
  generalize hfb : fewW r = fb at *
  go_enter Try.func4, Try.ntmps4
  go_upto_region 1 with fail
  change Code.wp _ _ _ _ ((w.alloc (.cells (repC (r, a)) 36)).alloc (.cells (spnC (p, q)) 43))
  generalize ((w.alloc (.cells (repC (r, a)) 36)).alloc (.cells (spnC (p, q)) 43)) = w0 at *
  go_wp2_with fail
  refine (awake38_any w0).mono ?_
  rintro e w1 ⟨rfl, hb1⟩
  have r1 := below_row hb1 r0 (row_lt r0)
  have q1 := below_row hb1 q0 (row_lt q0)
  have hB1 := Below.then hB0 hb1
  clear r0 q0 hB0 hb1
  go_wp2_with fail
  refine (few38_any r a w1).mono ?_
  rintro e w2 ⟨rfl, hb2⟩
  rw [hfb]
  have r2 := below_row hb2 r1 (row_lt r1)
  have q2 := below_row hb2 q1 (row_lt q1)
  have hB2 := Below.then hB1 hb2
  clear r1 q1 hB1 hb2 hfb
  cases fb
  · go_wp2_with fail
    go_ret
    exact ⟨rfl, hB2⟩
  · have r3 : row ((w2.alloc (.cells (anC Sm.zero 0 (.slice none 0 0)) 57)).alloc (.cells #[.pointer none, .pointer (some ⟨w2.heap.size, 0, none⟩)] 25)) w.heap.size = some (repC (r, a)) := by have l := row_lt r2; rw [row_past _ _ _ (by rw [World.size_alloc]; omega), row_past _ _ _ l]; exact r2
    have q3 : row ((w2.alloc (.cells (anC Sm.zero 0 (.slice none 0 0)) 57)).alloc (.cells #[.pointer none, .pointer (some ⟨w2.heap.size, 0, none⟩)] 25)) (w.heap.size + 1) = some (spnC (p, q)) := by have l := row_lt q2; rw [row_past _ _ _ (by rw [World.size_alloc]; omega), row_past _ _ _ l]; exact q2
    have z3 : row ((w2.alloc (.cells (anC Sm.zero 0 (.slice none 0 0)) 57)).alloc (.cells #[.pointer none, .pointer (some ⟨w2.heap.size, 0, none⟩)] 25)) w2.heap.size = some (anC Sm.zero 0 (.slice none 0 0)) := (by (repeat (first | assumption | (refine row_at _ _ _ _ ?_; first | rfl | (simp only [World.size_alloc]; done) | (simp only [World.size_alloc]; omega)) | (refine (row_past _ _ _ ?_).trans ?_; (focus (first | exact Nat.lt_succ_self _ | ((repeat rw [World.size_alloc]); omega) | (simp; done) | (simp; omega) | omega))) | rw [row_drewN] | rw [row_drew])); (first | done | fail))
    have l3 : row ((w2.alloc (.cells (anC Sm.zero 0 (.slice none 0 0)) 57)).alloc (.cells #[.pointer none, .pointer (some ⟨w2.heap.size, 0, none⟩)] 25)) (w2.heap.size + 1) = some #[.pointer none, .pointer (some ⟨w2.heap.size, 0, none⟩)] := (by (repeat (first | assumption | (refine row_at _ _ _ _ ?_; first | rfl | (simp only [World.size_alloc]; done) | (simp only [World.size_alloc]; omega)) | (refine (row_past _ _ _ ?_).trans ?_; (focus (first | exact Nat.lt_succ_self _ | ((repeat rw [World.size_alloc]); omega) | (simp; done) | (simp; omega) | omega))) | rw [row_drewN] | rw [row_drew])); (first | done | fail))
    have hB3 : Below w.heap.size w ((w2.alloc (.cells (anC Sm.zero 0 (.slice none 0 0)) 57)).alloc (.cells #[.pointer none, .pointer (some ⟨w2.heap.size, 0, none⟩)] 25)) := Below.then hB2 (by (repeat (first | exact Below.refl _ _ | assumption | (refine Below.allocT ?_ _) | refine Below.drew ?_ | refine below_drewN ?_ _ | (refine Below.then ?_ (by assumption)) | (refine Below.setRow ?_ ?_ _; rotate_left; (focus (first | exact Nat.lt_succ_self _ | ((repeat rw [World.size_alloc]); omega) | (simp; done) | (simp; omega) | omega))) | (refine Below.setCell ?_ ?_ _; rotate_left; (focus (first | exact Nat.lt_succ_self _ | ((repeat rw [World.size_alloc]); omega) | (simp; done) | (simp; omega) | omega))) | (refine Below.then' ?_ (by assumption) ?_; rotate_left; (focus (first | exact Nat.lt_succ_self _ | ((repeat rw [World.size_alloc]); omega) | (simp; done) | (simp; omega) | omega))) | fail)); (first | done | fail))
    have HNo : Hid (∀ j : Nat, j < 2 → ∃ A, #[Value.pointer none, Value.pointer (some ⟨w2.heap.size, 0, none⟩)][j]? = some A ∧ NoAn ((w2.alloc (.cells (anC Sm.zero 0 (.slice none 0 0)) 57)).alloc (.cells #[.pointer none, .pointer (some ⟨w2.heap.size, 0, none⟩)] 25)) A) := Lib.hid fun j hj => by
      match j, hj with
      | 0, _ => exact ⟨_, rfl, NoAn.nil _⟩
      | 1, _ => exact ⟨_, rfl, NoAn.zero z3⟩
    have HSm : Hid (∀ W, Calls Try.prog 22 #[.agg (repC (Rep.zero, RepA.nil)), .agg (repC (Rep.zero, RepA.nil))] W fun e w' => e = .returned (.bool true) ∧ Below W.heap.size W w') := Lib.hid (fun W => by
      have := sameRep_any Rep.zero Rep.zero RepA.nil RepA.nil W (RepAt.zero W) (RepAt.zero W) (by decide)
      rwa [show decide (Rep.zero = Rep.zero) = true from decide_eq_true rfl] at this)
    clear r2 q2 hB2 z3
    go_wp2_with fail
    change Code.wp _ _ _ _ ((w2.alloc (.cells (anC Sm.zero 0 (.slice none 0 0)) 57)).alloc (.cells #[.pointer none, .pointer (some ⟨w2.heap.size, 0, none⟩)] 25))
    generalize (w2.alloc (.cells (anC Sm.zero 0 (.slice none 0 0)) 57)).alloc (.cells #[.pointer none, .pointer (some ⟨w2.heap.size, 0, none⟩)] 25) = w3 at *
    generalize w2.heap.size = g2 at *
    have HR := Lib.hid (And.intro r3 (And.intro q3 (And.intro l3 hB3)))
    clear r3 q3 l3 hB3
    go_loopw [25] (fun i wr => ∃ j : Nat, i = .int .i64 j ∧ j ≤ 2 ∧ Hid (Below w3.heap.size w3 wr)) (fun i _ => 2 - (intOf i).toNat)
    case atStart => exact ⟨0, rfl, by omega, Lib.hid (Below.refl _ _)⟩
    case round =>
      obtain ⟨j, rfl, hj, hBw⟩ := hrel
      by_cases hlt : j < 2
      · obtain ⟨A, hA, hNo⟩ := HNo.out j hlt
        have kA : wr.cell? ⟨g2 + 1, j, none⟩ = some A := (row_cell (below_row hBw.out HR.out.2.2.1 (row_lt HR.out.2.2.1)) j).trans hA
        have HN : Hid (∀ W, Below w3.heap.size w3 W → NoAn W A) := Lib.hid fun W h => hNo.stay h
        have z1 : (0 : Int) ≤ (j : Int) := by omega
        have z2 : (j : Int) < 2 := by omega
        have hj2 : ¬ 2 ≤ j := by omega
        clear hNo hA
        go_wp2_with fail
        refine (span38_non A wr (HN.out _ hBw.out)).mono ?_
        rintro e w4 ⟨rfl, hb4⟩
        have H4 := Lib.hid (Below.then hBw.out hb4)
        have q4 : ∀ i, w4.cell? ⟨w.heap.size + 1, i, none⟩ = (spnC (p, q))[i]? := fun i => row_cell (below_row H4.out HR.out.2.1 (row_lt HR.out.2.1)) i
        have qp : w4.cell? ⟨w.heap.size + 1, 0, none⟩ = some (.int .i64 p) := q4 0
        clear q4 hb4 kA
        go_wp2_with fail
        refine (at38_non A p w4 (HN.out _ H4.out)).mono ?_
        rintro e w5 ⟨rfl, hb5⟩
        have H5 := Lib.hid (Below.then H4.out hb5)
        clear hb5 qp H4
        go_upto_region 11 with fail
        refine of_world (fun W => Below w5.heap.size w5 W ∧ row W w5.heap.size = some (repC (Rep.zero, RepA.nil))) ⟨(by (repeat (first | exact Below.refl _ _ | assumption | (refine Below.allocT ?_ _) | refine Below.drew ?_ | refine below_drewN ?_ _ | (refine Below.then ?_ (by assumption)) | (refine Below.setRow ?_ ?_ _; rotate_left; (focus (first | exact Nat.lt_succ_self _ | ((repeat rw [World.size_alloc]); omega) | (simp; done) | (simp; omega) | omega))) | (refine Below.setCell ?_ ?_ _; rotate_left; (focus (first | exact Nat.lt_succ_self _ | ((repeat rw [World.size_alloc]); omega) | (simp; done) | (simp; omega) | omega))) | (refine Below.then' ?_ (by assumption) ?_; rotate_left; (focus (first | exact Nat.lt_succ_self _ | ((repeat rw [World.size_alloc]); omega) | (simp; done) | (simp; omega) | omega))) | fail)); (first | done | fail)), by first | exact row_at _ _ _ _ rfl | (rw [row_setRow_if, if_pos rfl, row_at _ _ _ _ rfl]; rfl)⟩ ?_
        rintro w6 ⟨hb6, r6⟩
        have H6 := Lib.hid (Below.then H5.out hb6)
        have R6 := Lib.hid r6
        have q6 : ∀ i, w6.cell? ⟨w.heap.size + 1, i, none⟩ = (spnC (p, q))[i]? := fun i => row_cell (below_row H6.out HR.out.2.1 (row_lt HR.out.2.1)) i
        have qp : w6.cell? ⟨w.heap.size + 1, 0, none⟩ = some (.int .i64 p) := q6 0
        have qq : w6.cell? ⟨w.heap.size + 1, 1, none⟩ = some (.int .i64 q) := q6 1
        clear q6 hb6 r6 H5
        generalize w5.heap.size = g6 at *
        go_wp2_with fail
        refine (sum38_non A p q w6 (HN.out _ H6.out)).mono ?_
        rintro e w7 ⟨rfl, hb7⟩
        have H7 := Lib.hid (Below.then H6.out hb7)
        have R7 := Lib.hid (below_row hb7 R6.out (row_lt R6.out))
        clear hb7 qp qq H6 R6
        go_upto_region 12 with fail
        refine of_world (fun W => Below w7.heap.size w7 W ∧ row W w7.heap.size = some (smC Sm.zero)) ⟨(by (repeat (first | exact Below.refl _ _ | assumption | (refine Below.allocT ?_ _) | refine Below.drew ?_ | refine below_drewN ?_ _ | (refine Below.then ?_ (by assumption)) | (refine Below.setRow ?_ ?_ _; rotate_left; (focus (first | exact Nat.lt_succ_self _ | ((repeat rw [World.size_alloc]); omega) | (simp; done) | (simp; omega) | omega))) | (refine Below.setCell ?_ ?_ _; rotate_left; (focus (first | exact Nat.lt_succ_self _ | ((repeat rw [World.size_alloc]); omega) | (simp; done) | (simp; omega) | omega))) | (refine Below.then' ?_ (by assumption) ?_; rotate_left; (focus (first | exact Nat.lt_succ_self _ | ((repeat rw [World.size_alloc]); omega) | (simp; done) | (simp; omega) | omega))) | fail)); (first | done | fail)), by first | exact row_at _ _ _ _ rfl | (rw [row_setRow_if, if_pos rfl, row_at _ _ _ _ rfl]; rfl)⟩ ?_
        rintro w8 ⟨hb8, r8⟩
        have H8 := Lib.hid (Below.then H7.out hb8)
        have R8 := Lib.hid r8
        have T8 := Lib.hid (below_row hb8 R7.out (row_lt R7.out))
        clear hb8 r8 H7 R7
        generalize w7.heap.size = g8 at *
        have rr := below_row H8.out HR.out.1 (row_lt HR.out.1)
        have hz2 := repC_room (r, a)
        go_wp2_with fail
        refine (add38_non A r a w8 (HN.out _ H8.out)).mono ?_
        rintro e w9 ⟨rfl, hb9⟩
        have H9 := Lib.hid (Below.then H8.out hb9)
        have t9 := below_row hb9 T8.out (row_lt T8.out)
        have s9 := below_row hb9 R8.out (row_lt R8.out)
        clear hb9 rr H8 R8 T8
        go_wp2_with fail
        refine (HSm.out w9).mono ?_
        rintro e w10 ⟨rfl, hb10⟩
        have H10 := Lib.hid (Below.then H9.out hb10)
        have s10 := below_row hb10 s9 (row_lt s9)
        clear hb10 s9 t9 H9
        go_wp2_with fail
        refine (all38_non A w10 (HN.out _ H10.out)).mono ?_
        rintro e w11 ⟨rfl, hb11⟩
        have H11 := Lib.hid (Below.then H10.out hb11)
        clear hb11 s10 H10
        go_wp2_with fail
        exact ⟨⟨j + 1, by go_num, by omega, H11⟩, by simp [intOf]; omega⟩
      · obtain rfl : j = 2 := by omega
        have hB := Below.then HR.out.2.2.2 hBw.out
        go_wp2_with fail
        go_ret
        exact ⟨rfl, hB⟩
end Go.Proofs.Ytnakkjgnjffkpaa

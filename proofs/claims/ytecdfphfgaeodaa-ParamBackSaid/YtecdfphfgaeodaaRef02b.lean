/-
  What bullionref02.Part, Down, Up and Rest answer.
-/
import Derived.Test.YtecdfphfgaeodaaRef01c
import Derived.Test.YtecdfphfgaeodaaRef01e
import Derived.Test.YtecdfphfgaeodaaRef01h
import Derived.Test.YtecdfphfgaeodaaRatio2
namespace Go.Proofs.Ytecdfphfgaeodaa
open Go.RowKit
set_option linter.unusedVariables false

set_option maxHeartbeats 1000000 in
theorem part_any (a b c : Nat) (ha : a < 18446744073709551616) (hb : b < 18446744073709551616) (hc : c < 18446744073709551616) (h0 : 0 < c) (w : World) :
    Calls Try.prog 74 #[.int .u64 a, .int .u64 b, .int .u64 c] w (RetTwo w (a * b / c) (a * b % c)) := by
  have la := len_u64 ha
  have lb := len_u64 hb
  have lc := len_u64 hc
  have lm := len_mul a b
  go_enter Try.func74, Try.ntmps74
  go_wp2_with fail
  refine (ofn_any a ha _).mono ?_
  rintro e w1 ⟨A1, x1, rfl, hN1, hb1, _⟩
  go_wp2_with fail
  refine (ofn_any b hb _).mono ?_
  rintro e w2 ⟨A2, x2, rfl, hN2, hb2, _⟩
  go_wp2_with fail
  refine (muln_any A1 A2 _ x1 _ x2 a b _ (hN1.stay hb2) hN2 (by omega) (by omega)).mono ?_
  rintro e w3 ⟨A3, x3, rfl, hN3, hb3, _⟩
  go_wp2_with fail
  refine (ofn_any c hc _).mono ?_
  rintro e w4 ⟨A4, x4, rfl, hN4, hb4, _⟩
  go_wp2_with fail
  refine (rdiv_any A3 A4 _ x3 _ x4 (a * b) c _ (hN3.stay hb4) hN4 (by omega) (by omega) h0).mono ?_
  rintro e w5 ⟨A5, x5, A6, x6, rfl, hN5, hN6, hb5, hh5, hh6⟩
  have HB : Below ((w.alloc (.cells #[.slice none 0 0] 71)).alloc (.cells #[.slice none 0 0] 71)).heap.size ((w.alloc (.cells #[.slice none 0 0] 71)).alloc (.cells #[.slice none 0 0] 71)) w5 := Below.then (Below.then (Below.then (Below.then hb1 hb2) hb3) hb4) hb5
  have s1 := (row_below HB (g := w.heap.size) (by simp; omega)).trans (show _ = some #[.slice none 0 0] from (by (repeat (first | assumption | (refine row_at _ _ _ _ ?_; first | rfl | (simp only [World.size_alloc]; done) | (simp only [World.size_alloc]; omega)) | (refine (row_past _ _ _ ?_).trans ?_; (focus (first | exact Nat.lt_succ_self _ | ((repeat rw [World.size_alloc]); omega) | (simp; done) | (simp; omega) | omega))) | rw [row_drewN] | rw [row_drew])); (first | done | fail)))
  have s2 := (row_below HB (g := w.heap.size + 1) (by simp)).trans (show _ = some #[.slice none 0 0] from (by (repeat (first | assumption | (refine row_at _ _ _ _ ?_; first | rfl | (simp only [World.size_alloc]; done) | (simp only [World.size_alloc]; omega)) | (refine (row_past _ _ _ ?_).trans ?_; (focus (first | exact Nat.lt_succ_self _ | ((repeat rw [World.size_alloc]); omega) | (simp; done) | (simp; omega) | omega))) | rw [row_drewN] | rw [row_drew])); (first | done | fail)))
  have hz := row_lt s2
  have p1 : w5.cell? ⟨w.heap.size, 0, none⟩ = some (.slice none 0 0) := row_cell s1 0
  have p2 : w5.cell? ⟨w.heap.size + 1, 0, none⟩ = some (.slice none 0 0) := row_cell s2 0
  have g1 : w5.frozen? ⟨w.heap.size, 0, none⟩ = false := row_frozen s1 0
  have g2 : w5.frozen? ⟨w.heap.size + 1, 0, none⟩ = false := row_frozen s2 0
  have hz4 : w.heap.size + 2 ≤ w4.heap.size := by
    have := (Below.then (Below.then (Below.then hb1 hb2) hb3) hb4).size
    simp at this; omega
  have F1 := Lib.hid ((hN5.far (B := w.heap.size + 2) (fun x hx => by have := hh5 x hx; omega) (p := ⟨w.heap.size, 0, none⟩) (by show w.heap.size < w.heap.size + 2; omega) (.slice A5 (dg (a * b / c)).length x5)).far (B := w.heap.size + 2) (fun x hx => by have := hh5 x hx; omega) (p := ⟨w.heap.size + 1, 0, none⟩) (by show w.heap.size + 1 < w.heap.size + 2; omega) (.slice A6 (dg (a * b % c)).length x6))
  have F2 := Lib.hid ((hN6.far (B := w.heap.size + 2) (fun x hx => by have := hh6 x hx; omega) (p := ⟨w.heap.size, 0, none⟩) (by show w.heap.size < w.heap.size + 2; omega) (.slice A5 (dg (a * b / c)).length x5)).far (B := w.heap.size + 2) (fun x hx => by have := hh6 x hx; omega) (p := ⟨w.heap.size + 1, 0, none⟩) (by show w.heap.size + 1 < w.heap.size + 2; omega) (.slice A6 (dg (a * b % c)).length x6))
  have hBB : Below w.heap.size w w5 := (by (repeat (first | exact Below.refl _ _ | assumption | (refine Below.allocT ?_ _) | refine Below.drew ?_ | refine below_drewN ?_ _ | (refine Below.then ?_ (by assumption)) | (refine Below.setRow ?_ ?_ _; rotate_left; (focus (first | exact Nat.lt_succ_self _ | ((repeat rw [World.size_alloc]); omega) | (simp; done) | (simp; omega) | omega))) | (refine Below.setCell ?_ ?_ _; rotate_left; (focus (first | exact Nat.lt_succ_self _ | ((repeat rw [World.size_alloc]); omega) | (simp; done) | (simp; omega) | omega))) | (refine Below.then' ?_ (by assumption) ?_; rotate_left; (focus (first | exact Nat.lt_succ_self _ | ((repeat rw [World.size_alloc]); omega) | (simp; done) | (simp; omega) | omega))) | fail)); (first | done | fail))
  have HH := Lib.hid (And.intro hh5 hh6)
  clear hN5 hN6 hh5 hh6 HB hb1 hb2 hb3 hb4 hb5 hN1 hN2 hN3 hN4
  go_wp2_with fail
  refine bodyPost_ret (v := .tuple #[.agg #[.slice A5 (dg (a * b / c)).length x5], .agg #[.slice A6 (dg (a * b % c)).length x6]]) (by simp [results, Try.results74, go_sem, p1, p2]) rfl ⟨_, _, _, _, rfl, F1.out, F2.out, ?_, fun x hx => by have := HH.out.1 x hx; omega, fun x hx => by have := HH.out.2 x hx; omega⟩
  exact (hBB.setCell (p := ⟨w.heap.size, 0, none⟩) (by show w.heap.size ≤ w.heap.size; omega) _).setCell (p := ⟨w.heap.size + 1, 0, none⟩) (by show w.heap.size ≤ w.heap.size + 1; omega) _
def RetOne (w : World) (q : Nat) (e : Ending) (w' : World) : Prop := ∃ A c A' c', e = .returned (.tuple #[.agg #[.slice A (dg q).length c], .agg #[.slice A' (0 : Nat) c']]) ∧ NatV w' A (dg q).length q ∧ Below w.heap.size w w'
theorem RetTwo.one {w : World} {q r : Nat} {e : Ending} {w' : World} (hr : (dg r).length = 0) (h : RetTwo w q r e w') : RetOne w q e w' := by
  obtain ⟨A, c, A', c', he, h1, _, h2, _⟩ := h
  rw [hr] at he
  exact ⟨A, c, A', c', he, h1, h2⟩
theorem quo_len {a b c : Nat} (ha : a < 18446744073709551616) (hb : b < 18446744073709551616) : (dg (a * b / c)).length ≤ 40 ∧ (dg (a * b % c)).length ≤ 40 := by
  have la := len_u64 ha
  have lb := len_u64 hb
  have lm := len_mul a b
  have l1 := len_div (a * b) c
  have l2 := len_mod (a * b) c
  exact ⟨by omega, by omega⟩
set_option maxHeartbeats 1000000 in
theorem rdown_any (a b c : Nat) (ha : a < 18446744073709551616) (hb : b < 18446744073709551616) (hc : c < 18446744073709551616) (w : World) :
    Calls Try.prog 61 #[.int .u64 a, .int .u64 b, .int .u64 c] w fun e w' => e = .returned (.tuple #[.int .u64 ((quoV (a * b) c : Nat) : Int), .int .i64 (quoE (a * b) c)]) ∧ Below w.heap.size w w' := by
  rcases Nat.eq_zero_or_pos c with h | h
  · subst h
    go_enter Try.func61, Try.ntmps61
    go_wp2_with fail
    go_ret2
    exact ⟨rfl, Below.refl _ _⟩
  · have hq := (quo_len (c := c) ha hb).1
    have e1 : quoV (a * b) c = fit (a * b / c) := if_neg (by omega)
    have e2 : quoE (a * b) c = toldE (a * b / c) := if_neg (by omega)
    rw [e1, e2]
    have h1 : ((c : Int) == 0) = false := by simp; omega
    have HP := Lib.hid (fun W => part_any a b c ha hb hc h W)
    clear e1 e2
    generalize a * b / c = q at *
    generalize a * b % c = r at *
    go_enter Try.func61, Try.ntmps61
    go_wp2_with fail
    refine (HP.out _).mono ?_
    rintro e w1 ⟨A1, x1, A2, x2, rfl, hN1, hN2, hb1, _, _⟩
    have hM := (hN1.alloc (.cells #[.slice A1 (dg q).length x1] 71)).alloc (.cells #[.slice A2 (dg r).length x2] 71)
    have HM := Lib.hid hM
    clear hN1 hN2 hM
    go_wp2_with fail
    refine (told_any A1 _ x1 q _ HM.out (by omega)).mono ?_
    rintro e w2 ⟨rfl, hb2⟩
    go_wp2_with fail
    go_ret2
    exact ⟨rfl, (by (repeat (first | exact Below.refl _ _ | assumption | (refine Below.allocT ?_ _) | refine Below.drew ?_ | refine below_drewN ?_ _ | (refine Below.then ?_ (by assumption)) | (refine Below.setRow ?_ ?_ _; rotate_left; (focus (first | exact Nat.lt_succ_self _ | ((repeat rw [World.size_alloc]); omega) | (simp; done) | (simp; omega) | omega))) | (refine Below.setCell ?_ ?_ _; rotate_left; (focus (first | exact Nat.lt_succ_self _ | ((repeat rw [World.size_alloc]); omega) | (simp; done) | (simp; omega) | omega))) | (refine Below.then' ?_ (by assumption) ?_; rotate_left; (focus (first | exact Nat.lt_succ_self _ | ((repeat rw [World.size_alloc]); omega) | (simp; done) | (simp; omega) | omega))) | fail)); (first | done | fail))⟩
set_option maxHeartbeats 1000000 in
theorem rup_any (a b c : Nat) (ha : a < 18446744073709551616) (hb : b < 18446744073709551616) (hc : c < 18446744073709551616) (w : World) :
    Calls Try.prog 50 #[.int .u64 a, .int .u64 b, .int .u64 c] w fun e w' => e = .returned (.tuple #[.int .u64 ((upV (a * b) c : Nat) : Int), .int .i64 (upE (a * b) c)]) ∧ Below w.heap.size w w' := by
  rcases Nat.eq_zero_or_pos c with h | h
  · subst h
    go_enter Try.func50, Try.ntmps50
    go_wp2_with fail
    go_ret2
    exact ⟨rfl, Below.refl _ _⟩
  · have hq := quo_len (c := c) ha hb
    have e1 : upV (a * b) c = fit (upQ (a * b) c) := if_neg (by omega)
    have e2 : upE (a * b) c = toldE (upQ (a * b) c) := if_neg (by omega)
    rw [e1, e2]
    have h1 : ((c : Int) == 0) = false := by simp; omega
    have HP := Lib.hid (fun W => part_any a b c ha hb hc h W)
    by_cases hr : a * b % c = 0
    · have hu : upQ (a * b) c = a * b / c := by simp [upQ, hr]
      have hlen : (dg (a * b % c)).length = 0 := by rw [hr]; rfl
      rw [hu]
      clear e1 e2 hu hr
      generalize a * b / c = q at *
      generalize a * b % c = r at *
      have HP' := Lib.hid (fun W => (HP.out W).mono fun _ _ h => RetTwo.one hlen h)
      clear hlen HP
      obtain ⟨hq1, hq2⟩ := hq
      go_enter Try.func50, Try.ntmps50
      go_wp2_with fail
      refine (HP'.out _).mono ?_
      rintro e w1 ⟨A1, x1, A2, x2, rfl, hN1, hb1⟩
      have hM := (hN1.alloc (.cells #[.slice A1 (dg q).length x1] 71)).alloc (.cells #[.slice A2 (0 : Nat) x2] 71)
      have HM := Lib.hid hM
      clear hN1 hM
      go_wp2_with fail
      refine (told_any A1 _ x1 q _ HM.out (by omega)).mono ?_
      rintro e w2 ⟨rfl, hb2⟩
      go_wp2_with fail
      go_ret2
      exact ⟨rfl, (by (repeat (first | exact Below.refl _ _ | assumption | (refine Below.allocT ?_ _) | refine Below.drew ?_ | refine below_drewN ?_ _ | (refine Below.then ?_ (by assumption)) | (refine Below.setRow ?_ ?_ _; rotate_left; (focus (first | exact Nat.lt_succ_self _ | ((repeat rw [World.size_alloc]); omega) | (simp; done) | (simp; omega) | omega))) | (refine Below.setCell ?_ ?_ _; rotate_left; (focus (first | exact Nat.lt_succ_self _ | ((repeat rw [World.size_alloc]); omega) | (simp; done) | (simp; omega) | omega))) | (refine Below.then' ?_ (by assumption) ?_; rotate_left; (focus (first | exact Nat.lt_succ_self _ | ((repeat rw [World.size_alloc]); omega) | (simp; done) | (simp; omega) | omega))) | fail)); (first | done | fail))⟩
    · have hu : upQ (a * b) c = a * b / c + 1 := by simp [upQ, hr]
      have hlen : 0 < (dg (a * b % c)).length := by
        rcases Nat.eq_zero_or_pos (dg (a * b % c)).length with h | h
        · exact absurd (dg_len_zero.1 h) hr
        · exact h
      rw [hu]
      clear e1 e2 hu hr
      generalize a * b / c = q at *
      generalize a * b % c = r at *
      obtain ⟨hq1, hq2⟩ := hq
      have l1 : (dg 1).length ≤ 20 := len_u64 (by omega)
      have lq := len_add q 1
      go_enter Try.func50, Try.ntmps50
      go_wp2_with fail
      refine (HP.out _).mono ?_
      rintro e w1 ⟨A1, x1, A2, x2, rfl, hN1, hN2, hb1, _, _⟩
      have HM := Lib.hid ((hN1.alloc (.cells #[.slice A1 (dg q).length x1] 71)).alloc (.cells #[.slice A2 (dg r).length x2] 71))
      have R1 : row ((w1.alloc (.cells #[.slice A1 (dg q).length x1] 71)).alloc (.cells #[.slice A2 (dg r).length x2] 71)) w1.heap.size = some #[.slice A1 (dg q).length x1] := (by (repeat (first | assumption | (refine row_at _ _ _ _ ?_; first | rfl | (simp only [World.size_alloc]; done) | (simp only [World.size_alloc]; omega)) | (refine (row_past _ _ _ ?_).trans ?_; (focus (first | exact Nat.lt_succ_self _ | ((repeat rw [World.size_alloc]); omega) | (simp; done) | (simp; omega) | omega))) | rw [row_drewN] | rw [row_drew])); (first | done | fail))
      have HO := Lib.hid (fun W => ofn_any 1 (by omega) W)
      clear hN1 hN2
      go_wp2_with fail
      go_region_with (first | (go_at_call 44; refine (HO.out _).mono ?_; rintro e w2 ⟨A3, x3, rfl, hN3, hb2, _⟩; have r2 := (row_below hb2 (g := w1.heap.size) (by show w1.heap.size < ((w1.heap.push _).push _).size; simp; omega)).trans R1; have q2 : w2.cell? ⟨w1.heap.size, 0, none⟩ = some (.slice A1 (dg q).length x1) := row_cell r2 0) | (go_at_call 75; refine (add_any A1 A3 _ x1 _ x3 q 1 _ ((NatV.draw HM.out).stay hb2) hN3 (by omega) (by omega)).mono ?_; rintro e w3 ⟨A4, x4, rfl, hN4, hb3, hh4⟩; have r3 := (row_below hb3 (row_lt r2)).trans r2; have q3 : w3.cell? ⟨w1.heap.size, 0, none⟩ = some (.slice A1 (dg q).length x1) := row_cell r3 0; have f3 : w3.frozen? ⟨w1.heap.size, 0, none⟩ = false := row_frozen r3 0))
      all_goals
        have hz2 := row_lt r2
        have hz3 := row_lt r3
        have HN := Lib.hid (hN4.far (B := w2.heap.size) hh4 (p := ⟨w1.heap.size, 0, none⟩) hz2 (.slice A4 (dg (q + 1)).length x4))
        have hBB : Below w.heap.size w w3 := (by (repeat (first | exact Below.refl _ _ | assumption | (refine Below.allocT ?_ _) | refine Below.drew ?_ | refine below_drewN ?_ _ | (refine Below.then ?_ (by assumption)) | (refine Below.setRow ?_ ?_ _; rotate_left; (focus (first | exact Nat.lt_succ_self _ | ((repeat rw [World.size_alloc]); omega) | (simp; done) | (simp; omega) | omega))) | (refine Below.setCell ?_ ?_ _; rotate_left; (focus (first | exact Nat.lt_succ_self _ | ((repeat rw [World.size_alloc]); omega) | (simp; done) | (simp; omega) | omega))) | (refine Below.then' ?_ (by assumption) ?_; rotate_left; (focus (first | exact Nat.lt_succ_self _ | ((repeat rw [World.size_alloc]); omega) | (simp; done) | (simp; omega) | omega))) | fail)); (first | done | fail))
        have hle := hb1.size
        clear hN4 hN3 hh4
        go_wp2_with fail
        refine (told_any A4 _ x4 (q + 1) _ HN.out (by omega)).mono ?_
        rintro e w4 ⟨rfl, hb4⟩
        go_wp2_with fail
        go_ret2
        exact ⟨rfl, Below.then (Below.setCell hBB (p := ⟨w1.heap.size, 0, none⟩) hle _) hb4⟩
end Go.Proofs.Ytecdfphfgaeodaa

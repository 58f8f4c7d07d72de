/-
  What bullionref02.Part, Down, Up and Rest answer.
-/
import Derived.Test.YtkfbnaafpikgfaaRef01c
import Derived.Test.YtkfbnaafpikgfaaRef01e
import Derived.Test.YtkfbnaafpikgfaaRef01h
import Derived.Test.YtkfbnaafpikgfaaRatio2
namespace Go.Proofs.Ytkfbnaafpikgfaa
open Go.RowKit
set_option linter.unusedVariables false

set_option maxHeartbeats 1000000 in
theorem part_any (a b c : Nat) (ha : a < 18446744073709551616) (hb : b < 18446744073709551616) (hc : c < 18446744073709551616) (h0 : 0 < c) (w : World) :
    Calls Try.prog 76 #[.int .u64 a, .int .u64 b, .int .u64 c] w (RetTwo w (a * b / c) (a * b % c)) := by
  have la := len_u64 ha
  have lb := len_u64 hb
  have lc := len_u64 hc
  have lm := len_mul a b
  go_enter Try.func76, Try.ntmps76
  go_wp2_with fail
  refine (ofn_any a ha _).mono ?_
  rintro e w1 ⟨A1, x1, rfl, hN1, hb1, _⟩
  go_wp2_with fail
  refine (ofn_any b hb _).mono ?_
  rintro e w2 ⟨A2, x2, rfl, hN2, hb2, _⟩
  go_wp2_with fail
  refine (muln_any A1 A2 _ x1 _ x2 a b _ (hN1.stay hb2) hN2 (by omega) (by omega)).mono ?_
  rintro e w3 ⟨A3, x3, rfl, hN3, hb3, _⟩
  go_wp2_with fail
  refine (ofn_any c hc _).mono ?_
  rintro e w4 ⟨A4, x4, rfl, hN4, hb4, _⟩
  go_wp2_with fail
  refine (rdiv_any A3 A4 _ x3 _ x4 (a * b) c _ (hN3.stay hb4) hN4 (by omega) (by omega) h0).mono ?_
  rintro e w5 ⟨A5, x5, A6, x6, rfl, hN5, hN6, hb5, hh5, hh6⟩
  have HB : Below ((w.alloc (.cells #[.slice none 0 0] 94)).alloc (.cells #[.slice none 0 0] 94)).heap.size ((w.alloc (.cells #[.slice none 0 0] 94)).alloc (.cells #[.slice none 0 0] 94)) w5 := Below.then (Below.then (Below.then (Below.then hb1 hb2) hb3) hb4) hb5
  have s1 := (row_below HB (g := w.heap.size) (by simp; omega)).trans (show _ = some #[.slice none 0 0] from (by (repeat (first | assumption | (refine row_at _ _ _ _ ?_; first | rfl | (simp only [World.size_alloc]; done) | (simp only [World.size_alloc]; omega)) | (refine (row_past _ _ _ ?_).trans ?_; (focus (first | exact Nat.lt_succ_self _ | ((repeat rw [World.size_alloc]); omega) | (simp; done) | (simp; omega) | omega))) | rw [row_drewN] | rw [row_drew])); (first | done | fail)))
  have s2 := (row_below HB (g := w.heap.size + 1) (by simp)).trans (show _ = some #[.slice none 0 0] from (by (repeat (first | assumption | (refine row_at _ _ _ _ ?_; first | rfl | (simp only [World.size_alloc]; done) | (simp only [World.size_alloc]; omega)) | (refine (row_past _ _ _ ?_).trans ?_; (focus (first | exact Nat.lt_succ_self _ | ((repeat rw [World.size_alloc]); omega) | (simp; done) | (simp; omega) | omega))) | rw [row_drewN] | rw [row_drew])); (first | done | fail)))
  have hz := row_lt s2
  have p1 : w5.cell? ⟨w.heap.size, 0, none⟩ = some (.slice none 0 0) := row_cell s1 0
  have p2 : w5.cell? ⟨w.heap.size + 1, 0, none⟩ = some (.slice none 0 0) := row_cell s2 0
  have g1 : w5.frozen? ⟨w.heap.size, 0, none⟩ = false := row_frozen s1 0
  have g2 : w5.frozen? ⟨w.heap.size + 1, 0, none⟩ = false := row_frozen s2 0
  have hz4 : w.heap.size + 2 ≤ w4.heap.size := by
    have := (Below.then (Below.then (Below.then hb1 hb2) hb3) hb4).size
    simp at this; omega
  have F1 := Lib.hid ((hN5.far (B := w.heap.size + 2) (fun x hx => by have := hh5 x hx; omega) (p := ⟨w.heap.size, 0, none⟩) (by show w.heap.size < w.heap.size + 2; omega) (.slice A5 (dg (a * b / c)).length x5)).far (B := w.heap.size + 2) (fun x hx => by have := hh5 x hx; omega) (p := ⟨w.heap.size + 1, 0, none⟩) (by show w.heap.size + 1 < w.heap.size + 2; omega) (.slice A6 (dg (a * b % c)).length x6))
  have F2 := Lib.hid ((hN6.far (B := w.heap.size + 2) (fun x hx => by have := hh6 x hx; omega) (p := ⟨w.heap.size, 0, none⟩) (by show w.heap.size < w.heap.size + 2; omega) (.slice A5 (dg (a * b / c)).length x5)).far (B := w.heap.size + 2) (fun x hx => by have := hh6 x hx; omega) (p := ⟨w.heap.size + 1, 0, none⟩) (by show w.heap.size + 1 < w.heap.size + 2; omega) (.slice A6 (dg (a * b % c)).length x6))
  have hBB : Below w.heap.size w w5 := (by (repeat (first | exact Below.refl _ _ | assumption | (refine Below.allocT ?_ _) | refine Below.drew ?_ | refine below_drewN ?_ _ | (refine Below.then ?_ (by assumption)) | (refine Below.setRow ?_ ?_ _; rotate_left; (focus (first | exact Nat.lt_succ_self _ | ((repeat rw [World.size_alloc]); omega) | (simp; done) | (simp; omega) | omega))) | (refine Below.setCell ?_ ?_ _; rotate_left; (focus (first | exact Nat.lt_succ_self _ | ((repeat rw [World.size_alloc]); omega) | (simp; done) | (simp; omega) | omega))) | (refine Below.then' ?_ (by assumption) ?_; rotate_left; (focus (first | exact Nat.lt_succ_self _ | ((repeat rw [World.size_alloc]); omega) | (simp; done) | (simp; omega) | omega))) | fail)); (first | done | fail))
  have HH := Lib.hid (And.intro hh5 hh6)
  clear hN5 hN6 hh5 hh6 HB hb1 hb2 hb3 hb4 hb5 hN1 hN2 hN3 hN4
  go_wp2_with fail
  refine bodyPost_ret (v := .tuple #[.agg #[.slice A5 (dg (a * b / c)).length x5], .agg #[.slice A6 (dg (a * b % c)).length x6]]) (by simp [results, Try.results76, go_sem, p1, p2]) rfl ⟨_, _, _, _, rfl, F1.out, F2.out, ?_, fun x hx => by have := HH.out.1 x hx; omega, fun x hx => by have := HH.out.2 x hx; omega⟩
  exact (hBB.setCell (p := ⟨w.heap.size, 0, none⟩) (by show w.heap.size ≤ w.heap.size; omega) _).setCell (p := ⟨w.heap.size + 1, 0, none⟩) (by show w.heap.size ≤ w.heap.size + 1; omega) _
def RetOne (w : World) (q : Nat) (e : Ending) (w' : World) : Prop := ∃ A c A' c', e = .returned (.tuple #[.agg #[.slice A (dg q).length c], .agg #[.slice A' (0 : Nat) c']]) ∧ NatV w' A (dg q).length q ∧ Below w.heap.size w w'
theorem RetTwo.one {w : World} {q r : Nat} {e : Ending} {w' : World} (hr : (dg r).length = 0) (h : RetTwo w q r e w') : RetOne w q e w' := by
  obtain ⟨A, c, A', c', he, h1, _, h2, _⟩ := h
  rw [hr] at he
  exact ⟨A, c, A', c', he, h1, h2⟩
theorem quo_len {a b c : Nat} (ha : a < 18446744073709551616) (hb : b < 18446744073709551616) : (dg (a * b / c)).length ≤ 40 ∧ (dg (a * b % c)).length ≤ 40 := by
  have la := len_u64 ha
  have lb := len_u64 hb
  have lm := len_mul a b
  have l1 := len_div (a * b) c
  have l2 := len_mod (a * b) c
  exact ⟨by omega, by omega⟩
set_option maxHeartbeats 1000000 in
theorem rdown_any (a b c : Nat) (ha : a < 18446744073709551616) (hb : b < 18446744073709551616) (hc : c < 18446744073709551616) (w : World) :
    Calls Try.prog 48 #[.int .u64 a, .int .u64 b, .int .u64 c] w fun e w' => e = .returned (.tuple #[.int .u64 ((quoV (a * b) c : Nat) : Int), .int .i64 (quoE (a * b) c)]) ∧ Below w.heap.size w w' := by
  rcases Nat.eq_zero_or_pos c with h | h
  · subst h
    go_enter Try.func48, Try.ntmps48
    go_wp2_with fail
    go_ret2
    exact ⟨rfl, Below.refl _ _⟩
  · have hq := (quo_len (c := c) ha hb).1
    have e1 : quoV (a * b) c = fit (a * b / c) := if_neg (by omega)
    have e2 : quoE (a * b) c = toldE (a * b / c) := if_neg (by omega)
    rw [e1, e2]
    have h1 : ((c : Int) == 0) = false := by simp; omega
    have HP := Lib.hid (fun W => part_any a b c ha hb hc h W)
    clear e1 e2
    generalize a * b / c = q at *
    generalize a * b % c = r at *
    go_enter Try.func48, Try.ntmps48
    go_wp2_with fail
    refine (HP.out _).mono ?_
    rintro e w1 ⟨A1, x1, A2, x2, rfl, hN1, hN2, hb1, _, _⟩
    have hM := (hN1.alloc (.cells #[.slice A1 (dg q).length x1] 94)).alloc (.cells #[.slice A2 (dg r).length x2] 94)
    have HM := Lib.hid hM
    clear hN1 hN2 hM
    go_wp2_with fail
    refine (told_any A1 _ x1 q _ HM.out (by omega)).mono ?_
    rintro e w2 ⟨rfl, hb2⟩
    go_wp2_with fail
    go_ret2
    exact ⟨rfl, (by (repeat (first | exact Below.refl _ _ | assumption | (refine Below.allocT ?_ _) | refine Below.drew ?_ | refine below_drewN ?_ _ | (refine Below.then ?_ (by assumption)) | (refine Below.setRow ?_ ?_ _; rotate_left; (focus (first | exact Nat.lt_succ_self _ | ((repeat rw [World.size_alloc]); omega) | (simp; done) | (simp; omega) | omega))) | (refine Below.setCell ?_ ?_ _; rotate_left; (focus (first | exact Nat.lt_succ_self _ | ((repeat rw [World.size_alloc]); omega) | (simp; done) | (simp; omega) | omega))) | (refine Below.then' ?_ (by assumption) ?_; rotate_left; (focus (first | exact Nat.lt_succ_self _ | ((repeat rw [World.size_alloc]); omega) | (simp; done) | (simp; omega) | omega))) | fail)); (first | done | fail))⟩
end Go.Proofs.Ytkfbnaafpikgfaa

/-
  The walks of MoneySums and MoneyStops.
-/
import Derived.Test.YtfdjmpaikbaepaaLaw01
namespace Go.Proofs.Ytfdjmpaikbaepaa
open Go.RowKit

set_option maxHeartbeats 1000000 in
set_option maxRecDepth 100000 in
theorem moneySums_any (a b : Nat) (ha : a < 18446744073709551616) (hb : b < 18446744073709551616) (w : World) :
    Calls Try.prog 8 #[.int .u64 a, .int .u64 b] w fun e w' => e = .returned (.bool true) ∧ Below w.heap.size w w' := by
  have la := len_u64 ha
  have lb := len_u64 hb
  have lm := len_mul a b
  have ls := len_add a b
  have lt := len_mono (Nat.sub_le a b)
  have HS := Lib.hid (fun W => madd_any a b ha hb W)
  have HP := Lib.hid (fun W => mmul_any a b ha hb W)
  have HD := Lib.hid (fun W => msub_any a b ha hb W)
  go_enter Try.func8, Try.ntmps8
  go_wp2_with fail
  refine (awake01_any _).mono ?_
  rintro e w1 ⟨rfl, rfl⟩
  go_wp2_with fail
  refine (ofn_any a ha _).mono ?_
  rintro e w1 ⟨A1, x1, rfl, hN1, hb1, _⟩
  go_wp2_with fail
  refine (ofn_any b hb _).mono ?_
  rintro e w2 ⟨A2, x2, rfl, hN2, hb2, _⟩
  go_wp2_with fail
  refine (HS.out _).mono ?_
  rintro e w3 ⟨rfl, rfl⟩
  have M1 := ((hN1.stay hb2).alloc (.cells #[.slice A1 (dg a).length x1] 43)).alloc (.cells #[.slice A2 (dg b).length x2] 43)
  have M2 := (hN2.alloc (.cells #[.slice A1 (dg a).length x1] 43)).alloc (.cells #[.slice A2 (dg b).length x2] 43)
  have R1 : row ((w2.alloc (.cells #[.slice A1 (dg a).length x1] 43)).alloc (.cells #[.slice A2 (dg b).length x2] 43)) w2.heap.size = some #[.slice A1 (dg a).length x1] := (by repeat (first | assumption | (refine row_at _ _ _ _ ?_; first | rfl | (simp only [World.size_alloc]; done) | (simp only [World.size_alloc]; omega)) | (refine (row_past _ _ _ ?_).trans ?_; (focus (first | exact Nat.lt_succ_self _ | (simp only [World.size_alloc]; omega) | (simp; done) | (simp; omega) | omega))) | rw [row_drewN] | rw [row_drew]))
  have R2 : row ((w2.alloc (.cells #[.slice A1 (dg a).length x1] 43)).alloc (.cells #[.slice A2 (dg b).length x2] 43)) (w2.heap.size + 1) = some #[.slice A2 (dg b).length x2] := (by repeat (first | assumption | (refine row_at _ _ _ _ ?_; first | rfl | (simp only [World.size_alloc]; done) | (simp only [World.size_alloc]; omega)) | (refine (row_past _ _ _ ?_).trans ?_; (focus (first | exact Nat.lt_succ_self _ | (simp only [World.size_alloc]; omega) | (simp; done) | (simp; omega) | omega))) | rw [row_drewN] | rw [row_drew]))
  have B0 : Below w.heap.size w ((w2.alloc (.cells #[.slice A1 (dg a).length x1] 43)).alloc (.cells #[.slice A2 (dg b).length x2] 43)) := (by repeat (first | exact Below.refl _ _ | assumption | (refine Below.allocT ?_ _) | refine Below.drew ?_ | refine below_drewN ?_ _ | (refine Below.then ?_ (by assumption)) | (refine Below.setRow ?_ ?_ _; rotate_left; (focus (first | exact Nat.lt_succ_self _ | (simp only [World.size_alloc]; omega) | (simp; done) | (simp; omega) | omega))) | (refine Below.setCell ?_ ?_ _; rotate_left; (focus (first | exact Nat.lt_succ_self _ | (simp only [World.size_alloc]; omega) | (simp; done) | (simp; omega) | omega))) | (refine Below.then' ?_ (by assumption) ?_; rotate_left; (focus (first | exact Nat.lt_succ_self _ | (simp only [World.size_alloc]; omega) | (simp; done) | (simp; omega) | omega))) | fail))
  go_wp2_with fail
  refine (add_any A1 A2 _ x1 _ x2 a b _ M1 M2 (by omega) (by omega)).mono ?_
  generalize ((w2.alloc (.cells #[.slice A1 (dg a).length x1] 43)).alloc (.cells #[.slice A2 (dg b).length x2] 43)) = W at *
  rintro e w4 ⟨A3, x3, rfl, hN3, hb3, _⟩
  clear hb1 hb2 hN1 hN2
  generalize w2.heap.size = g at *
  have R3 := (row_below hb3 (row_lt R1)).trans R1
  have R4 := (row_below hb3 (row_lt R2)).trans R2
  have M3 := M1.stay hb3
  have M4 := M2.stay hb3
  go_wp2_with fail
  refine (told_any A3 _ x3 (a + b) _ hN3 (by omega)).mono ?_
  rintro e w5 ⟨rfl, hb4⟩
  have R5 := (row_below hb4 (row_lt R3)).trans R3
  have R6 := (row_below hb4 (row_lt R4)).trans R4
  have M5 := M3.stay hb4
  have M6 := M4.stay hb4
  have q5 : w5.cell? ⟨g, 0, none⟩ = some (.slice A1 (dg a).length x1) := row_cell R5 0
  have q6 : w5.cell? ⟨g + 1, 0, none⟩ = some (.slice A2 (dg b).length x2) := row_cell R6 0
  go_wp2_with fail
  refine (HP.out _).mono ?_
  rintro e w3' ⟨rfl, rfl⟩
  go_wp2_with fail
  refine (muln_any A1 A2 _ x1 _ x2 a b _ M5 M6 (by omega) (by omega)).mono ?_
  rintro e w6 ⟨A4, x4, rfl, hN4, hb5, _⟩
  have R7 := (row_below hb5 (row_lt R5)).trans R5
  have R8 := (row_below hb5 (row_lt R6)).trans R6
  have M7 := M5.stay hb5
  have M8 := M6.stay hb5
  clear q5 q6
  go_wp2_with fail
  refine (told_any A4 _ x4 (a * b) _ hN4 (by omega)).mono ?_
  rintro e w7 ⟨rfl, hb6⟩
  have R9 := (row_below hb6 (row_lt R7)).trans R7
  have R10 := (row_below hb6 (row_lt R8)).trans R8
  have M9 := M7.stay hb6
  have M10 := M8.stay hb6
  have q5 : w7.cell? ⟨g, 0, none⟩ = some (.slice A1 (dg a).length x1) := row_cell R9 0
  have q6 : w7.cell? ⟨g + 1, 0, none⟩ = some (.slice A2 (dg b).length x2) := row_cell R10 0
  go_wp2_with fail
  refine (HD.out _).mono ?_
  rintro e w3' ⟨rfl, rfl⟩
  have BB : Below w.heap.size w w7 := (by repeat (first | exact Below.refl _ _ | assumption | (refine Below.allocT ?_ _) | refine Below.drew ?_ | refine below_drewN ?_ _ | (refine Below.then ?_ (by assumption)) | (refine Below.setRow ?_ ?_ _; rotate_left; (focus (first | exact Nat.lt_succ_self _ | (simp only [World.size_alloc]; omega) | (simp; done) | (simp; omega) | omega))) | (refine Below.setCell ?_ ?_ _; rotate_left; (focus (first | exact Nat.lt_succ_self _ | (simp only [World.size_alloc]; omega) | (simp; done) | (simp; omega) | omega))) | (refine Below.then' ?_ (by assumption) ?_; rotate_left; (focus (first | exact Nat.lt_succ_self _ | (simp only [World.size_alloc]; omega) | (simp; done) | (simp; omega) | omega))) | fail))
  clear R1 R2 R3 R4 R5 R6 R7 R8 R9 R10 M1 M2 M3 M4 M5 M6 M7 M8 hb3 hb4 hb5 hb6 hN3 hN4 B0
  by_cases hlt : a < b
  · have hf : fitS a b = 0 := by unfold fitS; rw [if_neg (by omega)]
    have he : subE a b = 11 := by unfold subE; rw [if_neg (by omega)]
    rw [hf, he]
    clear hf he
    go_wp2_with fail
    refine (tells_any _ _ _ _ rfl).mono ?_
    rintro e w8 ⟨rfl, rfl⟩
    go_wp2_with fail
    refine (tells_any _ _ _ _ rfl).mono ?_
    rintro e w8 ⟨rfl, rfl⟩
    go_wp2_with fail
    go_ret
    exact ⟨rfl, BB⟩
  · have hf : fitS a b = a - b := by unfold fitS; rw [if_pos (by omega)]
    have he : subE a b = 0 := by unfold subE; rw [if_pos (by omega)]
    rw [hf, he]
    clear hf he
    go_wp2_with fail
    refine (sub_any A1 A2 _ x1 _ x2 a b _ M9 M10 (by omega) (by omega) (by omega)).mono ?_
    rintro e w8 ⟨A5, x5, rfl, hN5, hb7, _⟩
    go_wp2_with fail
    refine (uint_any A5 _ x5 (a - b) _ hN5 (by omega)).mono ?_
    rw [fit_le (show a - b ≤ 18446744073709551615 by omega)]
    rintro e w9 ⟨rfl, hb8⟩
    go_wp2_with fail
    refine (tells_any _ _ _ _ rfl).mono ?_
    rintro e w10 ⟨rfl, rfl⟩
    go_wp2_with fail
    refine (tells_any _ _ _ _ rfl).mono ?_
    rintro e w10 ⟨rfl, rfl⟩
    go_wp2_with fail
    go_ret
    exact ⟨rfl, (by repeat (first | exact Below.refl _ _ | assumption | (refine Below.allocT ?_ _) | refine Below.drew ?_ | refine below_drewN ?_ _ | (refine Below.then ?_ (by assumption)) | (refine Below.setRow ?_ ?_ _; rotate_left; (focus (first | exact Nat.lt_succ_self _ | (simp only [World.size_alloc]; omega) | (simp; done) | (simp; omega) | omega))) | (refine Below.setCell ?_ ?_ _; rotate_left; (focus (first | exact Nat.lt_succ_self _ | (simp only [World.size_alloc]; omega) | (simp; done) | (simp; omega) | omega))) | (refine Below.then' ?_ (by assumption) ?_; rotate_left; (focus (first | exact Nat.lt_succ_self _ | (simp only [World.size_alloc]; omega) | (simp; done) | (simp; omega) | omega))) | fail))⟩
end Go.Proofs.Ytfdjmpaikbaepaa

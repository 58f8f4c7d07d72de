/-
  The reference's Passes of a ballot.
-/
import Derived.Test.YtnakkjgnjffkpaaBallot
import Derived.Test.YtnakkjgnjffkpaaTicks
import Derived.Test.YtnakkjgnjffkpaaRef01a
import Derived.Test.YtnakkjgnjffkpaaDed
namespace Go.Proofs.Ytnakkjgnjffkpaa
open Go.RowKit
set_option linter.unusedVariables false

set_option maxHeartbeats 4000000 in
set_option maxRecDepth 100000 in
theorem rpasses22_any (q : Int) (y n a : Nat) (hq : i64ok q) (hy : y < 18446744073709551616) (hn : n < 18446744073709551616) (ha : a < 18446744073709551616) (w : World) : Calls Try.prog 109 #[.int .i64 q, .int .u64 (y : Int), .int .u64 (n : Int), .int .u64 (a : Int)] w fun e w' => e = .returned (.bool (passB q y n a)) ∧ Below w.heap.size w w' := by
  have hl1 := len_u64 hy
  have hl2 := len_u64 hn
  have hl3 := len_u64 ha
  have hl12 := len_add y n
  obtain ⟨S, hS⟩ : ∃ S, S = y + n := ⟨_, rfl⟩
  rw [← hS] at hl12
  have lS : (dg S).length ≤ 22 := by omega
  clear hl12
  have HS := Lib.hid hS
  have HV : Hid (passB q y n a = (fitB S && (decide (a ≠ 0) && (decide (n < y) && (decide (0 ≤ q) && decide (q.toNat * a ≤ S * 10000)))))) := Lib.hid (by unfold passB fitB; rw [hS]; rfl)
  have HAdd : Hid (∀ A1 c1 A2 c2 W, NatV W A1 (dg y).length y → NatV W A2 (dg n).length n → Calls Try.prog 153 #[.agg #[.slice A1 (dg y).length c1], .agg #[.slice A2 (dg n).length c2]] W (RetNat W (y + n))) := Lib.hid (fun A1 c1 A2 c2 W h1 h2 => add_any A1 A2 _ c1 _ c2 y n W h1 h2 (by omega) (by omega))
  rw [← hS] at HAdd
  clear hS
  go_enter Try.func109, Try.ntmps109
  go_wp2_with fail
  refine (ofn_any y hy _).mono ?_
  rintro e w1 ⟨A1, x1, rfl, hN1, hb1, _⟩
  go_wp2_with fail
  refine (ofn_any n hn _).mono ?_
  rintro e w2 ⟨A2, x2, rfl, hN2, hb2, _⟩
  go_wp2_with fail
  refine (HAdd.out A1 x1 A2 x2 _ (hN1.stay hb2) hN2).mono ?_
  rintro e w3 ⟨A3, x3, rfl, hN3, hb3, _⟩
  have B3 := Lib.hid (Below.then (Below.then hb1 hb2) hb3)
  have N3 := Lib.hid hN3
  clear hb1 hb2 hb3 hN1 hN2 hN3 HAdd
  go_upto_region 2 with fail
  refine of_world (fun W => Below w.heap.size w W ∧ row W w3.heap.size = some #[.slice A3 (dg S).length x3] ∧ NatV W A3 (dg S).length S) ⟨B3.out.alloc B3.out.size _, row_at _ _ _ _ rfl, N3.out.stay ((Below.refl _ w3).alloc (Nat.le_refl _) _)⟩ ?_
  rintro w4 ⟨hb4, r4, hN4⟩
  have B4 := Lib.hid hb4
  have N4 := Lib.hid hN4
  have R4 := Lib.hid r4
  generalize w3.heap.size = g3 at *
  have c4 : w4.cell? ⟨g3, 0, none⟩ = some (.slice A3 (dg S).length x3) := row_cell r4 0
  clear hb4 hN4 N3 B3 r4
  go_wp2_with fail
  refine (uint_any A3 _ x3 S _ N4.out (by omega)).mono ?_
  rintro e w5 ⟨rfl, hb5⟩
  have B5 := Lib.hid (Below.then B4.out hb5)
  have N5 := Lib.hid (N4.out.stay hb5)
  have R5 := Lib.hid ((row_below hb5 (row_lt R4.out)).trans R4.out)
  clear hb5 N4 B4 R4 c4
  generalize fitB S = fs at *
  generalize fit S = fS at *
  cases fs
  · go_wp2_with fail
    go_ret
    exact ⟨by rw [HV.out]; rfl, B5.out⟩
  by_cases h1 : a = 0
  · subst h1
    go_wp2_with fail
    go_ret
    exact ⟨by rw [HV.out]; rfl, B5.out⟩
  have e1 : ((a : Int) == 0) = false := beq_eq_false_iff_ne.2 (by omega)
  by_cases h2 : y ≤ n
  · have h2' : (y : Int) ≤ (n : Int) := by omega
    have hz : decide (n < y) = false := decide_eq_false (by omega)
    have HV2 : Hid (passB q y n a = false) := Lib.hid (by rw [HV.out, hz, Bool.false_and, Bool.and_false, Bool.and_false])
    clear h1 h2 hz
    go_wp2_with fail
    go_ret
    exact ⟨by rw [HV2.out]; rfl, B5.out⟩
  have h2' : ¬ (y : Int) ≤ (n : Int) := by omega
  by_cases h3 : q < 0
  · have hz : decide (0 ≤ q) = false := decide_eq_false (by omega)
    have HV2 : Hid (passB q y n a = false) := Lib.hid (by rw [HV.out, hz, Bool.false_and, Bool.and_false, Bool.and_false, Bool.and_false])
    clear h1 h2 hz
    go_wp2_with fail
    go_ret
    exact ⟨by rw [HV2.out]; rfl, B5.out⟩
  have HV2 : Hid (passB q y n a = decide (q.toNat * a ≤ S * 10000)) := Lib.hid (by rw [HV.out, decide_eq_true h1, decide_eq_true (show n < y by omega), decide_eq_true (show 0 ≤ q by omega)]; rfl)
  obtain ⟨Q, rfl⟩ := Int.eq_ofNat_of_zero_le (show 0 ≤ q by omega)
  have hQ : Q < 18446744073709551616 := by unfold i64ok at hq; omega
  have eQ : IntKind.u64.wrap ((Q : Nat) : Int) = ((Q : Nat) : Int) := Bits.wrapN _ hQ
  rw [Int.toNat_natCast] at HV2
  have hlQ := len_u64 hQ
  have hl10 := len_u64 (n := 10000) (by omega)
  have hlm1 := len_mul S 10000
  have hlm2 := len_mul Q a
  have l1 : (dg (S * 10000)).length ≤ 100 := by omega
  have l2 : (dg (Q * a)).length ≤ 100 := by omega
  clear h1 h2 HV hlm1 hlm2
  have z5 := row_lt R5.out
  have c5 : w5.cell? ⟨g3, 0, none⟩ = some (.slice A3 (dg S).length x3) := row_cell R5.out 0
  go_upto_region 5 with fail
  go_cut [12] (fun s3 wx => ∃ (V : World) (g : Nat) (A : Option Addr) (x : Nat), s3 = .pointer (some ⟨g, 0, none⟩) ∧ V = wx ∧ Below w5.heap.size w5 V ∧ row V g = some #[.slice A (dg (S * 10000)).length x] ∧ Hid (NatV V A (dg (S * 10000)).length (S * 10000)))
  case first =>
    have HM : Hid (∀ w', Below w5.heap.size w5 w' → w'.cell? ⟨g3, 0, none⟩ = some (.slice A3 (dg S).length x3)) := Lib.hid fun w' h => row_cell ((row_below h z5).trans R5.out) 0
    go_region_held3 (fun w' => w'.cell? ⟨g3, 0, none⟩ = some (.slice A3 (dg S).length x3)) (exact HM.out _ (by (repeat (first | exact Below.refl _ _ | assumption | (refine Below.allocT ?_ _) | refine Below.drew ?_ | refine below_drewN ?_ _ | (refine Below.then ?_ (by assumption)) | (refine Below.setRow ?_ ?_ _; rotate_left; (focus (first | exact Nat.lt_succ_self _ | ((repeat rw [World.size_alloc]); omega) | (simp; done) | (simp; omega) | omega))) | (refine Below.setCell ?_ ?_ _; rotate_left; (focus (first | exact Nat.lt_succ_self _ | ((repeat rw [World.size_alloc]); omega) | (simp; done) | (simp; omega) | omega))) | (refine Below.then' ?_ (by assumption) ?_; rotate_left; (focus (first | exact Nat.lt_succ_self _ | ((repeat rw [World.size_alloc]); omega) | (simp; done) | (simp; omega) | omega))) | fail)); (first | done | fail))) (first | (go_at_call 144; refine (ofn_any 10000 (by omega) _).mono ?_; rintro e w1 ⟨A1, x1, rfl, hN1, hb1, _⟩; have z1 := hb1.size; (repeat (first | rw [World.size_alloc] at z1 | rw [size_drew] at z1)); (try (have y1 := Nat.lt_of_succ_le z1)); obtain ⟨hc1, hf1⟩ := bcell hb1) | (go_at_call 143; refine (muln_any A3 A1 _ x3 _ x1 S 10000 _ (N5.out.stay (by (repeat (first | exact Below.refl _ _ | assumption | (refine Below.allocT ?_ _) | refine Below.drew ?_ | refine below_drewN ?_ _ | (refine Below.then ?_ (by assumption)) | (refine Below.setRow ?_ ?_ _; rotate_left; (focus (first | exact Nat.lt_succ_self _ | ((repeat rw [World.size_alloc]); omega) | (simp; done) | (simp; omega) | omega))) | (refine Below.setCell ?_ ?_ _; rotate_left; (focus (first | exact Nat.lt_succ_self _ | ((repeat rw [World.size_alloc]); omega) | (simp; done) | (simp; omega) | omega))) | (refine Below.then' ?_ (by assumption) ?_; rotate_left; (focus (first | exact Nat.lt_succ_self _ | ((repeat rw [World.size_alloc]); omega) | (simp; done) | (simp; omega) | omega))) | fail)); (first | done | fail))) (hN1.stay (by (repeat (first | exact Below.refl _ _ | assumption | (refine Below.allocT ?_ _) | refine Below.drew ?_ | refine below_drewN ?_ _ | (refine Below.then ?_ (by assumption)) | (refine Below.setRow ?_ ?_ _; rotate_left; (focus (first | exact Nat.lt_succ_self _ | ((repeat rw [World.size_alloc]); omega) | (simp; done) | (simp; omega) | omega))) | (refine Below.setCell ?_ ?_ _; rotate_left; (focus (first | exact Nat.lt_succ_self _ | ((repeat rw [World.size_alloc]); omega) | (simp; done) | (simp; omega) | omega))) | (refine Below.then' ?_ (by assumption) ?_; rotate_left; (focus (first | exact Nat.lt_succ_self _ | ((repeat rw [World.size_alloc]); omega) | (simp; done) | (simp; omega) | omega))) | fail)); (first | done | fail))) (by omega) (by omega)).mono ?_; rintro e w3 ⟨A3', x3', rfl, hN3, hb3, hh3⟩; have z3 := hb3.size; (repeat (first | rw [World.size_alloc] at z3 | rw [size_drew] at z3)); (try (have y3 := Nat.lt_of_succ_le z3)); obtain ⟨hc3, hf3⟩ := bcell hb3))
    all_goals
      go_wp2_with fail
      go_meet
      clear hc1 hf1 hc3 hf3 HM
      first
        | exact ⟨_, _, A3', x3', rfl, rfl, (by (repeat (first | exact Below.refl _ _ | assumption | (refine Below.allocT ?_ _) | refine Below.drew ?_ | refine below_drewN ?_ _ | (refine Below.then ?_ (by assumption)) | (refine Below.setRow ?_ ?_ _; rotate_left; (focus (first | exact Nat.lt_succ_self _ | ((repeat rw [World.size_alloc]); omega) | (simp; done) | (simp; omega) | omega))) | (refine Below.setCell ?_ ?_ _; rotate_left; (focus (first | exact Nat.lt_succ_self _ | ((repeat rw [World.size_alloc]); omega) | (simp; done) | (simp; omega) | omega))) | (refine Below.then' ?_ (by assumption) ?_; rotate_left; (focus (first | exact Nat.lt_succ_self _ | ((repeat rw [World.size_alloc]); omega) | (simp; done) | (simp; omega) | omega))) | fail)); (first | done | fail)), (by (repeat (first | assumption | (refine row_at _ _ _ _ ?_; first | rfl | (simp only [World.size_alloc]; done) | (simp only [World.size_alloc]; omega)) | (refine (row_past _ _ _ ?_).trans ?_; (focus (first | exact Nat.lt_succ_self _ | ((repeat rw [World.size_alloc]); omega) | (simp; done) | (simp; omega) | omega))) | rw [row_drewN] | rw [row_drew] | (refine (row_far _ _ _ _ ?_).trans ?_; (focus (first | (simp; done) | (simp; omega)))) | (refine (row_below (by assumption) ?_).trans ?_; (focus (first | exact Nat.lt_succ_self _ | ((repeat rw [World.size_alloc]); omega) | (simp; done) | (simp; omega) | omega))))); (first | done | fail)), Lib.hid (hN3.stay (by (repeat (first | exact Below.refl _ _ | assumption | (refine Below.allocT ?_ _) | refine Below.drew ?_ | refine below_drewN ?_ _ | (refine Below.then ?_ (by assumption)) | (refine Below.setRow ?_ ?_ _; rotate_left; (focus (first | exact Nat.lt_succ_self _ | ((repeat rw [World.size_alloc]); omega) | (simp; done) | (simp; omega) | omega))) | (refine Below.setCell ?_ ?_ _; rotate_left; (focus (first | exact Nat.lt_succ_self _ | ((repeat rw [World.size_alloc]); omega) | (simp; done) | (simp; omega) | omega))) | (refine Below.then' ?_ (by assumption) ?_; rotate_left; (focus (first | exact Nat.lt_succ_self _ | ((repeat rw [World.size_alloc]); omega) | (simp; done) | (simp; omega) | omega))) | fail)); (first | done | fail)))⟩
        | exact ⟨_, _, A3', x3', rfl, rfl, (by (repeat (first | exact Below.refl _ _ | assumption | (refine Below.allocT ?_ _) | refine Below.drew ?_ | refine below_drewN ?_ _ | (refine Below.then ?_ (by assumption)) | (refine Below.setRow ?_ ?_ _; rotate_left; (focus (first | exact Nat.lt_succ_self _ | ((repeat rw [World.size_alloc]); omega) | (simp; done) | (simp; omega) | omega))) | (refine Below.setCell ?_ ?_ _; rotate_left; (focus (first | exact Nat.lt_succ_self _ | ((repeat rw [World.size_alloc]); omega) | (simp; done) | (simp; omega) | omega))) | (refine Below.then' ?_ (by assumption) ?_; rotate_left; (focus (first | exact Nat.lt_succ_self _ | ((repeat rw [World.size_alloc]); omega) | (simp; done) | (simp; omega) | omega))) | fail)); (first | done | fail)), row_set (cs := #[.slice none 0 0]) (by (repeat (first | assumption | (refine row_at _ _ _ _ ?_; first | rfl | (simp only [World.size_alloc]; done) | (simp only [World.size_alloc]; omega)) | (refine (row_past _ _ _ ?_).trans ?_; (focus (first | exact Nat.lt_succ_self _ | ((repeat rw [World.size_alloc]); omega) | (simp; done) | (simp; omega) | omega))) | rw [row_drewN] | rw [row_drew] | (refine (row_far _ _ _ _ ?_).trans ?_; (focus (first | (simp; done) | (simp; omega)))) | (refine (row_below (by assumption) ?_).trans ?_; (focus (first | exact Nat.lt_succ_self _ | ((repeat rw [World.size_alloc]); omega) | (simp; done) | (simp; omega) | omega))))); (first | done | fail)) 0 _, Lib.hid (hN3.far (fun x hx => by have := hh3 x hx; (repeat (first | rw [World.size_alloc] at this | rw [size_drew] at this)); (try dsimp only); omega) (Nat.lt_succ_self _) _)⟩
        | fail
  case rest =>
    obtain ⟨V, g1, Ak, xk, rfl, rfl, hBV, rk, hNk⟩ := hcut
    have BV := Lib.hid (Below.then B5.out hBV)
    have RK := Lib.hid rk
    clear hBV rk R5 N5 B5 c5
    go_wp2_with fail
    refine (ofn_any Q hQ _).mono ?_
    rintro e w7 ⟨A7, x7, rfl, hN7, hb7, _⟩
    go_wp2_with fail
    refine (ofn_any a ha _).mono ?_
    rintro e w8 ⟨A8, x8, rfl, hN8, hb8, _⟩
    go_wp2_with fail
    refine (muln_any A7 A8 _ x7 _ x8 Q a _ (hN7.stay hb8) hN8 (by omega) (by omega)).mono ?_
    rintro e w9 ⟨A9, x9, rfl, hN9, hb9, _⟩
    have H9 := Lib.hid (Below.then (Below.then hb7 hb8) hb9)
    have N9 := Lib.hid hN9
    clear hb7 hb8 hb9 hN7 hN8 hN9
    go_upto_region 7 with fail
    refine of_world (fun W => Below V.heap.size V W ∧ row W w9.heap.size = some #[.slice A9 (dg (Q * a)).length x9] ∧ NatV W A9 (dg (Q * a)).length (Q * a)) ⟨H9.out.alloc H9.out.size _, row_at _ _ _ _ rfl, N9.out.stay ((Below.refl _ w9).alloc (Nat.le_refl _) _)⟩ ?_
    rintro w10 ⟨hb10, r10, hN10⟩
    have HC := Lib.hid (cmp_any Ak A9 _ xk _ x9 (S * 10000) (Q * a) w10 (hNk.out.stay hb10) hN10 (by omega) (by omega))
    have B10 := Lib.hid (Below.then BV.out hb10)
    have ck : w10.cell? ⟨g1, 0, none⟩ = some (.slice Ak (dg (S * 10000)).length xk) := row_cell ((row_below hb10 (row_lt RK.out)).trans RK.out) 0
    have c9 : w10.cell? ⟨w9.heap.size, 0, none⟩ = some (.slice A9 (dg (Q * a)).length x9) := row_cell r10 0
    generalize w9.heap.size = g9 at *
    clear hb10 r10 hN10 H9 N9 hNk
    have HG := Lib.hid (@cmp_ge (S * 10000) (Q * a))
    have HL := Lib.hid (@cmp_lt' (S * 10000) (Q * a))
    generalize cmpI (S * 10000) (Q * a) = ci at *
    go_wp2_with fail
    refine (HC.out).mono ?_
    rintro e w11 ⟨rfl, hb11⟩
    have B11 := Lib.hid (Below.then B10.out hb11)
    clear hb11
    by_cases hc : Q * a ≤ S * 10000
    · have hq' := HG.out hc
      have HV3 := Lib.hid (HV2.out.trans (decide_eq_true hc))
      have HD := Lib.hid (decide_eq_true hq')
      clear hc hq'
      go_wp2_with fail
      go_ret
      exact ⟨by rw [HV3.out]; exact congrArg (fun b => Ending.returned (.bool b)) HD.out, B11.out⟩
    · have hq' := HL.out hc
      have hq2 : ¬ (0 ≤ ci) := by omega
      have HV3 := Lib.hid (HV2.out.trans (decide_eq_false hc))
      have HD := Lib.hid (decide_eq_false hq2)
      clear hc hq' hq2
      go_wp2_with fail
      go_ret
      exact ⟨by rw [HV3.out]; exact congrArg (fun b => Ending.returned (.bool b)) HD.out, B11.out⟩
end Go.Proofs.Ytnakkjgnjffkpaa

/-
  Layer 38: AnnalsBytes: any report has the document's bytes; any bytes are the document's report, or have the first error.
-/
import Derived.Test.YtnakkjgnjffkpaaRepW
import Derived.Test.YtnakkjgnjffkpaaRepF
import Derived.Test.YtnakkjgnjffkpaaRepD
import Derived.Test.YtnakkjgnjffkpaaRepG
import Derived.Test.YtnakkjgnjffkpaaLaw38
import Derived.Test.YtnakkjgnjffkpaaOpenB
namespace Go.Proofs.Ytnakkjgnjffkpaa
open Go.RowKit
set_option linter.unusedVariables false
set_option linter.unusedSimpArgs false

theorem decR_len (t : Rd) : (decR38 t).out.length ≤ 9223372036854775807 ∧ (decR38 t).left.length ≤ 9223372036854775807 ∧ (decR38 t).started.length ≤ 9223372036854775807 ∧ (decR38 t).done.length ≤ 9223372036854775807 := by
  unfold decR38
  split
  · have := repR_ok t
    exact ⟨this.out, this.left, this.started, this.done⟩
  · decide
set_option maxRecDepth 100000 in
set_option maxHeartbeats 8000000 in
theorem annalsBytes_any (r : Rep) (a : RepA) (A : Option Addr) (n c : Nat) (xs : List Nat) (hn : xs.length = n) (hm : n ≤ 9223372036854775807) (w : World) (ho : r.Ok) (hA : RepAt w (r, a)) (hU : BysIn w A c xs) :
    Calls Try.prog 6 #[.agg (repC (r, a)), .slice A n c] w fun e w' => e = .returned (.bool true) ∧ Below w.heap.size w w' := by
  have r0 : row (w.alloc (.cells (repC (r, a)) 36)) w.heap.size = some (repC (r, a)) := row_at _ _ _ _ rfl
  have hB0 : Below w.heap.size w (w.alloc (.cells (repC (r, a)) 36)) := (by (repeat (first | exact Below.refl _ _ | assumption | (refine Below.allocT ?_ _) | refine Below.drew ?_ | refine below_drewN ?_ _ | (refine Below.then ?_ (by assumption)) | (refine Below.setRow ?_ ?_ _; rotate_left; (focus (first | exact Nat.lt_succ_self _ | ((repeat rw [World.size_alloc]); omega) | (simp; done) | (simp; omega) | omega))) | (refine Below.setCell ?_ ?_ _; rotate_left; (focus (first | exact Nat.lt_succ_self _ | ((repeat rw [World.size_alloc]); omega) | (simp; done) | (simp; omega) | omega))) | (refine Below.then' ?_ (by assumption) ?_; rotate_left; (focus (first | exact Nat.lt_succ_self _ | ((repeat rw [World.size_alloc]); omega) | (simp; done) | (simp; omega) | omega))) | fail)); (first | done | fail))
  have HFw := Lib.hid (fun W => few38_any r a W)
  have HU := Lib.hid hU
  have HA := Lib.hid (fun W (h : Below w.heap.size w W) => hA.stay h)
  have HO := Lib.hid ho
  have HN := Lib.hid hn
  have hz := repC_one (r, a)
  clear hU hA ho hn
  go_enter Try.func6, Try.ntmps6
  go_upto_region 1 with fail
  change Code.wp _ _ _ _ (w.alloc (.cells (repC (r, a)) 36))
  generalize w.alloc (.cells (repC (r, a)) 36) = w0 at *
  go_wp2_with fail
  refine (awake38_any w0).mono ?_
  rintro e w1 ⟨rfl, hb1⟩
  have r1 := below_row hb1 r0 (row_lt r0)
  have hB1 := Below.then hB0 hb1
  clear r0 hB0 hb1
  go_wp2_with fail
  refine (HFw.out w1).mono ?_
  rintro e w2 ⟨rfl, hb2⟩
  have r2 := below_row hb2 r1 (row_lt r1)
  have hB2 := Below.then hB1 hb2
  clear r1 hB1 hb2 HFw
  generalize fewW r = fb at *
  cases fb
  · go_wp2_with fail
    go_ret
    exact ⟨rfl, hB2⟩
  by_cases hbig : 3000 < n
  · have hbig' : (3000 : Int) < (n : Int) := by omega
    go_wp2_with fail
    go_ret
    exact ⟨rfl, hB2⟩
  have hbig' : ¬ (3000 : Int) < (n : Int) := by omega
  have HE := Lib.hid (encode38_any r a HO.out w2 (HA.out w2 hB2))
  have HDc := Lib.hid (fun W (h : BysIn W A c xs) => decode38_any A n c xs HN.out (by omega) HU.out.ok W h.bys)
  have HRd := Lib.hid (fun W (h : BysIn W A c xs) => rdecode38_any A n c xs HN.out (by omega) W h)
  have HLn := Lib.hid (decR_len ⟨xs, 0, 0⟩)
  unfold DecPost38 at HDc HRd
  unfold OutPost at HE
  generalize decR38 ⟨xs, 0, 0⟩ = rq at *
  generalize decE38 ⟨xs, 0, 0⟩ = re at *
  have HRt := Lib.hid (fun W (h : RepAt W (r, a)) => rright38_any r a HO.out W h)
  have HTail : Hid (∀ W, Below w.heap.size w W → True) := Lib.hid fun _ _ => trivial
  cases hrt : rightA r
  · rw [hrt] at HRt
    have hs : encS r = ⟨[], 2⟩ := by simp [encS, hrt]
    have hs2 : outL (encS r) = [] := by rw [hs]; rfl
    rw [hs2, hs] at HE
    clear hs hs2 hrt hbig
    go_wp2_with fail
    refine (HE.out).mono ?_
    rintro e w3 ⟨A3, c3, rfl, hO3, hA3, hb3⟩
    have r3 := below_row hb3 r2 (row_lt r2)
    have B3 := Lib.hid (Below.then hB2 hb3)
    clear hO3 hA3 hb3 r2 hB2 HE
    go_upto_region 7 with fail
    refine of_world (fun W => Below w3.heap.size w3 W ∧ row W w3.heap.size = some (repC (r, a))) ⟨(by (repeat (first | exact Below.refl _ _ | assumption | (refine Below.allocT ?_ _) | refine Below.drew ?_ | refine below_drewN ?_ _ | (refine Below.then ?_ (by assumption)) | (refine Below.setRow ?_ ?_ _; rotate_left; (focus (first | exact Nat.lt_succ_self _ | ((repeat rw [World.size_alloc]); omega) | (simp; done) | (simp; omega) | omega))) | (refine Below.setCell ?_ ?_ _; rotate_left; (focus (first | exact Nat.lt_succ_self _ | ((repeat rw [World.size_alloc]); omega) | (simp; done) | (simp; omega) | omega))) | (refine Below.then' ?_ (by assumption) ?_; rotate_left; (focus (first | exact Nat.lt_succ_self _ | ((repeat rw [World.size_alloc]); omega) | (simp; done) | (simp; omega) | omega))) | fail)); (first | done | fail)), by first | exact row_at _ _ _ _ rfl | (rw [row_setRow_if, if_pos rfl, row_at _ _ _ _ rfl]; rfl)⟩ ?_
    rintro w4 ⟨hb4, x4⟩
    have B4 := Lib.hid (Below.then B3.out hb4)
    have RA4 := Lib.hid (HA.out w4 B4.out)
    clear r3 B3 hb4
    generalize w3.heap.size = gx at *
    go_wp2_with fail
    refine (HRt.out w4 RA4.out).mono ?_
    rintro e w5 ⟨rfl, hb5⟩
    have B5 := Lib.hid (Below.then B4.out hb5)
    clear x4 hb5 RA4 B4
    go_wp2_with fail
    refine (HDc.out w5 (HU.out.below B5.out (Nat.le_refl _))).mono ?_
    rintro e w6 ⟨a6, rfl, hR6, hb6⟩
    have hz6 := repC_one (rq, a6)
    have B6 := Lib.hid (Below.then B5.out hb6)
    have RA6 := Lib.hid hR6
    clear hR6 hb6 B5
    go_upto_region 13 with fail
    refine of_world (fun W => Below w6.heap.size w6 W ∧ row W w6.heap.size = some (repC (rq, a6))) ⟨(by (repeat (first | exact Below.refl _ _ | assumption | (refine Below.allocT ?_ _) | refine Below.drew ?_ | refine below_drewN ?_ _ | (refine Below.then ?_ (by assumption)) | (refine Below.setRow ?_ ?_ _; rotate_left; (focus (first | exact Nat.lt_succ_self _ | ((repeat rw [World.size_alloc]); omega) | (simp; done) | (simp; omega) | omega))) | (refine Below.setCell ?_ ?_ _; rotate_left; (focus (first | exact Nat.lt_succ_self _ | ((repeat rw [World.size_alloc]); omega) | (simp; done) | (simp; omega) | omega))) | (refine Below.then' ?_ (by assumption) ?_; rotate_left; (focus (first | exact Nat.lt_succ_self _ | ((repeat rw [World.size_alloc]); omega) | (simp; done) | (simp; omega) | omega))) | fail)); (first | done | fail)), by first | exact row_at _ _ _ _ rfl | (rw [row_setRow_if, if_pos rfl, row_at _ _ _ _ rfl]; rfl)⟩ ?_
    rintro w7 ⟨hb7, x7⟩
    have B7 := Lib.hid (Below.then B6.out hb7)
    have RA7 := Lib.hid (RA6.out.stay hb7)
    clear hb7 RA6 B6
    generalize w6.heap.size = g6 at *
    go_wp2_with fail
    refine (HRd.out w7 (HU.out.below B7.out (Nat.le_refl _))).mono ?_
    rintro e w8 ⟨a8, rfl, hR8, hb8⟩
    have hz8 := repC_one (rq, a8)
    have x8 := below_row hb8 x7 (row_lt x7)
    have B8 := Lib.hid (Below.then B7.out hb8)
    have RA8 := Lib.hid (RA7.out.stay hb8)
    have RB8 := Lib.hid hR8
    clear hR8 hb8 x7 B7 RA7
    go_upto_region 14 with fail
    refine of_world (fun W => Below w8.heap.size w8 W ∧ row W w8.heap.size = some (repC (rq, a8))) ⟨(by (repeat (first | exact Below.refl _ _ | assumption | (refine Below.allocT ?_ _) | refine Below.drew ?_ | refine below_drewN ?_ _ | (refine Below.then ?_ (by assumption)) | (refine Below.setRow ?_ ?_ _; rotate_left; (focus (first | exact Nat.lt_succ_self _ | ((repeat rw [World.size_alloc]); omega) | (simp; done) | (simp; omega) | omega))) | (refine Below.setCell ?_ ?_ _; rotate_left; (focus (first | exact Nat.lt_succ_self _ | ((repeat rw [World.size_alloc]); omega) | (simp; done) | (simp; omega) | omega))) | (refine Below.then' ?_ (by assumption) ?_; rotate_left; (focus (first | exact Nat.lt_succ_self _ | ((repeat rw [World.size_alloc]); omega) | (simp; done) | (simp; omega) | omega))) | fail)); (first | done | fail)), by first | exact row_at _ _ _ _ rfl | (rw [row_setRow_if, if_pos rfl, row_at _ _ _ _ rfl]; rfl)⟩ ?_
    rintro w9 ⟨hb9, y9⟩
    have x9 := below_row hb9 x8 (row_lt x8)
    have B9 := Lib.hid (Below.then B8.out hb9)
    have HSm := Lib.hid (sameRep_any rq rq a6 a8 w9 (RA8.out.stay hb9) (RB8.out.stay hb9) HLn.out)
    rw [show decide (rq = rq) = true from decide_eq_true rfl] at HSm
    clear hb9 x8 B8 RA8 RB8
    generalize w8.heap.size = g8 at *
    go_wp2_with fail
    refine (HSm.out).mono ?_
    rintro e w10 ⟨rfl, hb10⟩
    have B10 := Lib.hid (Below.then B9.out hb10)
    clear hb10 x9 y9 HSm
    go_wp2_with fail
    go_ret
    exact ⟨rfl, B10.out⟩
  · rw [hrt] at HRt
    have hsm := right_small7 hrt
    have hs : encS r = ⟨formR r, 0⟩ := by simp [encS, hrt]
    have hs2 : outL (encS r) = formR r := by rw [hs]; rfl
    rw [hs2, hs] at HE
    have HFm := Lib.hid (fun W (h : RepAt W (r, a)) => rform38_any r a hrt W h)
    have hfl := formR_len hsm
    clear hs hs2 hrt hbig hsm
    generalize formR r = fp at *
    go_wp2_with fail
    refine (HE.out).mono ?_
    rintro e w3 ⟨A3, c3, rfl, hO3, hA3, hb3⟩
    have r3 := below_row hb3 r2 (row_lt r2)
    have B3 := Lib.hid (Below.then hB2 hb3)
    have Y3 := Lib.hid hO3.bysA
    clear hO3 hA3 hb3 r2 hB2 HE
    go_upto_region 7 with fail
    refine of_world (fun W => Below w3.heap.size w3 W ∧ row W w3.heap.size = some (repC (r, a))) ⟨(by (repeat (first | exact Below.refl _ _ | assumption | (refine Below.allocT ?_ _) | refine Below.drew ?_ | refine below_drewN ?_ _ | (refine Below.then ?_ (by assumption)) | (refine Below.setRow ?_ ?_ _; rotate_left; (focus (first | exact Nat.lt_succ_self _ | ((repeat rw [World.size_alloc]); omega) | (simp; done) | (simp; omega) | omega))) | (refine Below.setCell ?_ ?_ _; rotate_left; (focus (first | exact Nat.lt_succ_self _ | ((repeat rw [World.size_alloc]); omega) | (simp; done) | (simp; omega) | omega))) | (refine Below.then' ?_ (by assumption) ?_; rotate_left; (focus (first | exact Nat.lt_succ_self _ | ((repeat rw [World.size_alloc]); omega) | (simp; done) | (simp; omega) | omega))) | fail)); (first | done | fail)), by first | exact row_at _ _ _ _ rfl | (rw [row_setRow_if, if_pos rfl, row_at _ _ _ _ rfl]; rfl)⟩ ?_
    rintro w4 ⟨hb4, x4⟩
    have B4 := Lib.hid (Below.then B3.out hb4)
    have RA4 := Lib.hid (HA.out w4 B4.out)
    have Y4 := Lib.hid (Y3.out.stay hb4)
    clear r3 B3 hb4 Y3
    generalize w3.heap.size = gx at *
    go_wp2_with fail
    refine (HRt.out w4 RA4.out).mono ?_
    rintro e w5 ⟨rfl, hb5⟩
    have x5 := below_row hb5 x4 (row_lt x4)
    have B5 := Lib.hid (Below.then B4.out hb5)
    have RA5 := Lib.hid (HA.out w5 B5.out)
    have Y5 := Lib.hid (Y4.out.stay hb5)
    clear x4 hb5 RA4 B4 Y4
    go_wp2_with fail
    refine (HFm.out w5 RA5.out).mono ?_
    intro e w6 hR
    obtain ⟨A6, c6, rfl, hB, hO, hA, hb6⟩ := hR.bys
    have B6 := Lib.hid (Below.then B5.out hb6)
    have Y6 := Lib.hid (Y5.out.stay hb6)
    have Z6 := Lib.hid hB
    clear hR hB hO hA hb6 x5 B5 RA5 Y5
    have hself : sameL fp fp = true := by simp [sameL]
    have HS5 := Lib.hid (same5_any A3 A6 fp fp fp.length c3 fp.length c6 rfl rfl (by omega) (by omega) w6 Y6.out Z6.out)
    rw [hself] at HS5
    clear hself Y6 Z6
    go_wp2_with fail
    refine (HS5.out).mono ?_
    rintro e wk ⟨rfl, hb7⟩
    have B5 := Lib.hid (Below.then B6.out hb7)
    clear hb7 B6 HS5
    obtain ⟨w5, rfl⟩ : ∃ x, x = wk := ⟨_, rfl⟩
    go_wp2_with fail
    refine (HDc.out w5 (HU.out.below B5.out (Nat.le_refl _))).mono ?_
    rintro e w6 ⟨a6, rfl, hR6, hb6⟩
    have hz6 := repC_one (rq, a6)
    have B6 := Lib.hid (Below.then B5.out hb6)
    have RA6 := Lib.hid hR6
    clear hR6 hb6 B5
    go_upto_region 13 with fail
    refine of_world (fun W => Below w6.heap.size w6 W ∧ row W w6.heap.size = some (repC (rq, a6))) ⟨(by (repeat (first | exact Below.refl _ _ | assumption | (refine Below.allocT ?_ _) | refine Below.drew ?_ | refine below_drewN ?_ _ | (refine Below.then ?_ (by assumption)) | (refine Below.setRow ?_ ?_ _; rotate_left; (focus (first | exact Nat.lt_succ_self _ | ((repeat rw [World.size_alloc]); omega) | (simp; done) | (simp; omega) | omega))) | (refine Below.setCell ?_ ?_ _; rotate_left; (focus (first | exact Nat.lt_succ_self _ | ((repeat rw [World.size_alloc]); omega) | (simp; done) | (simp; omega) | omega))) | (refine Below.then' ?_ (by assumption) ?_; rotate_left; (focus (first | exact Nat.lt_succ_self _ | ((repeat rw [World.size_alloc]); omega) | (simp; done) | (simp; omega) | omega))) | fail)); (first | done | fail)), by first | exact row_at _ _ _ _ rfl | (rw [row_setRow_if, if_pos rfl, row_at _ _ _ _ rfl]; rfl)⟩ ?_
    rintro w7 ⟨hb7, x7⟩
    have B7 := Lib.hid (Below.then B6.out hb7)
    have RA7 := Lib.hid (RA6.out.stay hb7)
    clear hb7 RA6 B6
    generalize w6.heap.size = g6 at *
    go_wp2_with fail
    refine (HRd.out w7 (HU.out.below B7.out (Nat.le_refl _))).mono ?_
    rintro e w8 ⟨a8, rfl, hR8, hb8⟩
    have hz8 := repC_one (rq, a8)
    have x8 := below_row hb8 x7 (row_lt x7)
    have B8 := Lib.hid (Below.then B7.out hb8)
    have RA8 := Lib.hid (RA7.out.stay hb8)
    have RB8 := Lib.hid hR8
    clear hR8 hb8 x7 B7 RA7
    go_upto_region 14 with fail
    refine of_world (fun W => Below w8.heap.size w8 W ∧ row W w8.heap.size = some (repC (rq, a8))) ⟨(by (repeat (first | exact Below.refl _ _ | assumption | (refine Below.allocT ?_ _) | refine Below.drew ?_ | refine below_drewN ?_ _ | (refine Below.then ?_ (by assumption)) | (refine Below.setRow ?_ ?_ _; rotate_left; (focus (first | exact Nat.lt_succ_self _ | ((repeat rw [World.size_alloc]); omega) | (simp; done) | (simp; omega) | omega))) | (refine Below.setCell ?_ ?_ _; rotate_left; (focus (first | exact Nat.lt_succ_self _ | ((repeat rw [World.size_alloc]); omega) | (simp; done) | (simp; omega) | omega))) | (refine Below.then' ?_ (by assumption) ?_; rotate_left; (focus (first | exact Nat.lt_succ_self _ | ((repeat rw [World.size_alloc]); omega) | (simp; done) | (simp; omega) | omega))) | fail)); (first | done | fail)), by first | exact row_at _ _ _ _ rfl | (rw [row_setRow_if, if_pos rfl, row_at _ _ _ _ rfl]; rfl)⟩ ?_
    rintro w9 ⟨hb9, y9⟩
    have x9 := below_row hb9 x8 (row_lt x8)
    have B9 := Lib.hid (Below.then B8.out hb9)
    have HSm := Lib.hid (sameRep_any rq rq a6 a8 w9 (RA8.out.stay hb9) (RB8.out.stay hb9) HLn.out)
    rw [show decide (rq = rq) = true from decide_eq_true rfl] at HSm
    clear hb9 x8 B8 RA8 RB8
    generalize w8.heap.size = g8 at *
    go_wp2_with fail
    refine (HSm.out).mono ?_
    rintro e w10 ⟨rfl, hb10⟩
    have B10 := Lib.hid (Below.then B9.out hb10)
    clear hb10 x9 y9 HSm
    go_wp2_with fail
    go_ret
    exact ⟨rfl, B10.out⟩
end Go.Proofs.Ytnakkjgnjffkpaa

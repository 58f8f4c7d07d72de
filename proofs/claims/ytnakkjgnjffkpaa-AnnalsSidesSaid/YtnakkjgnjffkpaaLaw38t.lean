/-
  Layer 38: sums of two stretches side by side are those of both together: the walk.
-/
import Derived.Test.YtnakkjgnjffkpaaLaw38s
namespace Go.Proofs.Ytnakkjgnjffkpaa
open Go.RowKit
set_option linter.unusedVariables false
set_option linter.unusedSimpArgs false

set_option maxRecDepth 100000 in
set_option maxHeartbeats 8000000 in
theorem annalsSides_any (A0 : Option Addr) (n0 c0 : Nat) (xs : List (Rep × RepA)) (p q m : Int) (w : World) (hn : xs.length = n0) (hm0 : n0 ≤ 9223372036854775807) (hp : i64ok p) (hq : i64ok q) (hm : i64ok m) (hIn : ∀ x ∈ xs, x.1.Ok ∧ RepAt w x) (hU : SliceOf 14 repC w A0 xs) :
    Calls Try.prog 5 #[.slice A0 n0 c0, .agg (spnC' (p, q)), .int .i64 m] w fun e w' => e = .returned (.bool true) ∧ Below w.heap.size w w' := by
  have q0 : row (w.alloc (.cells (spnC' (p, q)) 43)) w.heap.size = some (spnC' (p, q)) := (by (repeat (first | assumption | (refine row_at _ _ _ _ ?_; first | rfl | (simp only [World.size_alloc]; done) | (simp only [World.size_alloc]; omega)) | (refine (row_past _ _ _ ?_).trans ?_; (focus (first | exact Nat.lt_succ_self _ | ((repeat rw [World.size_alloc]); omega) | (simp; done) | (simp; omega) | omega))) | rw [row_drewN] | rw [row_drew])); (first | done | fail))
  have hB0 : Below w.heap.size w (w.alloc (.cells (spnC' (p, q)) 43)) := (by (repeat (first | exact Below.refl _ _ | assumption | (refine Below.allocT ?_ _) | refine Below.drew ?_ | refine below_drewN ?_ _ | (refine Below.then ?_ (by assumption)) | (refine Below.setRow ?_ ?_ _; rotate_left; (focus (first | exact Nat.lt_succ_self _ | ((repeat rw [World.size_alloc]); omega) | (simp; done) | (simp; omega) | omega))) | (refine Below.setCell ?_ ?_ _; rotate_left; (focus (first | exact Nat.lt_succ_self _ | ((repeat rw [World.size_alloc]); omega) | (simp; done) | (simp; omega) | omega))) | (refine Below.then' ?_ (by assumption) ?_; rotate_left; (focus (first | exact Nat.lt_succ_self _ | ((repeat rw [World.size_alloc]); omega) | (simp; done) | (simp; omega) | omega))) | fail)); (first | done | fail))
  have HIn := Lib.hid hIn
  have HU := Lib.hid hU
  have HN := Lib.hid hn
  clear hIn hU hn
  by_cases hbig : 80 < n0
  · have y1 : (80 : Int) < (n0 : Int) := by omega
    go_enter Try.func5, Try.ntmps5
    go_upto_region 1 with fail
    change Code.wp _ _ _ _ (w.alloc (.cells (spnC' (p, q)) 43))
    generalize w.alloc (.cells (spnC' (p, q)) 43) = w0 at *
    go_wp2_with fail
    refine (awake38_any w0).mono ?_
    rintro e w1 ⟨rfl, hb1⟩
    go_wp2_with fail
    go_ret
    exact ⟨rfl, Below.then hB0 hb1⟩
  have y1 : ¬ (80 : Int) < (n0 : Int) := by omega
  go_enter Try.func5, Try.ntmps5
  simp only [lapp_cons, lapp_nil]
  go_upto_region 1 with fail
  change Code.wp _ _ _ _ (w.alloc (.cells (spnC' (p, q)) 43))
  generalize w.alloc (.cells (spnC' (p, q)) 43) = w0 at *
  go_wp2_with fail
  refine (awake38_any w0).mono ?_
  rintro e w1 ⟨rfl, hb1⟩
  have q1 := below_row hb1 q0 (row_lt q0)
  have hB1 := Below.then hB0 hb1
  clear q0 hB0 hb1
  go_wp2_with fail
  refine (new38_any 64 w1).mono ?_
  intro e w2 h2
  unfold NewPost38 at h2
  rw [if_pos (by omega)] at h2
  obtain ⟨rfl, hb2, r2⟩ := h2
  have hB2 := Below.then hB1 hb2
  have A2 := Lib.hid (AnB.new (E := fun _ => False) (B := w1.heap.size) (show row w2 w1.heap.size = some (anC Sm.zero 64 (.slice none 0 0)) from r2) (by decide) (by decide) (Nat.le_refl _))
  have HQ := Lib.hid (And.intro (below_row hb2 q1 (row_lt q1)) hB2)
  have HQl : Hid (w.heap.size < w1.heap.size ∧ w1.heap.size ≤ w2.heap.size) := Lib.hid ⟨row_lt q1, hb2.size⟩
  clear q1 hB1 hb2 r2 hB2
  generalize w1.heap.size = g at *
  go_wp2_with fail
  go_loopw [30] (fun i wr => ∃ (j : Nat) (s : Sm) (L : List Rep), i = .int .i64 j ∧ j ≤ n0 ∧ Hid (AnB (fun _ => False) g wr g 64 s L (600 * j)) ∧ Hid (Below g w2 wr) ∧ Hid (AllRight L)) (fun i _ => n0 - (intOf i).toNat)
  case atStart => exact ⟨0, Sm.zero, [], rfl, by omega, Lib.hid A2.out, Lib.hid (Below.refl _ _), Lib.hid AllRight.nil⟩
  case round =>
    obtain ⟨j, s, L, rfl, hj, hA, hBw, hR⟩ := hrel
    have hBW : Hid (Below w.heap.size w wr) := Lib.hid (HQ.out.2.trans (hBw.out.mono (Nat.le_of_lt HQl.out.1)))
    have hgw : Hid (g ≤ wr.heap.size) := Lib.hid (Nat.le_trans HQl.out.2 hBw.out.size)
    by_cases hlt : j < n0
    · obtain ⟨b, off, rfl, hbb, hcell⟩ := HU.out (by rw [HN.out]; omega)
      obtain ⟨⟨r, a⟩, hxj⟩ : ∃ x, xs[j]? = some x := ⟨_, List.getElem?_eq_getElem (by rw [HN.out]; exact hlt)⟩
      have hr := range_below (hcell j _ hxj) hBW.out hbb
      have HX := Lib.hid (HIn.out _ (List.mem_of_getElem? hxj))
      have hi : (Try.prog.info? 36).map (·.size) = some (repC (r, a)).toList.length := by rw [rep_info]; rfl
      have z1 : (0 : Int) ≤ (j : Int) := by omega
      have z2 : (j : Int) < (n0 : Int) := by omega
      have hz1 := repC_one (r, a)
      clear hcell hxj
      go_upto_region 11 with (refine wpList_load_mid rfl 36 _ (by rfl) b (off + j * 14) (by rfl) (repC (r, a)).toList _ hr rep_under rfl hi ?_)
      refine of_world (fun W => Below wr.heap.size wr W ∧ row W wr.heap.size = some (repC (r, a))) ⟨(by (repeat (first | exact Below.refl _ _ | assumption | (refine Below.allocT ?_ _) | refine Below.drew ?_ | refine below_drewN ?_ _ | (refine Below.then ?_ (by assumption)) | (refine Below.setRow ?_ ?_ _; rotate_left; (focus (first | exact Nat.lt_succ_self _ | ((repeat rw [World.size_alloc]); omega) | (simp; done) | (simp; omega) | omega))) | (refine Below.setCell ?_ ?_ _; rotate_left; (focus (first | exact Nat.lt_succ_self _ | ((repeat rw [World.size_alloc]); omega) | (simp; done) | (simp; omega) | omega))) | (refine Below.then' ?_ (by assumption) ?_; rotate_left; (focus (first | exact Nat.lt_succ_self _ | ((repeat rw [World.size_alloc]); omega) | (simp; done) | (simp; omega) | omega))) | fail)); (first | done | fail)), by first | exact row_at _ _ _ _ rfl | (rw [row_setRow_if, if_pos rfl, row_at _ _ _ _ rfl]; rfl)⟩ ?_
      rintro w4 ⟨hb4, r4⟩
      have A4 := Lib.hid (hA.out.stay hb4)
      have B4 := Lib.hid (hBw.out.trans (hb4.mono hgw.out))
      have G4 : Hid (g ≤ w4.heap.size) := Lib.hid (Nat.le_trans hgw.out hb4.size)
      have W4 := Lib.hid (Below.then hBW.out hb4)
      clear hr hi hb4 hA hBw hBW hgw
      generalize wr.heap.size = g4 at *
      generalize hfb : fewW r = fb at *
      go_wp2_with fail
      refine (few38_any r a w4).mono ?_
      rintro e w5 ⟨rfl, hb5⟩
      rw [hfb]
      have r5 := below_row hb5 r4 (row_lt r4)
      have A5 := Lib.hid (A4.out.stay hb5)
      have B5 := Lib.hid (B4.out.trans (hb5.mono G4.out))
      have G5 : Hid (g ≤ w5.heap.size) := Lib.hid (Nat.le_trans G4.out hb5.size)
      have W5 := Lib.hid (Below.then W4.out hb5)
      clear r4 hb5 A4 B4 G4 W4 hfb
      cases fb
      · go_wp2_with fail
        go_ret
        exact ⟨rfl, W5.out⟩
      · go_wp2_with fail
        refine (A5.out.add G5.out (fun k h => h.elim) HX.out.1 (HX.out.2.below W5.out (Nat.le_refl _)) (fun k hk => Nat.lt_trans (hk.lt HX.out.2) HQl.out.1) (by omega)).mono ?_
        rintro e w6 ⟨rfl, hA6, hb6⟩
        have A6 := Lib.hid hA6
        have B6 := Lib.hid (B5.out.trans hb6)
        have R6 := Lib.hid (hR.out.add (s := s) (r := r) (most := 64))
        clear hA6 hb6 r5
        generalize addL (addE s L r) 64 L r = L6 at *
        generalize addS' (addE s L r) s r = s6 at *
        generalize addE s L r = e6 at *
        go_wp2_with fail
        exact ⟨⟨j + 1, s6, L6, by go_num, by omega, (by rw [show 600 * (j + 1) = 600 * j + 600 by omega]; exact A6), B6, R6⟩, by simp [intOf]; omega⟩
    · obtain rfl : j = n0 := by omega
      have HA1 := Lib.hid hA.out
      have HB1 := Lib.hid hBw.out
      have HG1 := Lib.hid hgw.out
      have HPl : Hid ((sumR L p m).2 = 0 → (sumR L m q).2 = 0 → (sumR L p q).2 = 0 → addS (sumR L p m).1 (sumR L m q).1 = (sumR L p q).1 ∧ (sumR L p q).1.paid + (sumR L p q).1.kept = (sumR L p q).1.minted ∧ fitsS (sumR L p q).1 ∧ (sumR L p q).1.Few 38400) := Lib.hid fun h1 h2 h3 => by
        obtain ⟨a1, a2, a3, a4⟩ := sides_plain hA.out.seq hR.out h1 h2 h3
        exact ⟨a1, a2, a3, a4.mono (by have := hA.out.len; omega)⟩
      clear hA hBw hgw hR hBW
      have qr1 := row_cell (below_row HB1.out HQ.out.1 HQl.out.1)
      have qp1 : wr.cell? ⟨w.heap.size, 0, none⟩ = some (.int .i64 p) := qr1 0
      have qq1 : wr.cell? ⟨w.heap.size, 1, none⟩ = some (.int .i64 q) := qr1 1
      clear qr1
      go_wp2_with fail
      refine (HA1.out.sum p m hp hm).mono ?_
      rintro e v1 ⟨rfl, hv1⟩
      have HC1 := Lib.hid (HA1.out.stay hv1)
      have HD1 := Lib.hid (HB1.out.trans (hv1.mono HG1.out))
      have HH1 : Hid (g ≤ v1.heap.size) := Lib.hid (Nat.le_trans HG1.out hv1.size)
      clear hv1 qp1 qq1 HA1 HB1 HG1
      generalize (sumR L p m).1 = s1 at *
      generalize (sumR L p m).2 = e1 at *
      go_upto_region 16 with fail
      refine of_world (fun W => Below v1.heap.size v1 W ∧ row W v1.heap.size = some (smC s1)) ⟨(by (repeat (first | exact Below.refl _ _ | assumption | (refine Below.allocT ?_ _) | refine Below.drew ?_ | refine below_drewN ?_ _ | (refine Below.then ?_ (by assumption)) | (refine Below.setRow ?_ ?_ _; rotate_left; (focus (first | exact Nat.lt_succ_self _ | ((repeat rw [World.size_alloc]); omega) | (simp; done) | (simp; omega) | omega))) | (refine Below.setCell ?_ ?_ _; rotate_left; (focus (first | exact Nat.lt_succ_self _ | ((repeat rw [World.size_alloc]); omega) | (simp; done) | (simp; omega) | omega))) | (refine Below.then' ?_ (by assumption) ?_; rotate_left; (focus (first | exact Nat.lt_succ_self _ | ((repeat rw [World.size_alloc]); omega) | (simp; done) | (simp; omega) | omega))) | fail)); (first | done | fail)), by first | exact row_at _ _ _ _ rfl | (rw [row_setRow_if, if_pos rfl, row_at _ _ _ _ rfl]; rfl)⟩ ?_
      rintro x1 ⟨hx1, R1⟩
      have HA2 := Lib.hid (HC1.out.stay hx1)
      have HB2 := Lib.hid (HD1.out.trans (hx1.mono HH1.out))
      have HG2 : Hid (g ≤ x1.heap.size) := Lib.hid (Nat.le_trans HH1.out hx1.size)
      clear hx1 HC1 HD1 HH1
      generalize v1.heap.size = f1 at *
      have qr2 := row_cell (below_row HB2.out HQ.out.1 HQl.out.1)
      have qp2 : x1.cell? ⟨w.heap.size, 0, none⟩ = some (.int .i64 p) := qr2 0
      have qq2 : x1.cell? ⟨w.heap.size, 1, none⟩ = some (.int .i64 q) := qr2 1
      clear qr2
      go_wp2_with fail
      refine (HA2.out.sum m q hm hq).mono ?_
      rintro e v2 ⟨rfl, hv2⟩
      have HC2 := Lib.hid (HA2.out.stay hv2)
      have HD2 := Lib.hid (HB2.out.trans (hv2.mono HG2.out))
      have HH2 : Hid (g ≤ v2.heap.size) := Lib.hid (Nat.le_trans HG2.out hv2.size)
      have rr1 := below_row hv2 R1 (row_lt R1)
      clear hv2 qp2 qq2 HA2 HB2 HG2 R1
      generalize (sumR L m q).1 = s2 at *
      generalize (sumR L m q).2 = e2 at *
      go_upto_region 17 with fail
      refine of_world (fun W => Below v2.heap.size v2 W ∧ row W f1 = some (smC s1) ∧ row W v2.heap.size = some (smC s2)) ⟨(by (repeat (first | exact Below.refl _ _ | assumption | (refine Below.allocT ?_ _) | refine Below.drew ?_ | refine below_drewN ?_ _ | (refine Below.then ?_ (by assumption)) | (refine Below.setRow ?_ ?_ _; rotate_left; (focus (first | exact Nat.lt_succ_self _ | ((repeat rw [World.size_alloc]); omega) | (simp; done) | (simp; omega) | omega))) | (refine Below.setCell ?_ ?_ _; rotate_left; (focus (first | exact Nat.lt_succ_self _ | ((repeat rw [World.size_alloc]); omega) | (simp; done) | (simp; omega) | omega))) | (refine Below.then' ?_ (by assumption) ?_; rotate_left; (focus (first | exact Nat.lt_succ_self _ | ((repeat rw [World.size_alloc]); omega) | (simp; done) | (simp; omega) | omega))) | fail)); (first | done | fail)), below_row (show Below v2.heap.size v2 _ from (by (repeat (first | exact Below.refl _ _ | assumption | (refine Below.allocT ?_ _) | refine Below.drew ?_ | refine below_drewN ?_ _ | (refine Below.then ?_ (by assumption)) | (refine Below.setRow ?_ ?_ _; rotate_left; (focus (first | exact Nat.lt_succ_self _ | ((repeat rw [World.size_alloc]); omega) | (simp; done) | (simp; omega) | omega))) | (refine Below.setCell ?_ ?_ _; rotate_left; (focus (first | exact Nat.lt_succ_self _ | ((repeat rw [World.size_alloc]); omega) | (simp; done) | (simp; omega) | omega))) | (refine Below.then' ?_ (by assumption) ?_; rotate_left; (focus (first | exact Nat.lt_succ_self _ | ((repeat rw [World.size_alloc]); omega) | (simp; done) | (simp; omega) | omega))) | fail)); (first | done | fail))) rr1 (row_lt rr1), by first | exact row_at _ _ _ _ rfl | (rw [row_setRow_if, if_pos rfl, row_at _ _ _ _ rfl]; rfl)⟩ ?_
      rintro x2 ⟨hx2, R1, R2⟩
      have HA3 := Lib.hid (HC2.out.stay hx2)
      have HB3 := Lib.hid (HD2.out.trans (hx2.mono HH2.out))
      have HG3 : Hid (g ≤ x2.heap.size) := Lib.hid (Nat.le_trans HH2.out hx2.size)
      clear hx2 HC2 HD2 HH2 rr1
      generalize v2.heap.size = f2 at *
      have qr3 := row_cell (below_row HB3.out HQ.out.1 HQl.out.1)
      have qp3 : x2.cell? ⟨w.heap.size, 0, none⟩ = some (.int .i64 p) := qr3 0
      have qq3 : x2.cell? ⟨w.heap.size, 1, none⟩ = some (.int .i64 q) := qr3 1
      clear qr3
      go_wp2_with fail
      refine (HA3.out.sum p q hp hq).mono ?_
      rintro e v3 ⟨rfl, hv3⟩
      have HC3 := Lib.hid (HA3.out.stay hv3)
      have HD3 := Lib.hid (HB3.out.trans (hv3.mono HG3.out))
      have HH3 : Hid (g ≤ v3.heap.size) := Lib.hid (Nat.le_trans HG3.out hv3.size)
      have rr1 := below_row hv3 R1 (row_lt R1)
      have rr2 := below_row hv3 R2 (row_lt R2)
      clear hv3 qp3 qq3 HA3 HB3 HG3 R1 R2
      generalize (sumR L p q).1 = s3 at *
      generalize (sumR L p q).2 = e3 at *
      go_upto_region 18 with fail
      refine of_world (fun W => Below v3.heap.size v3 W ∧ row W f1 = some (smC s1) ∧ row W f2 = some (smC s2) ∧ row W v3.heap.size = some (smC s3)) ⟨(by (repeat (first | exact Below.refl _ _ | assumption | (refine Below.allocT ?_ _) | refine Below.drew ?_ | refine below_drewN ?_ _ | (refine Below.then ?_ (by assumption)) | (refine Below.setRow ?_ ?_ _; rotate_left; (focus (first | exact Nat.lt_succ_self _ | ((repeat rw [World.size_alloc]); omega) | (simp; done) | (simp; omega) | omega))) | (refine Below.setCell ?_ ?_ _; rotate_left; (focus (first | exact Nat.lt_succ_self _ | ((repeat rw [World.size_alloc]); omega) | (simp; done) | (simp; omega) | omega))) | (refine Below.then' ?_ (by assumption) ?_; rotate_left; (focus (first | exact Nat.lt_succ_self _ | ((repeat rw [World.size_alloc]); omega) | (simp; done) | (simp; omega) | omega))) | fail)); (first | done | fail)), below_row (show Below v3.heap.size v3 _ from (by (repeat (first | exact Below.refl _ _ | assumption | (refine Below.allocT ?_ _) | refine Below.drew ?_ | refine below_drewN ?_ _ | (refine Below.then ?_ (by assumption)) | (refine Below.setRow ?_ ?_ _; rotate_left; (focus (first | exact Nat.lt_succ_self _ | ((repeat rw [World.size_alloc]); omega) | (simp; done) | (simp; omega) | omega))) | (refine Below.setCell ?_ ?_ _; rotate_left; (focus (first | exact Nat.lt_succ_self _ | ((repeat rw [World.size_alloc]); omega) | (simp; done) | (simp; omega) | omega))) | (refine Below.then' ?_ (by assumption) ?_; rotate_left; (focus (first | exact Nat.lt_succ_self _ | ((repeat rw [World.size_alloc]); omega) | (simp; done) | (simp; omega) | omega))) | fail)); (first | done | fail))) rr1 (row_lt rr1), below_row (show Below v3.heap.size v3 _ from (by (repeat (first | exact Below.refl _ _ | assumption | (refine Below.allocT ?_ _) | refine Below.drew ?_ | refine below_drewN ?_ _ | (refine Below.then ?_ (by assumption)) | (refine Below.setRow ?_ ?_ _; rotate_left; (focus (first | exact Nat.lt_succ_self _ | ((repeat rw [World.size_alloc]); omega) | (simp; done) | (simp; omega) | omega))) | (refine Below.setCell ?_ ?_ _; rotate_left; (focus (first | exact Nat.lt_succ_self _ | ((repeat rw [World.size_alloc]); omega) | (simp; done) | (simp; omega) | omega))) | (refine Below.then' ?_ (by assumption) ?_; rotate_left; (focus (first | exact Nat.lt_succ_self _ | ((repeat rw [World.size_alloc]); omega) | (simp; done) | (simp; omega) | omega))) | fail)); (first | done | fail))) rr2 (row_lt rr2), by first | exact row_at _ _ _ _ rfl | (rw [row_setRow_if, if_pos rfl, row_at _ _ _ _ rfl]; rfl)⟩ ?_
      rintro x3 ⟨hx3, R1, R2, R3⟩
      have HA4 := Lib.hid (HC3.out.stay hx3)
      have HB4 := Lib.hid (HD3.out.trans (hx3.mono HH3.out))
      have HG4 : Hid (g ≤ x3.heap.size) := Lib.hid (Nat.le_trans HH3.out hx3.size)
      clear hx3 HC3 HD3 HH3 rr1 rr2
      generalize v3.heap.size = f3 at *
      have HW : Hid (Below w.heap.size w x3) := Lib.hid (HQ.out.2.trans (HB4.out.mono (Nat.le_of_lt HQl.out.1)))
      clear HA4 HB4 HG4
      by_cases he : e1 = 0 ∧ e2 = 0 ∧ e3 = 0
      · obtain ⟨rfl, rfl, rfl⟩ := he
        obtain ⟨a1, a2, a3, a4⟩ := HPl.out rfl rfl rfl
        subst a1
        have F1 := a3 0 (by omega)
        have F2 := a3 3 (by omega)
        have F3 := a3 4 (by omega)
        have E1 : s1.minted + s2.minted ≤ 18446744073709551615 := F1
        have E2 : s1.burned + s2.burned ≤ 18446744073709551615 := F2
        have E3 : s1.fees + s2.fees ≤ 18446744073709551615 := F3
        have E4 : (s1.paid + s2.paid) + (s1.kept + s2.kept) = s1.minted + s2.minted := a2
        have c10 : x3.cell? ⟨f1, 0, none⟩ = some (.int .i64 (s1.ticks : Int)) := row_cell R1 0
        have c20 : x3.cell? ⟨f2, 0, none⟩ = some (.int .i64 (s2.ticks : Int)) := row_cell R2 0
        have c30 : x3.cell? ⟨f3, 0, none⟩ = some (.int .i64 ((s1.ticks : Int) + (s2.ticks : Int))) := by rw [← Int.natCast_add]; exact row_cell R3 0
        have zz0 : IntKind.i64.wrap ((s1.ticks : Int) + (s2.ticks : Int)) = (s1.ticks : Int) + (s2.ticks : Int) := IntWalk.i64_in _ (by have : s1.ticks + s2.ticks ≤ 38400 := a4.ticks; omega)
        have c11 : x3.cell? ⟨f1, 1, none⟩ = some (.int .i64 (s1.quorums : Int)) := row_cell R1 1
        have c21 : x3.cell? ⟨f2, 1, none⟩ = some (.int .i64 (s2.quorums : Int)) := row_cell R2 1
        have c31 : x3.cell? ⟨f3, 1, none⟩ = some (.int .i64 ((s1.quorums : Int) + (s2.quorums : Int))) := by rw [← Int.natCast_add]; exact row_cell R3 1
        have zz1 : IntKind.i64.wrap ((s1.quorums : Int) + (s2.quorums : Int)) = (s1.quorums : Int) + (s2.quorums : Int) := IntWalk.i64_in _ (by have : s1.quorums + s2.quorums ≤ 38400 := a4.quorums; omega)
        have c12 : x3.cell? ⟨f1, 2, none⟩ = some (.int .i64 (s1.leaks : Int)) := row_cell R1 2
        have c22 : x3.cell? ⟨f2, 2, none⟩ = some (.int .i64 (s2.leaks : Int)) := row_cell R2 2
        have c32 : x3.cell? ⟨f3, 2, none⟩ = some (.int .i64 ((s1.leaks : Int) + (s2.leaks : Int))) := by rw [← Int.natCast_add]; exact row_cell R3 2
        have zz2 : IntKind.i64.wrap ((s1.leaks : Int) + (s2.leaks : Int)) = (s1.leaks : Int) + (s2.leaks : Int) := IntWalk.i64_in _ (by have : s1.leaks + s2.leaks ≤ 38400 := a4.leaks; omega)
        have c13 : x3.cell? ⟨f1, 3, none⟩ = some (.int .u64 (s1.minted : Int)) := row_cell R1 3
        have c23 : x3.cell? ⟨f2, 3, none⟩ = some (.int .u64 (s2.minted : Int)) := row_cell R2 3
        have c33 : x3.cell? ⟨f3, 3, none⟩ = some (.int .u64 ((s1.minted : Int) + (s2.minted : Int))) := by rw [← Int.natCast_add]; exact row_cell R3 3
        have zz3 : IntKind.u64.wrap ((s1.minted : Int) + (s2.minted : Int)) = (s1.minted : Int) + (s2.minted : Int) := by rw [IntKind.wrap_u64]; omega
        have c16 : x3.cell? ⟨f1, 6, none⟩ = some (.int .u64 (s1.burned : Int)) := row_cell R1 6
        have c26 : x3.cell? ⟨f2, 6, none⟩ = some (.int .u64 (s2.burned : Int)) := row_cell R2 6
        have c36 : x3.cell? ⟨f3, 6, none⟩ = some (.int .u64 ((s1.burned : Int) + (s2.burned : Int))) := by rw [← Int.natCast_add]; exact row_cell R3 6
        have zz6 : IntKind.u64.wrap ((s1.burned : Int) + (s2.burned : Int)) = (s1.burned : Int) + (s2.burned : Int) := by rw [IntKind.wrap_u64]; omega
        have c17 : x3.cell? ⟨f1, 7, none⟩ = some (.int .u64 (s1.fees : Int)) := row_cell R1 7
        have c27 : x3.cell? ⟨f2, 7, none⟩ = some (.int .u64 (s2.fees : Int)) := row_cell R2 7
        have c37 : x3.cell? ⟨f3, 7, none⟩ = some (.int .u64 ((s1.fees : Int) + (s2.fees : Int))) := by rw [← Int.natCast_add]; exact row_cell R3 7
        have zz7 : IntKind.u64.wrap ((s1.fees : Int) + (s2.fees : Int)) = (s1.fees : Int) + (s2.fees : Int) := by rw [IntKind.wrap_u64]; omega
        have c18 : x3.cell? ⟨f1, 8, none⟩ = some (.int .i64 (s1.out : Int)) := row_cell R1 8
        have c28 : x3.cell? ⟨f2, 8, none⟩ = some (.int .i64 (s2.out : Int)) := row_cell R2 8
        have c38 : x3.cell? ⟨f3, 8, none⟩ = some (.int .i64 ((s1.out : Int) + (s2.out : Int))) := by rw [← Int.natCast_add]; exact row_cell R3 8
        have zz8 : IntKind.i64.wrap ((s1.out : Int) + (s2.out : Int)) = (s1.out : Int) + (s2.out : Int) := IntWalk.i64_in _ (by have : s1.out + s2.out ≤ 38400 := a4.out; omega)
        have c111 : x3.cell? ⟨f1, 11, none⟩ = some (.int .i64 (s1.done : Int)) := row_cell R1 11
        have c211 : x3.cell? ⟨f2, 11, none⟩ = some (.int .i64 (s2.done : Int)) := row_cell R2 11
        have c311 : x3.cell? ⟨f3, 11, none⟩ = some (.int .i64 ((s1.done : Int) + (s2.done : Int))) := by rw [← Int.natCast_add]; exact row_cell R3 11
        have zz11 : IntKind.i64.wrap ((s1.done : Int) + (s2.done : Int)) = (s1.done : Int) + (s2.done : Int) := IntWalk.i64_in _ (by have : s1.done + s2.done ≤ 38400 := a4.done; omega)
        have c34 : x3.cell? ⟨f3, 4, none⟩ = some (.int .u64 ((s1.paid : Int) + (s2.paid : Int))) := by rw [← Int.natCast_add]; exact row_cell R3 4
        have c35 : x3.cell? ⟨f3, 5, none⟩ = some (.int .u64 ((s1.kept : Int) + (s2.kept : Int))) := by rw [← Int.natCast_add]; exact row_cell R3 5
        have zzp : IntKind.u64.wrap ((s1.paid : Int) + (s2.paid : Int) + ((s1.kept : Int) + (s2.kept : Int))) = (s1.minted : Int) + (s2.minted : Int) := by rw [IntKind.wrap_u64]; omega
        clear a2 a3 a4 F1 F2 F3 E1 E2 E3 E4 R1 R2 R3
        go_wp2_with (first | go_big_skip | go_big_want)
        go_ret
        exact ⟨rfl, HW.out⟩
      · clear R1 R2 R3 HPl
        go_wp2_with (first | go_big_skip | go_big_want | go_big_guard)
        all_goals
          go_ret
          exact ⟨rfl, HW.out⟩
end Go.Proofs.Ytnakkjgnjffkpaa

/-
  Layer 38: AnnalsBack: what is encoded is decoded as it was; what is decoded is encoded as the same bytes; cut off it is not all there.
-/
import Derived.Test.YtnakkjgnjffkpaaLaw38b
namespace Go.Proofs.Ytnakkjgnjffkpaa
open Go.RowKit
set_option linter.unusedVariables false
set_option linter.unusedSimpArgs false

theorem run_head38 (A : Option Addr) (n c k : Nat) (h : k ≤ c) (w : World) : (Instr.slice 64 (.slice A n c) none (some (.int .i64 (k : Int))) none).run Try.prog w = .ok (.slice (cutA A c 0) k c) w := by
  obtain ⟨i0, hi, hz0, hz1, hz2⟩ := info_parts u8_info
  have he : Try.prog.elem 64 = 5 := by kernel_rfl
  have hs : (sizeOf 5).run Try.prog w = .ok 1 w := by simp [sizeOf, typeInfo, hi, hz1]
  rw [run_slice_h (P := Try.prog) w 64 A n c (by rw [he]; exact u8s_under) .i64 k (by omega) (by omega), he, hs]
  have e1 : ((k : Int)).toNat = k := by omega
  simp only [Result.andThen, sliced, cutA, e1, Nat.mul_one, Nat.sub_zero]
theorem OwnB.capN {W : World} {A : Option Addr} {n c : Nat} {l : List Nat} (h : OwnB W (.slice A n c) l) : n ≤ c := by
  rcases h.2 with ⟨h, _⟩ | ⟨g, cap, cur, h, _, _, hn, _⟩
  · cases h; exact Nat.le_refl _
  · cases h; exact hn
theorem decR_zero {t : Rd} (h : decE38 t ≠ 0) : decR38 t = Rep.zero := by unfold decR38; rw [if_neg h]
theorem formR_pos {r : Rep} (h : rightA r = true) : 0 < (formR r).length := by
  unfold formR
  rw [show numsR r = r.epoch.toNat :: (numsR r).tail from rfl, flatN_cons, List.length_append]
  have := formN_pos r.epoch.toNat
  omega
set_option maxRecDepth 100000 in
set_option maxHeartbeats 8000000 in
theorem annalsBack_any (r : Rep) (a : RepA) (A : Option Addr) (n c : Nat) (xs : List Nat) (cut : Int) (hcut : i64ok cut) (hn : xs.length = n) (hm : n ≤ 9223372036854775807) (w : World) (ho : r.Ok) (hA : RepAt w (r, a)) (hU : BysIn w A c xs) :
    Calls Try.prog 7 #[.agg (repC (r, a)), .slice A n c, .int .i64 cut] w fun e w' => e = .returned (.bool true) ∧ Below w.heap.size w w' := by
  have r0 : row (w.alloc (.cells (repC (r, a)) 36)) w.heap.size = some (repC (r, a)) := row_at _ _ _ _ rfl
  have hB0 : Below w.heap.size w (w.alloc (.cells (repC (r, a)) 36)) := (by (repeat (first | exact Below.refl _ _ | assumption | (refine Below.allocT ?_ _) | refine Below.drew ?_ | refine below_drewN ?_ _ | (refine Below.then ?_ (by assumption)) | (refine Below.setRow ?_ ?_ _; rotate_left; (focus (first | exact Nat.lt_succ_self _ | ((repeat rw [World.size_alloc]); omega) | (simp; done) | (simp; omega) | omega))) | (refine Below.setCell ?_ ?_ _; rotate_left; (focus (first | exact Nat.lt_succ_self _ | ((repeat rw [World.size_alloc]); omega) | (simp; done) | (simp; omega) | omega))) | (refine Below.then' ?_ (by assumption) ?_; rotate_left; (focus (first | exact Nat.lt_succ_self _ | ((repeat rw [World.size_alloc]); omega) | (simp; done) | (simp; omega) | omega))) | fail)); (first | done | fail))
  have HFw := Lib.hid (fun W => few38_any r a W)
  have HU := Lib.hid hU
  have HA := Lib.hid (fun W (h : Below w.heap.size w W) => hA.stay h)
  have HO := Lib.hid ho
  have HN := Lib.hid hn
  have hz := repC_one (r, a)
  clear hU hA ho hn
  go_enter Try.func7, Try.ntmps7
  go_upto_region 1 with fail
  change Code.wp _ _ _ _ (w.alloc (.cells (repC (r, a)) 36))
  generalize w.alloc (.cells (repC (r, a)) 36) = w0 at *
  go_wp2_with fail
  refine (awake38_any w0).mono ?_
  rintro e w1 ⟨rfl, hb1⟩
  have r1 := below_row hb1 r0 (row_lt r0)
  have hB1 := Below.then hB0 hb1
  clear r0 hB0 hb1
  go_wp2_with fail
  refine (HFw.out w1).mono ?_
  rintro e w2 ⟨rfl, hb2⟩
  have r2 := below_row hb2 r1 (row_lt r1)
  have hB2 := Below.then hB1 hb2
  clear r1 hB1 hb2 HFw
  generalize fewW r = fb at *
  cases fb
  · go_wp2_with fail
    go_ret
    exact ⟨rfl, hB2⟩
  by_cases hbig : 3000 < n
  · have hbig' : (3000 : Int) < (n : Int) := by omega
    go_wp2_with fail
    go_ret
    exact ⟨rfl, hB2⟩
  have hbig' : ¬ (3000 : Int) < (n : Int) := by omega
  by_cases hneg : cut < 0
  · go_wp2_with fail
    go_ret
    exact ⟨rfl, hB2⟩
  obtain ⟨cN, rfl⟩ := Int.eq_ofNat_of_zero_le (show 0 ≤ cut by omega)
  have hneg' : ¬ (cN : Int) < 0 := hneg
  have HE := Lib.hid (encode38_any r a HO.out w2 (HA.out w2 hB2))
  have HDc := Lib.hid (fun W (h : BysIn W A c xs) => decode38_any A n c xs HN.out (by omega) HU.out.ok W h.bys)
  have HLn := Lib.hid (decR_len ⟨xs, 0, 0⟩)
  have HZ := Lib.hid (fun h => decR_zero (t := ⟨xs, 0, 0⟩) h)
  have HBk := Lib.hid (fun h => dec_back HU.out.ok h)
  have HQO : Hid ((decR38 ⟨xs, 0, 0⟩).Ok) := Lib.hid (by
    unfold decR38
    split
    · exact repR_ok _
    · exact ⟨by show i64ok 0; unfold i64ok; omega, by show i64ok 0; unfold i64ok; omega, by decide, by decide, by decide, by decide, by decide, by decide, by decide, by decide, by decide, by decide, by decide⟩)
  have HEq := Lib.hid (fun a' W (h : RepAt W (decR38 ⟨xs, 0, 0⟩, a')) => encode38_any (decR38 ⟨xs, 0, 0⟩) a' HQO.out W h)
  unfold DecPost38 at HDc
  unfold OutPost at HE HEq
  have HS : Hid (decE38 ⟨xs, 0, 0⟩ = 0 → encS (decR38 ⟨xs, 0, 0⟩) = ⟨xs, 0⟩) := Lib.hid fun h => by
    obtain ⟨h1, h2⟩ := HBk.out h
    unfold encS
    rw [if_pos h1, h2]
  generalize decR38 ⟨xs, 0, 0⟩ = rq at *
  generalize decE38 ⟨xs, 0, 0⟩ = re at *
  clear HBk HQO
  cases hrt : rightA r
  · have hs : encS r = ⟨[], 2⟩ := by simp [encS, hrt]
    have hs2 : outL (encS r) = [] := by rw [hs]; rfl
    rw [hs2, hs] at HE
    clear hs hs2 hrt hbig
    go_wp2_with fail
    refine (HE.out).mono ?_
    rintro e w5 ⟨A3, c3, rfl, hO3, hA3, hb3⟩
    have B5 := Lib.hid (Below.then hB2 hb3)
    clear hO3 hA3 hb3 r2 hB2 HE
    go_wp2_with fail
    refine (HDc.out w5 (HU.out.below B5.out (Nat.le_refl _))).mono ?_
    rintro e w6 ⟨a6, rfl, hR6, hb6⟩
    have hz6 := repC_one (rq, a6)
    have B6 := Lib.hid (Below.then B5.out hb6)
    have RA6 := Lib.hid hR6
    clear hR6 hb6 B5
    go_upto_region 12 with fail
    refine of_world (fun W => Below w6.heap.size w6 W ∧ row W w6.heap.size = some (repC (rq, a6))) ⟨(by (repeat (first | exact Below.refl _ _ | assumption | (refine Below.allocT ?_ _) | refine Below.drew ?_ | refine below_drewN ?_ _ | (refine Below.then ?_ (by assumption)) | (refine Below.setRow ?_ ?_ _; rotate_left; (focus (first | exact Nat.lt_succ_self _ | ((repeat rw [World.size_alloc]); omega) | (simp; done) | (simp; omega) | omega))) | (refine Below.setCell ?_ ?_ _; rotate_left; (focus (first | exact Nat.lt_succ_self _ | ((repeat rw [World.size_alloc]); omega) | (simp; done) | (simp; omega) | omega))) | (refine Below.then' ?_ (by assumption) ?_; rotate_left; (focus (first | exact Nat.lt_succ_self _ | ((repeat rw [World.size_alloc]); omega) | (simp; done) | (simp; omega) | omega))) | fail)); (first | done | fail)), by first | exact row_at _ _ _ _ rfl | (rw [row_setRow_if, if_pos rfl, row_at _ _ _ _ rfl]; rfl)⟩ ?_
    rintro w7 ⟨hb7, x7⟩
    have B7 := Lib.hid (Below.then B6.out hb7)
    have RA7 := Lib.hid (RA6.out.stay hb7)
    clear hb7 RA6 B6
    generalize w6.heap.size = g6 at *
    by_cases h0 : re = 0
    · subst h0
      have hs := HS.out rfl
      have hs2 : outL (encS rq) = xs := by rw [hs]; rfl
      have HE7 := Lib.hid (HEq.out a6 w7 RA7.out)
      rw [hs2, hs, HN.out] at HE7
      clear hs hs2 HS HZ HEq
      go_wp2_with fail
      refine (HE7.out).mono ?_
      rintro e w8 ⟨A8, c8, rfl, hO8, hA8, hb8⟩
      have B8 := Lib.hid (Below.then B7.out hb8)
      have HS8 := Lib.hid (same5_any A8 A xs xs n c8 n c HN.out HN.out (by omega) (by omega) w8 hO8.bysA (HU.out.below B8.out (Nat.le_refl _)).bys)
      have hself : sameL xs xs = true := by simp [sameL]
      rw [hself] at HS8
      clear hO8 hA8 hb8 hself x7 B7 RA7 HE7
      go_wp2_with fail
      refine (HS8.out).mono ?_
      rintro e w9 ⟨rfl, hb9⟩
      have B9 := Lib.hid (Below.then B8.out hb9)
      clear hb9 B8 HS8
      go_wp2_with fail
      go_ret
      exact ⟨rfl, B9.out⟩
    · have e1 : (re != 0) = true := bne_iff_ne.2 h0
      have hzq := HZ.out h0
      subst hzq
      have HSm := Lib.hid (sameRep_any Rep.zero Rep.zero a6 RepA.nil w7 RA7.out (RepAt.zero w7) (by decide))
      rw [show decide (Rep.zero = Rep.zero) = true from decide_eq_true rfl] at HSm
      clear h0 HS HZ HEq
      go_wp2_with (refine wpList_build_to (repC (Rep.zero, RepA.nil)) rfl 40 _ rfl (by kernel_rfl) ?_)
      refine (HSm.out).mono ?_
      rintro e w8 ⟨rfl, hb8⟩
      have B8 := Lib.hid (Below.then B7.out hb8)
      clear hb8 x7 B7 RA7 HSm
      go_wp2_with fail
      go_ret
      exact ⟨rfl, B8.out⟩
  · have hs : encS r = ⟨formR r, 0⟩ := by simp [encS, hrt]
    have hs2 : outL (encS r) = formR r := by rw [hs]; rfl
    rw [hs2, hs] at HE
    have hfl := formR_len (right_small7 hrt)
    have hfp := formR_pos hrt
    have hfo := formR_ok r
    obtain ⟨d1, d2⟩ := dec_there hrt
    have HD1 := Lib.hid (fun A c W (h : Bys W A (formR r)) => decode38_any A (formR r).length c (formR r) rfl (by omega) hfo W h)
    unfold DecPost38 at HD1
    rw [d1, d2] at HD1
    obtain ⟨kk, hkk⟩ : ∃ kk, kk = cN % (formR r).length := ⟨_, rfl⟩
    have hkl : kk < (formR r).length := by rw [hkk]; exact Nat.mod_lt _ hfp
    have hcl : ((formR r).take kk).length = kk := by rw [List.length_take]; omega
    have HD2 := Lib.hid (fun A c W (h : Bys W A ((formR r).take kk)) => decode38_any A kk c ((formR r).take kk) hcl (by omega) (hfo.take kk) W h)
    unfold DecPost38 at HD2
    rw [dec_cut hrt hkl, decR_zero (by rw [dec_cut hrt hkl]; decide)] at HD2
    have E1 : (cN : Int) % (((formR r).length : Nat) : Int) = (kk : Int) := by rw [hkk]; exact (Int.natCast_emod cN (formR r).length).symm
    have hnp : ((((formR r).length : Nat) : Int) == 0) = false := beq_eq_false_iff_ne.2 (by omega)
    have hnp2 : ¬ (((formR r).length : Nat) : Int) = 0 := by omega
    have hnp3 : (0 : Int) ≤ (cN : Int) := by omega
    clear hs hs2 hrt hbig d1 d2 hkk hfo hcl
    generalize hfr : formR r = fp at *
    obtain ⟨np, hnl⟩ : ∃ np, np = fp.length := ⟨_, rfl⟩
    have HNp := Lib.hid hnl.symm
    rw [← hnl] at HE HD1 hfl hfp hkl E1 hnp hnp2
    clear hfr hnl
    have HKL := Lib.hid hkl
    go_wp2_with fail
    refine (HE.out).mono ?_
    rintro e w3 ⟨A3, c3, rfl, hO3, hA3, hb3⟩
    have r3 := below_row hb3 r2 (row_lt r2)
    have B3 := Lib.hid (Below.then hB2 hb3)
    have hcap := hO3.capN
    have Y3 := Lib.hid hO3.bysA
    have hcutr := fun W => run_head38 A3 np c3 kk (by omega) W
    clear hO3 hA3 hb3 r2 hB2 HE
    go_wp2_with fail
    refine (HD1.out A3 c3 w3 Y3.out).mono ?_
    rintro e w4 ⟨a4, rfl, hR4, hb4⟩
    have hz4 := repC_one (r, a4)
    have r4 := below_row hb4 r3 (row_lt r3)
    have B4 := Lib.hid (Below.then B3.out hb4)
    have Y4 := Lib.hid (Y3.out.stay hb4)
    have RA4 := Lib.hid hR4
    clear r3 B3 Y3 hR4 hb4 HD1
    go_upto_region 8 with fail
    refine of_world (fun W => Below w4.heap.size w4 W ∧ row W w4.heap.size = some (repC (r, a4))) ⟨(by (repeat (first | exact Below.refl _ _ | assumption | (refine Below.allocT ?_ _) | refine Below.drew ?_ | refine below_drewN ?_ _ | (refine Below.then ?_ (by assumption)) | (refine Below.setRow ?_ ?_ _; rotate_left; (focus (first | exact Nat.lt_succ_self _ | ((repeat rw [World.size_alloc]); omega) | (simp; done) | (simp; omega) | omega))) | (refine Below.setCell ?_ ?_ _; rotate_left; (focus (first | exact Nat.lt_succ_self _ | ((repeat rw [World.size_alloc]); omega) | (simp; done) | (simp; omega) | omega))) | (refine Below.then' ?_ (by assumption) ?_; rotate_left; (focus (first | exact Nat.lt_succ_self _ | ((repeat rw [World.size_alloc]); omega) | (simp; done) | (simp; omega) | omega))) | fail)); (first | done | fail)), by first | exact row_at _ _ _ _ rfl | (rw [row_setRow_if, if_pos rfl, row_at _ _ _ _ rfl]; rfl)⟩ ?_
    rintro w7 ⟨hb7, x7⟩
    have r7 := below_row hb7 r4 (row_lt r4)
    have B7 := Lib.hid (Below.then B4.out hb7)
    have Y7 : Hid (Bys w7 (cutA A3 c3 0) (fp.take kk)) := Lib.hid (by
      have := cutA_bys (lo := 0) (n := kk) (Y4.out.stay hb7) (by rw [HNp.out]; omega) (by rw [HNp.out]; exact hcap)
      rwa [List.drop_zero] at this)
    have RA7 := Lib.hid (RA4.out.stay hb7)
    clear hb7 r4 B4 Y4 RA4
    generalize w4.heap.size = g4 at *
    go_wp2_with fail
    refine (HD2.out (cutA A3 c3 0) c3 w7 Y7.out).mono ?_
    rintro e w8 ⟨a8, rfl, hR8, hb8⟩
    have hz8 := repC_one (Rep.zero, a8)
    have r8 := below_row hb8 r7 (row_lt r7)
    have x8 := below_row hb8 x7 (row_lt x7)
    have B8 := Lib.hid (Below.then B7.out hb8)
    have RA8 := Lib.hid (RA7.out.stay hb8)
    clear r7 x7 B7 RA7 Y7 hR8 hb8 HD2 hcutr hcap
    go_upto_region 9 with fail
    refine of_world (fun W => Below w8.heap.size w8 W) (by (repeat (first | exact Below.refl _ _ | assumption | (refine Below.allocT ?_ _) | refine Below.drew ?_ | refine below_drewN ?_ _ | (refine Below.then ?_ (by assumption)) | (refine Below.setRow ?_ ?_ _; rotate_left; (focus (first | exact Nat.lt_succ_self _ | ((repeat rw [World.size_alloc]); omega) | (simp; done) | (simp; omega) | omega))) | (refine Below.setCell ?_ ?_ _; rotate_left; (focus (first | exact Nat.lt_succ_self _ | ((repeat rw [World.size_alloc]); omega) | (simp; done) | (simp; omega) | omega))) | (refine Below.then' ?_ (by assumption) ?_; rotate_left; (focus (first | exact Nat.lt_succ_self _ | ((repeat rw [World.size_alloc]); omega) | (simp; done) | (simp; omega) | omega))) | fail)); (first | done | fail)) ?_
    intro w9 hb9
    have r9 := below_row hb9 r8 (row_lt r8)
    have x9 := below_row hb9 x8 (row_lt x8)
    have B9 := Lib.hid (Below.then B8.out hb9)
    have HSm := Lib.hid (sameRep_any r r a4 a w9 (RA8.out.stay hb9) (HA.out w9 B9.out) ⟨HO.out.out, HO.out.left, HO.out.started, HO.out.done⟩)
    rw [show decide (r = r) = true from decide_eq_true rfl] at HSm
    clear r8 x8 B8 RA8 hb9
    go_wp2_with fail
    refine (HSm.out).mono ?_
    rintro e w5 ⟨rfl, hb5⟩
    have B5 := Lib.hid (Below.then B9.out hb5)
    clear r9 x9 B9 hb5 HSm
    go_wp2_with fail
    refine (HDc.out w5 (HU.out.below B5.out (Nat.le_refl _))).mono ?_
    rintro e w6 ⟨a6, rfl, hR6, hb6⟩
    have hz6 := repC_one (rq, a6)
    have B6 := Lib.hid (Below.then B5.out hb6)
    have RA6 := Lib.hid hR6
    clear hR6 hb6 B5
    go_upto_region 12 with fail
    refine of_world (fun W => Below w6.heap.size w6 W ∧ row W w6.heap.size = some (repC (rq, a6))) ⟨(by (repeat (first | exact Below.refl _ _ | assumption | (refine Below.allocT ?_ _) | refine Below.drew ?_ | refine below_drewN ?_ _ | (refine Below.then ?_ (by assumption)) | (refine Below.setRow ?_ ?_ _; rotate_left; (focus (first | exact Nat.lt_succ_self _ | ((repeat rw [World.size_alloc]); omega) | (simp; done) | (simp; omega) | omega))) | (refine Below.setCell ?_ ?_ _; rotate_left; (focus (first | exact Nat.lt_succ_self _ | ((repeat rw [World.size_alloc]); omega) | (simp; done) | (simp; omega) | omega))) | (refine Below.then' ?_ (by assumption) ?_; rotate_left; (focus (first | exact Nat.lt_succ_self _ | ((repeat rw [World.size_alloc]); omega) | (simp; done) | (simp; omega) | omega))) | fail)); (first | done | fail)), by first | exact row_at _ _ _ _ rfl | (rw [row_setRow_if, if_pos rfl, row_at _ _ _ _ rfl]; rfl)⟩ ?_
    rintro w7 ⟨hb7, x7⟩
    have B7 := Lib.hid (Below.then B6.out hb7)
    have RA7 := Lib.hid (RA6.out.stay hb7)
    clear hb7 RA6 B6
    generalize w6.heap.size = g6 at *
    by_cases h0 : re = 0
    · subst h0
      have hs := HS.out rfl
      have hs2 : outL (encS rq) = xs := by rw [hs]; rfl
      have HE7 := Lib.hid (HEq.out a6 w7 RA7.out)
      rw [hs2, hs, HN.out] at HE7
      clear hs hs2 HS HZ HEq
      go_wp2_with fail
      refine (HE7.out).mono ?_
      rintro e w8 ⟨A8, c8, rfl, hO8, hA8, hb8⟩
      have B8 := Lib.hid (Below.then B7.out hb8)
      have HS8 := Lib.hid (same5_any A8 A xs xs n c8 n c HN.out HN.out (by omega) (by omega) w8 hO8.bysA (HU.out.below B8.out (Nat.le_refl _)).bys)
      have hself : sameL xs xs = true := by simp [sameL]
      rw [hself] at HS8
      clear hO8 hA8 hb8 hself x7 B7 RA7 HE7
      go_wp2_with fail
      refine (HS8.out).mono ?_
      rintro e w9 ⟨rfl, hb9⟩
      have B9 := Lib.hid (Below.then B8.out hb9)
      clear hb9 B8 HS8
      go_wp2_with fail
      go_ret
      exact ⟨rfl, B9.out⟩
    · have e1 : (re != 0) = true := bne_iff_ne.2 h0
      have hzq := HZ.out h0
      subst hzq
      have HSm := Lib.hid (sameRep_any Rep.zero Rep.zero a6 RepA.nil w7 RA7.out (RepAt.zero w7) (by decide))
      rw [show decide (Rep.zero = Rep.zero) = true from decide_eq_true rfl] at HSm
      clear h0 HS HZ HEq
      go_wp2_with (refine wpList_build_to (repC (Rep.zero, RepA.nil)) rfl 40 _ rfl (by kernel_rfl) ?_)
      refine (HSm.out).mono ?_
      rintro e w8 ⟨rfl, hb8⟩
      have B8 := Lib.hid (Below.then B7.out hb8)
      clear hb8 x7 B7 RA7 HSm
      go_wp2_with fail
      go_ret
      exact ⟨rfl, B8.out⟩
end Go.Proofs.Ytnakkjgnjffkpaa

/-
  Layer 23: any vote on any motions is the document's; any motion fits just if the document says so.
-/
import Derived.Test.YtnakkjgnjffkpaaLaw23
import Derived.Test.YtnakkjgnjffkpaaRef23b
import Derived.Test.YtnakkjgnjffkpaaFit23
import Derived.Test.YtnakkjgnjffkpaaOpenMot
namespace Go.Proofs.Ytnakkjgnjffkpaa
open Go.RowKit
set_option linter.unusedVariables false

theorem plainML_any (A : Option Addr) (n c : Nat) (xs : List (Mot × MotA)) (hn : xs.length = n) (hm : n ≤ 90000) (w : World) (hX : ML w A xs) : Calls Try.prog 36 #[.slice A n c] w fun e w' => ∃ A' c', e = .returned (.slice A' n c') ∧ ML w' A' xs ∧ Below w.heap.size w w' := by
  refine (plain23_any A n c xs hn hm w hX.sl).mono ?_
  rintro e w' ⟨A', c', rfl, hO, hb⟩
  obtain ⟨A'', c'', e, hs, _⟩ := hO.form motC_size
  cases e
  exact ⟨A', c', by rw [hn], ⟨hs, fun x hx => (hX.at_ x hx).stay hb, hX.ok⟩, hb⟩
theorem voteL_few (L : List Mot) (i mem : Int) (yes : Bool) : (voteL L i mem yes).1.length ≤ L.length := by
  unfold voteL
  split
  · simp
  · split
    · simp
    · simp
theorem fewM_of {xs : List (Mot × MotA)} (h : fewM xs = true) : (∀ x ∈ xs, x.1.yes.length ≤ 50 ∧ x.1.no.length ≤ 50) ∧ xs.length ≤ 60 := of_decide_eq_true h
set_option maxRecDepth 100000 in
set_option maxHeartbeats 8000000 in
theorem mootVotes_any (A : Option Addr) (n c : Nat) (xs : List (Mot × MotA)) (i mem ep : Int) (yes quo : Bool) (hn : xs.length = n) (h0 : A = none → c = 0) (hm : n ≤ 9223372036854775807) (hmem : i64ok mem) (w : World) (hX : ML w A xs) :
    Calls Try.prog 9 #[.slice A n c, .agg #[.int .i64 i, .int .i64 mem, .int .i64 ep, .bool yes, .bool quo]] w fun e w' => e = .returned (.bool true) ∧ Below w.heap.size w w' := by
  have r0 : row (w.alloc (.cells #[.int .i64 i, .int .i64 mem, .int .i64 ep, .bool yes, .bool quo] 97)) w.heap.size = some #[.int .i64 i, .int .i64 mem, .int .i64 ep, .bool yes, .bool quo] := (by (repeat (first | assumption | (refine row_at _ _ _ _ ?_; first | rfl | (simp only [World.size_alloc]; done) | (simp only [World.size_alloc]; omega)) | (refine (row_past _ _ _ ?_).trans ?_; (focus (first | exact Nat.lt_succ_self _ | ((repeat rw [World.size_alloc]); omega) | (simp; done) | (simp; omega) | omega))) | rw [row_drewN] | rw [row_drew])); (first | done | fail))
  have hB0 : Below w.heap.size w (w.alloc (.cells #[.int .i64 i, .int .i64 mem, .int .i64 ep, .bool yes, .bool quo] 97)) := (by (repeat (first | exact Below.refl _ _ | assumption | (refine Below.allocT ?_ _) | refine Below.drew ?_ | refine below_drewN ?_ _ | (refine Below.then ?_ (by assumption)) | (refine Below.setRow ?_ ?_ _; rotate_left; (focus (first | exact Nat.lt_succ_self _ | ((repeat rw [World.size_alloc]); omega) | (simp; done) | (simp; omega) | omega))) | (refine Below.setCell ?_ ?_ _; rotate_left; (focus (first | exact Nat.lt_succ_self _ | ((repeat rw [World.size_alloc]); omega) | (simp; done) | (simp; omega) | omega))) | (refine Below.then' ?_ (by assumption) ?_; rotate_left; (focus (first | exact Nat.lt_succ_self _ | ((repeat rw [World.size_alloc]); omega) | (simp; done) | (simp; omega) | omega))) | fail)); (first | done | fail))
  have HX := Lib.hid hX
  have HN := Lib.hid hn
  have HZ := Lib.hid h0
  clear hX hn h0
  go_enter Try.func9, Try.ntmps9
  go_upto_region 1 with fail
  generalize w.alloc (.cells #[.int .i64 i, .int .i64 mem, .int .i64 ep, .bool yes, .bool quo] 97) = w0 at *
  have HB0 := Lib.hid hB0
  have HR0 := Lib.hid r0
  clear hB0 r0
  go_wp2_with fail
  refine (awake23_any _).mono ?_
  rintro e w1 ⟨rfl, hb1⟩
  have HB1 := Lib.hid (Below.then HB0.out hb1)
  have HR1 := Lib.hid (below_row' hb1 HR0.out)
  clear hb1 HR0 HB0
  go_wp2_with fail
  refine (few23_any A n c xs HN.out hm _ (HX.out.below HB1.out (Nat.le_refl _))).mono ?_
  rintro e w2 ⟨rfl, hb2⟩
  have HB2 := Lib.hid (Below.then HB1.out hb2)
  have HR2 := Lib.hid (below_row' hb2 HR1.out)
  clear hb2 HR1 HB1
  cases hfw : fewM xs
  case false =>
    clear hfw
    go_wp2_with fail
    go_ret
    exact ⟨rfl, HB2.out⟩
  case true =>
  have HF := Lib.hid (fewM_of hfw)
  clear hfw
  have hm60 : n ≤ 60 := by have := HF.out.2; rw [HN.out] at this; exact this
  have HV := Lib.hid (fun W hW => mvote_any A n c xs i mem yes HN.out HZ.out (by omega) hmem W hW (fun x hx => by have := HF.out.1 x hx; omega))
  have HRV := Lib.hid (fun W A c hW => rvote_any A n c xs i mem yes HN.out (by omega) hmem W hW (fun x hx => by have := HF.out.1 x hx; omega))
  have hVl := voteL_few (xs.map (·.1)) i mem yes
  rw [List.length_map, HN.out] at hVl
  generalize voteL (xs.map (·.1)) i mem yes = VE at *
  obtain ⟨VL, E⟩ := VE
  have hVl : VL.length ≤ n := hVl
  have r2 := HR2.out
  have k0 : w2.cell? ⟨w.heap.size, 0, none⟩ = some (.int .i64 i) := row_cell r2 0
  have k1 : w2.cell? ⟨w.heap.size, 1, none⟩ = some (.int .i64 mem) := row_cell r2 1
  have k3 : w2.cell? ⟨w.heap.size, 3, none⟩ = some (.bool yes) := row_cell r2 3
  clear r2
  go_wp2_with fail
  refine (HV.out _ (HX.out.below HB2.out (Nat.le_refl _))).mono ?_
  rintro e w3 ⟨A3, n3, c3, ys, rfl, hn3, hM3, hL3, h03, hb3⟩
  have HB3 := Lib.hid (Below.then HB2.out hb3)
  have HR3 := Lib.hid (below_row' hb3 HR2.out)
  have HM3 := Lib.hid hM3
  have HN3 := Lib.hid hn3
  have HL3 := Lib.hid hL3
  have hn3' : n3 ≤ n := by have h := congrArg List.length hL3; rw [List.length_map, hn3] at h; rw [h]; exact hVl
  clear hb3 HR2 HB2 hM3 hn3 hL3 h03 HV k0 k1 k3
  have HPl := Lib.hid (fun W h => plainML_any A n c xs HN.out (by omega) W (HX.out.below (Below.then HB3.out h) (Nat.le_refl _)))
  go_upto_region 6 with fail
  have HM : Hid (∀ W, Below w3.heap.size w3 W → W.cell? ⟨w.heap.size, 0, none⟩ = some (.int .i64 i) ∧ W.cell? ⟨w.heap.size, 1, none⟩ = some (.int .i64 mem) ∧ W.cell? ⟨w.heap.size, 3, none⟩ = some (.bool yes)) := Lib.hid fun W h =>
    have hr := below_row' h HR3.out
    ⟨row_cell hr 0, row_cell hr 1, row_cell hr 3⟩
  go_region_held3 (fun W => W.cell? ⟨w.heap.size, 0, none⟩ = some (.int .i64 i) ∧ W.cell? ⟨w.heap.size, 1, none⟩ = some (.int .i64 mem) ∧ W.cell? ⟨w.heap.size, 3, none⟩ = some (.bool yes)) (exact HM.out _ (by (repeat (first | exact Below.refl _ _ | assumption | (refine Below.allocT ?_ _) | refine Below.drew ?_ | refine below_drewN ?_ _ | (refine Below.then ?_ (by assumption)) | (refine Below.setRow ?_ ?_ _; rotate_left; (focus (first | exact Nat.lt_succ_self _ | ((repeat rw [World.size_alloc]); omega) | (simp; done) | (simp; omega) | omega))) | (refine Below.setCell ?_ ?_ _; rotate_left; (focus (first | exact Nat.lt_succ_self _ | ((repeat rw [World.size_alloc]); omega) | (simp; done) | (simp; omega) | omega))) | (refine Below.then' ?_ (by assumption) ?_; rotate_left; (focus (first | exact Nat.lt_succ_self _ | ((repeat rw [World.size_alloc]); omega) | (simp; done) | (simp; omega) | omega))) | fail)); (first | done | fail))) (first | (go_at_call 36; refine (HPl.out _ (by (repeat (first | exact Below.refl _ _ | assumption | (refine Below.allocT ?_ _) | refine Below.drew ?_ | refine below_drewN ?_ _ | (refine Below.then ?_ (by assumption)) | (refine Below.setRow ?_ ?_ _; rotate_left; (focus (first | exact Nat.lt_succ_self _ | ((repeat rw [World.size_alloc]); omega) | (simp; done) | (simp; omega) | omega))) | (refine Below.setCell ?_ ?_ _; rotate_left; (focus (first | exact Nat.lt_succ_self _ | ((repeat rw [World.size_alloc]); omega) | (simp; done) | (simp; omega) | omega))) | (refine Below.then' ?_ (by assumption) ?_; rotate_left; (focus (first | exact Nat.lt_succ_self _ | ((repeat rw [World.size_alloc]); omega) | (simp; done) | (simp; omega) | omega))) | fail)); (first | done | fail))).mono ?_; rintro e w4 ⟨A4, c4, rfl, hM4, hb4⟩) | (go_at_call 40; refine (HRV.out _ A4 c4 (hM4.stay (by (repeat (first | exact Below.refl _ _ | assumption | (refine Below.allocT ?_ _) | refine Below.drew ?_ | refine below_drewN ?_ _ | (refine Below.then ?_ (by assumption)) | (refine Below.setRow ?_ ?_ _; rotate_left; (focus (first | exact Nat.lt_succ_self _ | ((repeat rw [World.size_alloc]); omega) | (simp; done) | (simp; omega) | omega))) | (refine Below.setCell ?_ ?_ _; rotate_left; (focus (first | exact Nat.lt_succ_self _ | ((repeat rw [World.size_alloc]); omega) | (simp; done) | (simp; omega) | omega))) | (refine Below.then' ?_ (by assumption) ?_; rotate_left; (focus (first | exact Nat.lt_succ_self _ | ((repeat rw [World.size_alloc]); omega) | (simp; done) | (simp; omega) | omega))) | fail)); (first | done | fail)))).mono ?_; rintro e w5 ⟨A5, n5, c5, zs, rfl, hn5, hM5, hL5, h05, hb5⟩))
  have hb34 : Below w3.heap.size w3 w4 := Below.then (show Below w3.heap.size w3 w3.drew from (by (repeat (first | exact Below.refl _ _ | assumption | (refine Below.allocT ?_ _) | refine Below.drew ?_ | refine below_drewN ?_ _ | (refine Below.then ?_ (by assumption)) | (refine Below.setRow ?_ ?_ _; rotate_left; (focus (first | exact Nat.lt_succ_self _ | ((repeat rw [World.size_alloc]); omega) | (simp; done) | (simp; omega) | omega))) | (refine Below.setCell ?_ ?_ _; rotate_left; (focus (first | exact Nat.lt_succ_self _ | ((repeat rw [World.size_alloc]); omega) | (simp; done) | (simp; omega) | omega))) | (refine Below.then' ?_ (by assumption) ?_; rotate_left; (focus (first | exact Nat.lt_succ_self _ | ((repeat rw [World.size_alloc]); omega) | (simp; done) | (simp; omega) | omega))) | fail)); (first | done | fail))) hb4
  have HB5 := Lib.hid (Below.then HB3.out (Below.then hb34 hb5))
  have HM5 := Lib.hid hM5
  have HL5 := Lib.hid hL5
  have HS5 : Hid (n5 = n3 ∧ ys.map (·.1) = zs.map (·.1)) := Lib.hid ⟨by have h := congrArg List.length hL5; have h3 := congrArg List.length HL3.out; rw [List.length_map] at h h3; rw [← hn5, h, ← h3]; exact HN3.out, by rw [HL3.out, hL5]⟩
  have H35 := Lib.hid (Below.then hb34 hb5)
  clear hb34 hb4 hb5 hM4 hM5 hL5 h05 hn5 HM HR3 HRV HPl
  go_wp2_with fail
  refine (plainML_any A3 n3 c3 ys HN3.out (by omega) _ (HM3.out.stay H35.out)).mono ?_
  rintro e w6 ⟨A6, c6, rfl, hM6, hb6⟩
  have HB6 := Lib.hid (Below.then HB5.out hb6)
  have HM6 := Lib.hid hM6
  have hz : n5 = n3 := HS5.out.1
  subst hz
  have HS6 := Lib.hid (sameList_any A6 A5 n5 c6 c5 ys zs HN3.out HS5.out.2 (by omega) w6 hM6 (HM5.out.stay hb6))
  clear hb6 hM6 HB5 H35 HB3 HM3
  go_wp2_with fail
  refine (HS6.out).mono ?_
  rintro e w7 ⟨rfl, hb7⟩
  have HB7 := Lib.hid (Below.then HB6.out hb7)
  clear hb7 HB6 HS6 HM5 HM6 HL5 HS5 HL3
  go_wp2_with fail
  go_loopw [51] (fun i wr => ∃ j : Nat, i = .int .i64 j ∧ j ≤ n ∧ Hid (Below w.heap.size w wr)) (fun i _ => n - (intOf i).toNat)
  case atStart => exact ⟨0, rfl, by omega, HB7⟩
  case round =>
    obtain ⟨j, rfl, hj, hH⟩ := hrel
    by_cases hlt : j < n
    · obtain ⟨b, off, hAe, hbb, hcell⟩ := HX.out.sl (by rw [HN.out]; omega)
      obtain ⟨⟨m, a⟩, hx⟩ : ∃ x, xs[j]? = some x := ⟨_, List.getElem?_eq_getElem (by rw [HN.out]; exact hlt)⟩
      have hr := range_below (hcell j _ hx) hH.out hbb
      have hi : (Try.prog.info? 103).map (·.size) = some (motC (m, a)).toList.length := by rw [mot_info]; rfl
      have HXj := Lib.hid hx
      have HBj := Lib.hid (HF.out.1 _ (List.mem_of_getElem? hx))
      have z1 : (0 : Int) ≤ (j : Int) := by omega
      have z2 : (j : Int) < (n : Int) := by omega
      have hz := motC_one (m, a)
      subst hAe
      clear hcell hx
      go_upto_region 12 with (refine wpList_load_mid rfl 103 _ (by rfl) b (off + j * 33) (by rfl) (motC (m, a)).toList _ hr mot_under rfl hi ?_)
      refine of_world (fun W => Below wr.heap.size wr W ∧ row W wr.heap.size = some (motC (m, a))) ⟨(by (repeat (first | exact Below.refl _ _ | assumption | (refine Below.allocT ?_ _) | refine Below.drew ?_ | refine below_drewN ?_ _ | (refine Below.then ?_ (by assumption)) | (refine Below.setRow ?_ ?_ _; rotate_left; (focus (first | exact Nat.lt_succ_self _ | ((repeat rw [World.size_alloc]); omega) | (simp; done) | (simp; omega) | omega))) | (refine Below.setCell ?_ ?_ _; rotate_left; (focus (first | exact Nat.lt_succ_self _ | ((repeat rw [World.size_alloc]); omega) | (simp; done) | (simp; omega) | omega))) | (refine Below.then' ?_ (by assumption) ?_; rotate_left; (focus (first | exact Nat.lt_succ_self _ | ((repeat rw [World.size_alloc]); omega) | (simp; done) | (simp; omega) | omega))) | fail)); (first | done | fail)), by first | exact row_at _ _ _ _ rfl | (rw [row_setRow_if, if_pos rfl, row_at _ _ _ _ rfl]; rfl)⟩ ?_
      rintro w8 ⟨hb8, r8⟩
      have HB8 := Lib.hid (Below.then hH.out hb8)
      have HPl := Lib.hid (fun W h => plainML_any (some ⟨b, off, none⟩) n c xs HN.out (by omega) W (HX.out.below (Below.then HB8.out h) (Nat.le_refl _)))
      have HC1 := Lib.hid (fun W => mfits23_any m a (by have h := HBj.out.1; exact Nat.le_trans h (by omega)) (by have h := HBj.out.2; exact Nat.le_trans h (by omega)) W)
      have HC2 := Lib.hid (fun b W => rfits23_any m b (by have h := HBj.out.1; exact Nat.le_trans h (by omega)) (by have h := HBj.out.2; exact Nat.le_trans h (by omega)) W)
      clear hr hi hb8 hz
      generalize wr.heap.size = g8 at *
      generalize fit23 m = fb at *
      go_wp2_with fail
      refine (HC1.out _).mono ?_
      rintro e w9 ⟨rfl, hb9⟩
      have HB9 := Lib.hid (Below.then HB8.out hb9)
      have H89 := Lib.hid hb9
      clear hb9 HC1 r8
      go_wp2_with fail
      refine (HPl.out _ H89.out).mono ?_
      rintro e w10 ⟨A10, c10, rfl, hM10, hb10⟩
      have HB10 := Lib.hid (Below.then HB9.out hb10)
      obtain ⟨b2, o2, rfl, hbb2, hcell2⟩ := hM10.sl (by rw [HN.out]; omega)
      obtain ⟨⟨m', a'⟩, hx2⟩ : ∃ x, xs[j]? = some x := ⟨_, HXj.out⟩
      have hr2 := hcell2 j _ HXj.out
      have hi2 : (Try.prog.info? 107).map (·.size) = some (motC (m, a)).toList.length := by rw [rmot_info]; rfl
      clear hcell2 hx2 hb10 H89 HB9 HPl hM10
      go_wp2_with (refine wpList_load_mid rfl 107 _ (by rfl) b2 (o2 + j * 33) (by rfl) (motC (m, a)).toList _ hr2 rmot_under rfl hi2 ?_)
      refine (HC2.out a _).mono ?_
      rintro e w11 ⟨rfl, hb11⟩
      have HB11 := Lib.hid (Below.then HB10.out hb11)
      clear hb11 hr2 hi2 HB10 HC2
      go_wp2_with fail
      exact ⟨⟨j + 1, by go_num, by omega, HB11⟩, by simp [intOf]; omega⟩
    · obtain rfl : j = n := by omega
      go_wp2_with fail
      go_ret
      exact ⟨rfl, hH.out⟩
end Go.Proofs.Ytnakkjgnjffkpaa

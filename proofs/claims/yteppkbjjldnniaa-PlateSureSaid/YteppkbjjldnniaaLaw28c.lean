/-
  Layer 28: what was synced stays; each sector has what one write wrote, whole.
-/
import Derived.Test.YteppkbjjldnniaaPlateM
import Derived.Deep.RegionLaw
namespace Go.Proofs.Yteppkbjjldnniaa
open Go.RowKit
set_option linter.unusedVariables false

set_option maxRecDepth 100000 in
set_option maxHeartbeats 16000000 in
theorem plateSure_any (A0 A1 : Option Addr) (n0 c0 n1 c1 : Nat) (xs0 : List Op28) (xs1 : List Bool) (wh : Int) (w : World) (hn0 : xs0.length = n0) (hok : ∀ x ∈ xs0, Op28.Ok w x) (hm0 : n0 ≤ 9223372036854775807) (hn1 : xs1.length = n1) (hm1 : n1 ≤ 9223372036854775807) (hwh : i64ok wh) (hU0 : SliceOf 5 Op28.cells w A0 xs0) (hU1 : SliceOf 1 boolK w A1 xs1) :
    Calls Try.prog 8 #[.slice A0 n0 c0, .slice A1 n1 c1, .int .i64 wh] w fun e w' => e = .returned (.bool true) ∧ Below w.heap.size w w' := by
  have HFew := Lib.hid (fun W h => few28_any A0 n0 c0 xs0 40 hn0 hm0 (fun x hx => (hok x hx).len) W h)
  have HU0 := Lib.hid hU0
  have HU1 := Lib.hid hU1
  have HN0 := Lib.hid hn0
  have HN1 := Lib.hid hn1
  have HOk := Lib.hid hok
  have HWh := Lib.hid hwh
  have HFw : Hid (fewP xs0 40 = true → n0 ≤ 40 ∧ ∀ o ∈ xs0, o.keep.length ≤ 100) := Lib.hid fun h => by
    have h1 := of_decide_eq_true h
    exact ⟨by have := h1.2; rw [hn0] at this; omega, h1.1⟩
  clear hn0 hok hn1 hwh hU0 hU1
  by_cases hgood : fewP xs0 40 = true ∧ n1 ≤ 100 ∧ 0 ≤ wh ∧ wh ≤ 100
  rotate_left
  · by_cases hf : fewP xs0 40 = true
    rotate_left
    · rw [show fewP xs0 40 = false by simpa using hf] at HFew
      clear hgood hf
      go_enter Try.func8, Try.ntmps8
      go_wp2_with fail
      refine (awake28_any _).mono ?_
      rintro e w1 ⟨rfl, hb1⟩
      go_wp2_with fail
      refine (HFew.out _ (HU0.out.below hb1 (Nat.le_refl _))).mono ?_
      rintro e w2 ⟨rfl, hb2⟩
      go_wp2_with fail
      go_ret
      exact ⟨rfl, Below.then hb1 hb2⟩
    · rw [hf] at HFew
      have hg2 : ¬ (n1 ≤ 100 ∧ 0 ≤ wh ∧ wh ≤ 100) := fun h => hgood ⟨hf, h⟩
      have hcase : 100 < n1 ∨ (n1 ≤ 100 ∧ wh < 0) ∨ (n1 ≤ 100 ∧ ¬ wh < 0 ∧ 100 < wh) := by omega
      clear hgood hf hg2
      rcases hcase with h1 | ⟨h1, h2⟩ | ⟨h1, h2, h3⟩
      all_goals
        first | (have y1 : (100 : Int) < (n1 : Int) := by omega) | (have y1 : ¬ (100 : Int) < (n1 : Int) := by omega)
        go_enter Try.func8, Try.ntmps8
        go_wp2_with fail
        refine (awake28_any _).mono ?_
        rintro e w1 ⟨rfl, hb1⟩
        go_wp2_with fail
        refine (HFew.out _ (HU0.out.below hb1 (Nat.le_refl _))).mono ?_
        rintro e w2 ⟨rfl, hb2⟩
        go_wp2_with fail
        go_ret
        exact ⟨rfl, Below.then hb1 hb2⟩
  · obtain ⟨hf, hk, hw0, hw1⟩ := hgood
    rw [hf] at HFew
    have hn40 := (HFw.out hf).1
    have y1 : ¬ (100 : Int) < (n1 : Int) := by omega
    have y2 : ¬ wh < 0 := by omega
    have y3 : ¬ (100 : Int) < wh := by omega
    have HNw := Lib.hid (fun W => new_any 4 (by omega) (by omega) W)
    unfold NewPost at HNw
    clear hf hw0 hw1
    go_enter Try.func8, Try.ntmps8
    go_wp2_with fail
    refine (awake28_any _).mono ?_
    rintro e w1 ⟨rfl, hb1⟩
    go_wp2_with fail
    refine (HFew.out _ (HU0.out.below hb1 (Nat.le_refl _))).mono ?_
    rintro e w2 ⟨rfl, hb2⟩
    have B2 := Lib.hid (Below.then hb1 hb2)
    clear hb1 hb2 HFew
    go_wp2_with fail
    refine (HNw.out _).mono ?_
    rintro e w3 ⟨g, gs, rfl, hg, hgs, hP, hb⟩
    have B3 := Lib.hid (Below.then B2.out hb)
    have P3 := Lib.hid hP
    have G3 := Lib.hid (And.intro (Nat.le_trans B2.out.size hg) (Nat.le_trans B2.out.size hgs))
    clear hg hgs hP hb HNw B2
    have r9 : row ((w3.alloc (.cells #[.int .u8 0, .int .u8 0, .int .u8 0, .int .u8 0] 69)).alloc (.cells #[nilV, nilV, nilV, nilV] 70)) w3.heap.size = some (byA [0, 0, 0, 0]) := (row_past _ _ _ (by rw [World.size_alloc]; omega)).trans (row_at _ _ _ _ rfl)
    have r10 : row ((w3.alloc (.cells #[.int .u8 0, .int .u8 0, .int .u8 0, .int .u8 0] 69)).alloc (.cells #[nilV, nilV, nilV, nilV] 70)) (w3.heap.size + 1) = some [nilV, nilV, nilV, nilV].toArray := row_at _ _ _ _ (by rw [World.size_alloc])
    have hB34 : Below w3.heap.size w3 ((w3.alloc (.cells #[.int .u8 0, .int .u8 0, .int .u8 0, .int .u8 0] 69)).alloc (.cells #[nilV, nilV, nilV, nilV] 70)) := (by (repeat (first | exact Below.refl _ _ | assumption | (refine Below.allocT ?_ _) | refine Below.drew ?_ | refine below_drewN ?_ _ | (refine Below.then ?_ (by assumption)) | (refine Below.setRow ?_ ?_ _; rotate_left; (focus (first | exact Nat.lt_succ_self _ | ((repeat rw [World.size_alloc]); omega) | (simp; done) | (simp; omega) | omega))) | (refine Below.setCell ?_ ?_ _; rotate_left; (focus (first | exact Nat.lt_succ_self _ | ((repeat rw [World.size_alloc]); omega) | (simp; done) | (simp; omega) | omega))) | (refine Below.then' ?_ (by assumption) ?_; rotate_left; (focus (first | exact Nat.lt_succ_self _ | ((repeat rw [World.size_alloc]); omega) | (simp; done) | (simp; omega) | omega))) | fail)); (first | done | fail))
    have hB04 : Below w.heap.size w ((w3.alloc (.cells #[.int .u8 0, .int .u8 0, .int .u8 0, .int .u8 0] 69)).alloc (.cells #[nilV, nilV, nilV, nilV] 70)) := Below.then B3.out hB34
    have M4 : Hid (Mem28 w.heap.size g w3.heap.size (w3.heap.size + 1) (newPs 4) [0, 0, 0, 0] [nilV, nilV, nilV, nilV] [[], [], [], []] ((w3.alloc (.cells #[.int .u8 0, .int .u8 0, .int .u8 0, .int .u8 0] 69)).alloc (.cells #[nilV, nilV, nilV, nilV] 70))) := Lib.hid ⟨⟨gs, _, none, 0, P3.out.stay hB34, fun x hx => by
        have hlt := P3.out.blocks x hx
        refine ⟨?_, by omega, by omega, fun i hi => ?_⟩
        · rcases hx with rfl | rfl | hx | ⟨a, ha, _⟩
          · exact G3.out.1
          · exact G3.out.2
          · cases hx
          · cases ha
        · match i, hi with
          | 0, _ => simp [Value.ownBlock]
          | 1, _ => simp [Value.ownBlock]
          | 2, _ => simp [Value.ownBlock]
          | 3, _ => simp [Value.ownBlock]
          | k + 4, h => omega⟩, r9, r10, rfl, rfl, fun i hi => (by
        match i, hi with
        | 0, _ => exact OwnB.nil _
        | 1, _ => exact OwnB.nil _
        | 2, _ => exact OwnB.nil _
        | 3, _ => exact OwnB.nil _
        | k + 4, h => omega), fun i j hi hj _ => (by
        match i, hi with
        | 0, _ => exact Apart.nil _
        | 1, _ => exact Apart.nil _
        | 2, _ => exact Apart.nil _
        | 3, _ => exact Apart.nil _
        | k + 4, h => omega), fun i hi k hk => (by
        match i, hi with
        | 0, _ => cases hk
        | 1, _ => cases hk
        | 2, _ => cases hk
        | 3, _ => cases hk
        | k + 4, h => omega), by omega, B3.out.size, by have := B3.out.size; omega⟩
    have I4 : Hid (Inv28 (newPs 4) [0, 0, 0, 0] [[], [], [], []]) := Lib.hid ⟨rfl, rfl, rfl, [], by simp, rfl, fun i hi => by
        match i, hi with
        | 0, _ => rfl
        | 1, _ => rfl
        | 2, _ => rfl
        | 3, _ => rfl
        | k + 4, h => omega⟩
    have HB4 := Lib.hid hB04
    clear r9 r10 hB34 hB04 B3 P3 G3
    go_wp2_with fail
    change Calls _ _ _ ((w3.alloc (.cells #[.int .u8 0, .int .u8 0, .int .u8 0, .int .u8 0] 69)).alloc (.cells #[nilV, nilV, nilV, nilV] 70)) _
    generalize ((w3.alloc (.cells #[.int .u8 0, .int .u8 0, .int .u8 0, .int .u8 0] 69)).alloc (.cells #[nilV, nilV, nilV, nilV] 70)) = w4 at *
    obtain ⟨g9, hg9⟩ : ∃ g9, g9 = w3.heap.size := ⟨_, rfl⟩
    obtain ⟨g10, hg10⟩ : ∃ g10, g10 = w3.heap.size + 1 := ⟨_, rfl⟩
    rw [← hg10, ← hg9] at M4
    obtain ⟨gs4, pv4, A4, c4, hp4, hF4⟩ := M4.out.pl
    have HArm := Lib.hid (arm_any g gs4 pv4 A4 c4 (newPs 4) wh HWh.out A1 n1 c1 xs1 HN1.out (by omega) w4 hp4 (HU1.out.below HB4.out (Nat.le_refl _)))
    have HF4 := Lib.hid hF4
    clear hp4 hF4
    refine (HArm.out).mono ?_
    rintro e w5 ⟨rfl, hT⟩
    obtain ⟨m5, b5⟩ := M4.out.plate HB4.out.size HF4.out hT
    have M5 := Lib.hid m5
    have B5 := Lib.hid (HB4.out.trans b5)
    have harm : ((newPs 4).arm wh xs1).sure = (newPs 4).sure ∧ ((newPs 4).arm wh xs1).pend = [] := ⟨rfl, rfl⟩
    have I5 := Lib.hid (I4.out.same harm.1 harm.2)
    have F5 : Hid (((newPs 4).arm wh xs1).pend.length ≤ 0) := Lib.hid (by rw [harm.2]; exact Nat.le_refl _)
    clear hT m5 b5 harm HArm HF4 M4 I4 HB4
    generalize (newPs 4).arm wh xs1 = s5 at *
    go_wp2_with fail
    rw [← hg10, ← hg9]
    clear hg9 hg10
    go_loopw [52] (fun i wr => ∃ (j : Nat) (s : Ps) (ls : List Nat) (mvs : List Value) (ms : List (List Nat)), i = .int .i64 j ∧ j ≤ n0 ∧ Hid (Mem28 w.heap.size g g9 g10 s ls mvs ms wr) ∧ Hid (Inv28 s ls ms) ∧ Hid (Below w.heap.size w wr) ∧ Hid (s.pend.length ≤ j)) (fun i _ => n0 - (intOf i).toNat)
    case atStart => exact ⟨0, s5, _, _, _, rfl, by omega, M5, I5, B5, F5⟩
    case round =>
      clear M5 I5 B5 F5
      obtain ⟨j, s, ls, mvs, ms, rfl, hj, hM, hI, hB, hL⟩ := hrel
      by_cases hlt : j < n0
      · obtain ⟨bU, off, rfl, hbb, hcell⟩ := HU0.out (by rw [HN0.out]; omega)
        obtain ⟨o, hxj⟩ : ∃ o, xs0[j]? = some o := ⟨_, List.getElem?_eq_getElem (by rw [HN0.out]; omega)⟩
        obtain ⟨k0, k1, k2, k3, k4⟩ := op28_cells (range_below (hcell j _ hxj) hB.out hbb)
        obtain ⟨kd, oi, ob, osh, oA, oc, okp⟩ := o
        obtain ⟨a, ha, hand⟩ := and3 oi
        change wr.cell? _ = some (.int .i64 kd) at k0
        change wr.cell? _ = some (.int .i64 oi) at k1
        change wr.cell? _ = some (.int .u8 ob) at k2
        change wr.cell? _ = some (.bool osh) at k3
        change wr.cell? _ = some (.slice oA okp.length oc) at k4
        generalize okp.length = okl at *
        have rV : row (wr.alloc (.cells #[.int .i64 kd, .int .i64 oi, .int .u8 ob, .bool osh, .slice oA okl oc] 73)) wr.heap.size = some #[.int .i64 kd, .int .i64 oi, .int .u8 ob, .bool osh, .slice oA okl oc] := row_at _ _ _ _ rfl
        have v0 : (wr.alloc (.cells #[.int .i64 kd, .int .i64 oi, .int .u8 ob, .bool osh, .slice oA okl oc] 73)).cell? ⟨wr.heap.size, 0, none⟩ = some (.int .i64 kd) := row_cell rV 0
        have v1 : (wr.alloc (.cells #[.int .i64 kd, .int .i64 oi, .int .u8 ob, .bool osh, .slice oA okl oc] 73)).cell? ⟨wr.heap.size, 1, none⟩ = some (.int .i64 oi) := row_cell rV 1
        have v2 : (wr.alloc (.cells #[.int .i64 kd, .int .i64 oi, .int .u8 ob, .bool osh, .slice oA okl oc] 73)).cell? ⟨wr.heap.size, 2, none⟩ = some (.int .u8 ob) := row_cell rV 2
        obtain ⟨gsV, pvV, AV, cV, hpR, hFV⟩ := hM.out.pl
        have hltR := Lib.hid hpR.blocks
        have HFV := Lib.hid hFV
        have hb1 : Below wr.heap.size wr (wr.alloc (.cells #[.int .i64 kd, .int .i64 oi, .int .u8 ob, .bool osh, .slice oA okl oc] 73)) := (by (repeat (first | exact Below.refl _ _ | assumption | (refine Below.allocT ?_ _) | refine Below.drew ?_ | refine below_drewN ?_ _ | (refine Below.then ?_ (by assumption)) | (refine Below.setRow ?_ ?_ _; rotate_left; (focus (first | exact Nat.lt_succ_self _ | ((repeat rw [World.size_alloc]); omega) | (simp; done) | (simp; omega) | omega))) | (refine Below.setCell ?_ ?_ _; rotate_left; (focus (first | exact Nat.lt_succ_self _ | ((repeat rw [World.size_alloc]); omega) | (simp; done) | (simp; omega) | omega))) | (refine Below.then' ?_ (by assumption) ?_; rotate_left; (focus (first | exact Nat.lt_succ_self _ | ((repeat rw [World.size_alloc]); omega) | (simp; done) | (simp; omega) | omega))) | fail)); (first | done | fail))
        have MV := Lib.hid (hM.out.stay hb1)
        have BV := Lib.hid (Below.then hB.out hb1)
        have RV := Lib.hid rV
        have z1 : (0 : Int) ≤ (j : Int) := by omega
        have z2 : (j : Int) < (n0 : Int) := by omega
        have PV := Lib.hid (hpR.stay hb1)
        clear hcell hxj hM hB hb1 rV hpR hFV
        by_cases h1 : kd = 1
        · subst h1
          have HDn := Lib.hid (down_any g gsV pvV AV cV s _ PV.out)
          by_cases hdn : s.down = true
          · rw [hdn] at HDn
            clear hdn
            go_wp2_with fail
            refine (HDn.out).mono ?_
            rintro e w6 ⟨rfl, rfl⟩
            go_wp2_with fail
            exact ⟨⟨j + 1, s, ls, mvs, ms, by go_num, by omega, MV, hI, BV, Lib.hid (by have := hL.out; omega)⟩, by simp [intOf]; omega⟩
          · have hdn' : s.down = false := by simpa using hdn
            rw [hdn'] at HDn
            have HWr := Lib.hid (fun W g5 (hg : wr.heap.size < g5) (hb : Below _ _ W) (hr : row W g5 = some (secC (fullS ob)).toArray) => write_any g gsV pvV AV cV s a (by rw [hI.out.sure, List.length_map, hI.out.l]; exact ha) (fullS ob) (some ⟨g5, 0, none⟩) 64 hdn' (by have := hL.out; omega) W (PV.out.stay hb) (sec_bys hr) (fun x hx hp => by
              cases hx
              have h4 : (⟨g5, 0, none⟩ : Addr).block = g5 := rfl
              have := hltR.out _ hp
              omega))
            obtain ⟨hws, hwp⟩ := Ps.write_facts s PV.out.ok (a, fullS ob)
            have HWF := Lib.hid (And.intro hws hwp)
            clear hdn hdn' hws hwp
            go_wp2_with fail
            refine (HDn.out).mono ?_
            rintro e w6 ⟨rfl, rfl⟩
            go_wp2_with fail
            refine (full_any ob _).mono ?_
            rintro e w6 ⟨g5, rfl, hg5, hr5, hb5⟩
            rw [World.size_alloc] at hg5
            have HC6 := Lib.hid (HWr.out w6 g5 (by omega) hb5 hr5)
            have M6 := Lib.hid (MV.out.stay hb5)
            have B6 := Lib.hid (Below.then BV.out hb5)
            have R6 := Lib.hid ((row_below hb5 (row_lt RV.out)).trans RV.out)
            clear hg5 hr5 hb5 HWr MV BV HDn v0 v1 v2
            go_wp2_with fail
            refine (HC6.out).mono ?_
            rintro e w7 ⟨rfl, hT⟩
            have hC7 : Chg (PS g gsV pvV AV) w6 w7 := by obtain ⟨_, _, _, _, _, _, q3⟩ := hT; exact q3
            obtain ⟨m7, b7⟩ := M6.out.plate B6.out.size HFV.out hT
            have r7 := (hC7.row (row_lt R6.out) (fun hx => by have := hltR.out _ hx; omega)).trans R6.out
            have B7 := Lib.hid (B6.out.trans b7)
            have M7 := Lib.hid m7
            have I7 := Lib.hid (hI.out.push ha HWF.out.1 HWF.out.2)
            have L7 : Hid ((s.write (a, fullS ob)).2.pend.length ≤ j + 1) := Lib.hid (by rw [HWF.out.2, List.length_append]; have := hL.out; simp; omega)
            have hfew := hI.out.few ha
            have hfew2 := hL.out
            have hm4 := hI.out.m
            generalize (s.write (a, fullS ob)).2 = s7 at *
            generalize hgop : wr.heap.size = gop at *
            have hb8 : Below w7.heap.size w7 (w7.alloc (.cells #[.int .u8 (ob : Int)] 5)).drew := (by (repeat (first | exact Below.refl _ _ | assumption | (refine Below.allocT ?_ _) | refine Below.drew ?_ | refine below_drewN ?_ _ | (refine Below.then ?_ (by assumption)) | (refine Below.setRow ?_ ?_ _; rotate_left; (focus (first | exact Nat.lt_succ_self _ | ((repeat rw [World.size_alloc]); omega) | (simp; done) | (simp; omega) | omega))) | (refine Below.setCell ?_ ?_ _; rotate_left; (focus (first | exact Nat.lt_succ_self _ | ((repeat rw [World.size_alloc]); omega) | (simp; done) | (simp; omega) | omega))) | (refine Below.then' ?_ (by assumption) ?_; rotate_left; (focus (first | exact Nat.lt_succ_self _ | ((repeat rw [World.size_alloc]); omega) | (simp; done) | (simp; omega) | omega))) | fail)); (first | done | fail))
            have M8 := Lib.hid (m7.stay hb8)
            have B8 := Lib.hid (Below.then B7.out hb8)
            obtain ⟨Am, cm, hmv, _, hl1, _⟩ := (m7.own a ha).form
            have O8 := Lib.hid (M8.out.own a ha)
            rw [hmv] at O8
            have HMv := Lib.hid hmv
            have Y8 : Hid (Bys (w7.alloc (.cells #[.int .u8 (ob : Int)] 5)).drew (some ⟨w7.heap.size, 0, none⟩) [ob]) := Lib.hid ((byte_new w7 ob ob rfl).stay (Below.refl _ _).drew)
            have k10 : w7.cell? ⟨g10, a, none⟩ = some (.slice Am (ms.getD a []).length cm) := by
              rw [row_cell m7.r10 a, List.getElem?_toArray, ← hmv, List.getD_eq_getElem?_getD, List.getElem?_eq_getElem (by rw [m7.l2]; exact ha)]; rfl
            have k10' : (w7.alloc (.cells #[.int .u8 (ob : Int)] 5)).cell? ⟨g10, a, none⟩ = some (.slice Am (ms.getD a []).length cm) := (((Below.refl w7.heap.size w7).alloc (Nat.le_refl _) (.cells #[.int .u8 (ob : Int)] 5)).cell (p := ⟨g10, a, none⟩) (row_lt m7.r10)).trans k10
            have kob : w7.cell? ⟨gop, 2, none⟩ = some (.int .u8 ob) := row_cell r7 2
            have kob' : (w7.alloc (.cells #[.int .u8 (ob : Int)] 5)).cell? ⟨gop, 2, none⟩ = some (.int .u8 ob) := (((Below.refl w7.heap.size w7).alloc (Nat.le_refl _) (.cells #[.int .u8 (ob : Int)] 5)).cell (p := ⟨gop, 2, none⟩) (row_lt r7)).trans kob
            generalize hma : ms.getD a [] = ma at *
            generalize hla : ma.length = la at *
            have HMa := Lib.hid hma
            have HLa := Lib.hid hla
            clear hma hla
            have y4 : (0 : Int) ≤ (a : Int) := by omega
            have y5 : (a : Int) < 4 := by omega
            clear hT hC7 m7 b7 r7 hb8 hmv hl1 HC6 M6 B6 R6 HWF
            go_wp2_with fail
            go_region_law ((refine step_appb rfl _ _ (by rfl) (.slice Am la cm) ma [ob] (some ⟨w7.heap.size, 0, none⟩) 1 1 O8.out Y8.out (by rfl) (by rfl) rfl (by rw [List.length_singleton, HLa.out]; omega) ?_; intro v' w9 hAp; obtain ⟨A9, c9, rfl⟩ := hAp.formL (k := la + 1) (by rw [List.length_singleton, HLa.out]); obtain ⟨HM9, k9, f9⟩ := M8.out.may_all B8.out.size ha hm4 HMv.out HMa.out hAp; clear hAp))
            all_goals
              go_wp2_with fail
              exact ⟨⟨j + 1, s7, ls, _, _, by go_num, by omega, Lib.hid HM9.out.1, I7, Lib.hid (B8.out.trans HM9.out.2), L7⟩, by simp [intOf]; omega⟩
        · by_cases h2 : kd = 2
          · subst h2
            have HSy := Lib.hid (sync_any g gsV pvV AV cV s _ PV.out)
            obtain ⟨_, px2, px3, _, _⟩ := Ps.power_ok PV.out.ok
            have PX := Lib.hid (And.intro px2 px3)
            clear px2 px3 h1
            by_cases hp : s.power.1 = true
            rotate_left
            · have hs : s.sync = (280, s.power.2) := by unfold Ps.sync; rw [if_neg hp]
              rw [hs] at HSy
              generalize s.power.2 = s6 at *
              have I6 := Lib.hid (hI.out.same PX.out.1 PX.out.2)
              have L6 : Hid (s6.pend.length ≤ j + 1) := Lib.hid (by rw [PX.out.2]; have := hL.out; omega)
              clear hs hp
              go_wp2_with fail
              refine (HSy.out).mono ?_
              rintro e w6 ⟨rfl, hT⟩
              obtain ⟨m6, b6⟩ := MV.out.plate BV.out.size HFV.out hT
              have M6 := Lib.hid m6
              have B6 := Lib.hid (BV.out.trans b6)
              clear hT m6 b6 v0 v1 v2 HSy
              go_wp2_with fail
              exact ⟨⟨j + 1, s6, ls, mvs, ms, by go_num, by omega, M6, I6, B6, L6⟩, by simp [intOf]; omega⟩
            · have hs : s.sync = (0, { s.power.2 with sure := s.pend.foldl landS s.sure, pend := [] }) := by unfold Ps.sync; rw [if_pos hp]
              rw [hs] at HSy
              obtain ⟨s6, hs6⟩ : ∃ s6, s6 = ({ s.power.2 with sure := s.pend.foldl landS s.sure, pend := [] } : Ps) := ⟨_, rfl⟩
              have I6 := Lib.hid (hI.out.sync (s' := s6) (by rw [hs6]) (by rw [hs6]))
              have L6 : Hid (s6.pend.length ≤ j + 1) := Lib.hid (by rw [hs6]; simp)
              rw [← hs6] at HSy
              have hml4 := hI.out.m
              have hll4 := hI.out.l
              clear hs hp hs6 PX
              go_wp2_with fail
              refine (HSy.out).mono ?_
              rintro e w6 ⟨rfl, hT⟩
              obtain ⟨m6, b6⟩ := MV.out.plate BV.out.size HFV.out hT
              have M6 := Lib.hid m6
              have B6 := Lib.hid (BV.out.trans b6)
              clear hT m6 b6 v0 v1 v2 HSy
              go_wp2_with fail
              go_loopw [85] (fun q wq => ∃ (k : Nat) (mv2 : List Value), q = .int .i64 k ∧ k ≤ 4 ∧ Hid (Mem28 w.heap.size g g9 g10 s6 (lsK ls ms k) mv2 (msK ms k) wq) ∧ Hid (Below w.heap.size w wq)) (fun q _ => 4 - (intOf q).toNat)
              case atStart => exact ⟨0, mvs, rfl, by omega, Lib.hid (by rw [lsK_zero hll4, msK_zero hml4]; exact M6.out), B6⟩
              case round =>
                clear M6 B6
                obtain ⟨k, mv2, rfl, hk4, hM2, hB2⟩ := hrel
                by_cases hk : k < 4
                · obtain ⟨Am, cm, hmv, hby, hl1, _⟩ := (hM2.out.own k hk).form
                  rw [msK_at ms k hk] at hmv hby hl1
                  have k10 := hM2.out.cell10 hk
                  rw [hmv] at k10
                  have f10 := row_frozen hM2.out.r10 k
                  have y4 : (0 : Int) ≤ (k : Int) := by omega
                  have y5 : (k : Int) < 4 := by omega
                  by_cases hz : (ms.getD k []).length = 0
                  · rw [hz] at k10
                    have hstay := lsK_stay ls ms k hk (List.eq_nil_of_length_eq_zero hz)
                    obtain ⟨m8, b8⟩ := hM2.out.may hB2.out.size k hk (grow_self _ _) nilV [] (msK_len ..) (OwnB.nil _) (.inr (.inr rfl))
                    rw [← msK_succ ms k hk, ← hstay] at m8
                    have M8 := Lib.hid m8
                    have B8 := Lib.hid (hB2.out.trans b8)
                    clear m8 b8 hstay hby hl1 hmv
                    go_wp2_with fail
                    exact ⟨⟨k + 1, _, by go_num, by omega, M8, B8⟩, by simp [intOf]; omega⟩
                  · obtain ⟨p, hp⟩ : ∃ p, (ms.getD k []).length = p + 1 := ⟨(ms.getD k []).length - 1, by omega⟩
                    obtain ⟨mb, mo, rfl, hmb, hmc⟩ := hby (by omega)
                    have kb := hmc p (by omega)
                    have hnw : nw28 ls ms k = (ms.getD k []).getD p 0 := last_getD hp _
                    rw [← hnw] at kb
                    rw [hp] at k10
                    have hmb9 : mb ≠ g9 ∧ mb ≠ g10 := (hM2.out.ob k hk mb (by rw [hmv]; rfl)).2
                    obtain ⟨m7, b7⟩ := (hM2.out.stay (Below.refl wr.heap.size wr).drew).sure k (nw28 ls ms k)
                    rw [← lsK_succ ls ms k hk] at m7
                    have k9 := hM2.out.cell9 hk
                    have f9 := row_frozen hM2.out.r9 k
                    have hc9 : Chg (fun y => y = g9) wr (wr.drew.setCell ⟨g9, k, none⟩ (.int .u8 ((nw28 ls ms k : Nat) : Int))) := ((Chg.refl (fun y => y = g9) wr).drew).setCell (p := ⟨g9, k, none⟩) (.inl rfl) _
                    have s10 := (hc9.cell (row_lt hM2.out.r10) (fun e => hM2.out.ne e.symm) k).trans k10
                    have sb := (hc9.cell hmb hmb9.1 (mo + p)).trans kb
                    have f10' := row_frozen m7.r10 k
                    obtain ⟨m8, b8⟩ := m7.may (Nat.le_trans hB2.out.size hc9.size) k hk (grow_self _ _) nilV [] (msK_len ..) (OwnB.nil _) (.inr (.inr rfl))
                    rw [← msK_succ ms k hk] at m8
                    have M8 := Lib.hid m8
                    have B8 := Lib.hid (hB2.out.drew.trans (b7.trans b8))
                    have z5 : (p : Int) < (p : Int) + 1 := by omega
                    have z6 : (0 : Int) ≤ (p : Int) := by omega
                    have E1 : IntKind.i64.wrap ((p : Int) + 1 - 1) = (p : Int) := by rw [IntKind.wrap_i64]; omega
                    have E2 : IntKind.i64.wrap (p : Int) = (p : Int) := by rw [IntKind.wrap_i64]; omega
                    have E3 : ((p : Int)).toNat = p := by omega
                    generalize nw28 ls ms k = nl at *
                    clear m7 m8 b7 b8 hby hl1 hmv hmc hp hz hnw hmb hc9
                    go_wp2_with fail
                    go_region_held3 (fun w' => w'.cell? ⟨g10, k, none⟩ = some (.slice (some ⟨mb, mo, none⟩) (p + 1) cm) ∧ w'.cell? ⟨mb, mo + p, none⟩ = some (.int .u8 (nl : Int))) (first | exact ⟨k10, kb⟩ | exact ⟨s10, sb⟩ | fail) (fail)
                    go_wp2_with fail
                    exact ⟨⟨k + 1, _, by go_num, by omega, M8, B8⟩, by simp [intOf]; omega⟩
                · obtain rfl : k = 4 := by omega
                  go_wp2_with fail
                  exact ⟨⟨j + 1, s6, _, mv2, _, by go_num, by omega, hM2, I6, hB2, L6⟩, by simp [intOf]; omega⟩
          · have e1 : (kd == 1) = false := beq_eq_false_iff_ne.2 h1
            have e2 : (kd == 2) = false := beq_eq_false_iff_ne.2 h2
            clear h1 h2
            go_wp2_with fail
            exact ⟨⟨j + 1, s, ls, mvs, ms, by go_num, by omega, MV, hI, BV, Lib.hid (by have := hL.out; omega)⟩, by simp [intOf]; omega⟩
      · obtain rfl : j = n0 := by omega
        obtain ⟨gsU, pvU, AU, cU, hpU, hFU⟩ := hM.out.pl
        have HUp := Lib.hid (up_any g gsU pvU AU cU s wr hpU)
        have HFU := Lib.hid hFU
        obtain ⟨L, hL4, hLs, hLp, hLd, hLx⟩ := hI.out.up
        have HLx := Lib.hid hLx
        have HLs := Lib.hid hLs
        have HLp := Lib.hid hLp
        have HLd := Lib.hid hLd
        have hml4 := hI.out.m
        clear hpU hFU hLx hLs hLp hLd
        go_wp2_with fail
        refine (HUp.out).mono ?_
        rintro e w6 ⟨rfl, hT⟩
        obtain ⟨m6, b6⟩ := hM.out.plate hB.out.size HFU.out hT
        have M6 := Lib.hid m6
        have B6 := Lib.hid (hB.out.trans b6)
        clear hT m6 b6 HUp hM hB hL
        generalize s.up = s6 at *
        go_wp2_with fail
        go_loopw [111] (fun q wq => ∃ k : Nat, q = .int .i64 k ∧ k ≤ 4 ∧ Hid (Mem28 w.heap.size g g9 g10 s6 ls mvs ms wq) ∧ Hid (Below w.heap.size w wq)) (fun q _ => 4 - (intOf q).toNat)
        case atStart => exact ⟨0, rfl, by omega, M6, B6⟩
        case round =>
          clear M6 B6
          obtain ⟨k, rfl, hk4, hM2, hB2⟩ := hrel
          by_cases hk : k < 4
          · obtain ⟨gs7, pv7, A7, c7, hp7, _⟩ := hM2.out.pl
            obtain ⟨x, hx⟩ : ∃ x, x = L.getD k 0 := ⟨_, rfl⟩
            have hsx : s6.sure[k]? = some (fullS x) := by
              rw [HLs.out, List.getElem?_map, hx, List.getD_eq_getElem?_getD, List.getElem?_eq_getElem (by rw [hL4]; exact hk)]; rfl
            have HRd := Lib.hid (read_any g gs7 pv7 A7 c7 s6 k (fullS x) hsx HLd.out wr hp7)
            rw [HLp.out] at HRd
            unfold ReadPost8 at HRd
            have HXx := Lib.hid (HLx.out k hk)
            rw [← hx] at HXx
            have y4 : (0 : Int) ≤ (k : Int) := by omega
            have y5 : (k : Int) < 4 := by omega
            clear hp7 hsx hx
            go_wp2_with fail
            refine (HRd.out).mono ?_
            rintro e w7 ⟨B, cB, rfl, hO, hA, hb⟩
            have M7 := Lib.hid (hM2.out.stay hb)
            have B7 := Lib.hid (Below.then hB2.out hb)
            obtain ⟨A', c', eq', hby, _⟩ := hO.form
            rw [Value.slice.injEq] at eq'
            rw [← eq'.1] at hby
            have HBy : Hid (Bys w7 B (fullS x).1) := Lib.hid hby
            obtain ⟨bb, bo, rfl, hbb, hbc⟩ := hby (by show 0 < (fullS x).1.length; rw [(fullS x).2]; omega)
            have kb0 : w7.cell? ⟨bb, bo, none⟩ = some (.int .u8 (x : Int)) := hbc 0 (by show 0 < (fullS x).1.length; rw [(fullS x).2]; omega)
            clear hO hA hb eq' hbc HRd hM2 hB2
            go_wp2_with fail
            refine (full_any x _).mono ?_
            rintro e w8 ⟨g8, rfl, hg8, hr8, hb8⟩
            have M8 := Lib.hid (M7.out.stay hb8)
            have B8 := Lib.hid (Below.then B7.out hb8)
            have Y8 := Lib.hid (HBy.out.stay hb8)
            have Z8 := Lib.hid (sec_bys hr8)
            have kb8 := (hb8.cell (p := ⟨bb, bo, none⟩) hbb).trans kb0
            have hbb8 := Nat.lt_of_lt_of_le hbb hb8.size
            clear hg8 hr8 hb8 M7 B7 HBy kb0 hbb
            go_wp2_with fail
            refine (same5_any (some ⟨bb, bo, none⟩) (some ⟨g8, 0, none⟩) (fullS x).1 (fullS x).1 64 cB 64 64 (fullS x).2 (fullS x).2 (by omega) (by omega) _ Y8.out Z8.out).mono ?_
            rintro e w9 ⟨rfl, hb9⟩
            have hself : sameL (fullS x).1 (fullS x).1 = true := by simp [sameL]
            rw [hself]
            have M9 := Lib.hid (M8.out.stay hb9)
            have B9 := Lib.hid (Below.then B8.out hb9)
            have kb9 := (hb9.cell (p := ⟨bb, bo, none⟩) hbb8).trans kb8
            have k9 := M9.out.cell9 hk
            clear hb9 hself M8 B8 Y8 Z8 kb8 hbb8
            generalize ls.getD k 0 = lk at *
            obtain ⟨Am, cm, hmv, hmy, hl1, _⟩ := (M9.out.own k hk).form
            have k10 := M9.out.cell10 hk
            rw [hmv] at k10
            generalize ms.getD k [] = ma at *
            obtain ⟨lm, hlm⟩ : ∃ lm, lm = ma.length := ⟨_, rfl⟩
            rw [← hlm] at k10 hl1
            have HMy := Lib.hid hmy
            have HLm := Lib.hid hlm.symm
            have kbl := World.block_lt_of_cell? w9 _ kb9
            have kbl' : bb < w9.heap.size := kbl
            clear hmv hmy hlm kbl
            go_wp2_with fail
            go_quiet (fail)
            go_wp2_with fail
            go_loopw [18, 147] (fun ok q wq => ∃ (jj : Nat) (b1 : Bool), q = .int .i64 jj ∧ jj ≤ lm ∧ ok = .bool b1 ∧ Hid (b1 = decide (x = lk ∨ x ∈ ma.take jj)) ∧ Hid (Below w9.heap.size w9 wq)) (fun _ q _ => lm - (intOf q).toNat)
            case atStart => exact ⟨0, _, rfl, by omega, rfl, Lib.hid (by
              rw [List.take_zero]
              by_cases h : x = lk
              · subst h; simp
              · have h2 : ((x : Int) == (lk : Int)) = false := beq_eq_false_iff_ne.2 (by omega)
                rw [h2]; simp [h]), Lib.hid (by first | exact below_drewN (Below.refl _ _) _ | exact (Below.refl _ _).drew)⟩
            case round =>
              obtain ⟨jj, b1, rfl, hjj, rfl, hb1, hBq⟩ := hrel
              have kbq := (hBq.out.cell (p := ⟨bb, bo, none⟩) kbl').trans kb9
              by_cases hlt : jj < lm
              · obtain ⟨mb, mo, rfl, hmb, hmc⟩ := HMy.out (by rw [HLm.out]; omega)
                have ky := (hBq.out.cell (p := ⟨mb, mo + jj, none⟩) hmb).trans (hmc jj (by rw [HLm.out]; exact hlt))
                have htk := Lib.hid (show ma.take (jj + 1) = ma.take jj ++ [ma.getD jj 0] by
                  rw [List.take_succ_eq_append_getElem (by rw [HLm.out]; exact hlt), List.getD_eq_getElem?_getD, List.getElem?_eq_getElem (by rw [HLm.out]; exact hlt)]; rfl)
                have z1 : (0 : Int) ≤ (jj : Int) := by omega
                have z2 : (jj : Int) < (lm : Int) := by omega
                clear hmc k10
                generalize ma.getD jj 0 = y at *
                cases b1
                · have hno := of_decide_eq_false hb1.out.symm
                  have HV : Hid (((x : Int) == (y : Int)) = decide (x = lk ∨ x ∈ ma.take (jj + 1))) := Lib.hid (by
                    rw [htk.out]
                    by_cases h : x = y
                    · subst h
                      simp
                    · have h2 : ((x : Int) == (y : Int)) = false := beq_eq_false_iff_ne.2 (by omega)
                      rw [h2]
                      refine (decide_eq_false fun h3 => ?_).symm
                      rcases h3 with h3 | h3
                      · exact hno (.inl h3)
                      · rcases List.mem_append.1 h3 with h3 | h3
                        · exact hno (.inr h3)
                        · exact h (List.mem_singleton.1 h3))
                  clear hno
                  go_wp2_with fail
                  exact ⟨⟨jj + 1, _, by go_num, by omega, rfl, HV, hBq⟩, by simp [intOf]; omega⟩
                · have HV : Hid (true = decide (x = lk ∨ x ∈ ma.take (jj + 1))) := Lib.hid (by
                    have hyes := of_decide_eq_true hb1.out.symm
                    rw [htk.out]
                    exact (decide_eq_true (hyes.imp id (fun h => List.mem_append_left _ h))).symm)
                  go_wp2_with fail
                  exact ⟨⟨jj + 1, _, by go_num, by omega, rfl, HV, hBq⟩, by simp [intOf]; omega⟩
              · obtain rfl : jj = lm := by omega
                have hbt : b1 = true := by
                  rw [hb1.out, List.take_of_length_le (by rw [HLm.out]; exact Nat.le_refl _)]
                  exact decide_eq_true HXx.out
                subst hbt
                have Mq := Lib.hid (M9.out.stay hBq.out)
                have Bq := Lib.hid (Below.then B9.out hBq.out)
                go_wp2_with fail
                exact ⟨⟨k + 1, by go_num, by omega, Mq, Bq⟩, by simp [intOf]; omega⟩
          · obtain rfl : k = 4 := by omega
            go_wp2_with fail
            go_ret
            exact ⟨rfl, hB2.out⟩
end Go.Proofs.Yteppkbjjldnniaa

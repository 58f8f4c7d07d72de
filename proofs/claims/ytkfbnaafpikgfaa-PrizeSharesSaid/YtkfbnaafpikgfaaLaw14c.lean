/-
  Layer 14: of any parameters and any standings the weights and the prizes are the document's.
-/
import Derived.Test.YtkfbnaafpikgfaaPrize5
import Derived.Test.YtkfbnaafpikgfaaOwnC
import Derived.Test.YtkfbnaafpikgfaaCalm
namespace Go.Proofs.Ytkfbnaafpikgfaa
open Go.RowKit
set_option linter.unusedVariables false

theorem row_grown {w w' : World} {r : Option Nat} (hg : w.grownBy w' r) {k : Nat} (hk : k < w.heap.size) (hn : some k ≠ r) : row w' k = row w k := by
  unfold row; rw [hg.block k hk hn]
theorem rsts_under : Try.prog.underlying 46 = some (.slice 49) := by kernel_rfl
theorem rst_three : (Try.prog.info? 49).map (fun i => (i.zero, i.size, i.bytes)) = some (some (.agg #[.int .u64 0, .int .u64 0, .int .u64 0, .int .i64 0]), 4, 32) := by kernel_rfl
abbrev OwnS (W : World) (B : Nat) (v : Value) (l : List St) : Prop := OwnC 49 4 St.cells W B v l
theorem sameB_self (l : List Nat) : sameB l l = true := by simp [sameB]
set_option maxRecDepth 100000 in
set_option maxHeartbeats 6000000 in
theorem prizeShares_no (P : Par) (t : Nat) (A : Option Addr) (n c : Nat) (xs : List St) (ht : t < 18446744073709551616) (hn : xs.length = n) (hm : n ≤ 200) (hr : rightB P = false) (w : World) (hU : SliceOf 4 St.cells w A xs) :
    Calls Try.prog 6 #[.agg P.cells, .int .u64 t, .slice A n c] w fun e w' => e = .returned (.bool true) ∧ Below w.heap.size w w' := by
  have r0 : row (w.alloc (.cells P.cells 24)) w.heap.size = some P.cells := row_at _ _ _ _ rfl
  have hB0 : Below w.heap.size w (w.alloc (.cells P.cells 24)) := (by (repeat (first | exact Below.refl _ _ | assumption | (refine Below.allocT ?_ _) | refine Below.drew ?_ | refine below_drewN ?_ _ | (refine Below.then ?_ (by assumption)) | (refine Below.setRow ?_ ?_ _; rotate_left; (focus (first | exact Nat.lt_succ_self _ | ((repeat rw [World.size_alloc]); omega) | (simp; done) | (simp; omega) | omega))) | (refine Below.setCell ?_ ?_ _; rotate_left; (focus (first | exact Nat.lt_succ_self _ | ((repeat rw [World.size_alloc]); omega) | (simp; done) | (simp; omega) | omega))) | (refine Below.then' ?_ (by assumption) ?_; rotate_left; (focus (first | exact Nat.lt_succ_self _ | ((repeat rw [World.size_alloc]); omega) | (simp; done) | (simp; omega) | omega))) | fail)); (first | done | fail))
  have HPz := Lib.hid (fun W (h : SliceOf 4 St.cells W A xs) => prizes_any P t A n c xs ht hn W h)
  unfold PrizesPost at HPz
  have HR := Lib.hid (fun W => right_any P W)
  rw [hr] at HR
  have HV : Hid (prizesE P xs = 70 ∧ prizesL P t xs = [] ∧ prizesR P t xs = 0) := Lib.hid (by
    have hE : prizesE P xs = 70 := by simp [prizesE, hr]
    exact ⟨hE, by simp [prizesL, hE], by simp [prizesR, hE]⟩)
  rw [HV.out.1, HV.out.2.1, HV.out.2.2] at HPz
  have HW := Lib.hid (fun s W => pweight_any P s W)
  have HWV : Hid (∀ s, weightV P s = 0) := Lib.hid (fun s => by simp [weightV, hr])
  have HU := Lib.hid hU
  have HN := Lib.hid hn
  have zn : ¬ (200 : Int) < (n : Int) := by omega
  clear hU hn hr
  go_enter Try.func6, Try.ntmps6
  go_wp2_with fail
  generalize w.alloc (.cells P.cells 24) = w0 at *
  refine (awake14_any _).mono ?_
  rintro e w1 ⟨rfl, hb1⟩
  have r1 := (row_below hb1 (row_lt r0)).trans r0
  have hB1 := Below.then hB0 hb1
  clear r0 hB0 hb1
  go_wp2_with fail
  refine (HPz.out _ (HU.out.below hB1 (Nat.le_refl _))).mono ?_
  rintro e w2 ⟨A2, c2, rfl, hO2, hb2⟩
  have r2 := (row_below hb2 (row_lt r1)).trans r1
  have hB2 := Below.then hB1 hb2
  have hzz := Nat.le_trans (Nat.le_succ _) (Nat.le_trans (row_lt r1) hb2.size)
  clear r1 hB1 hb2 HPz
  go_wp2_with fail
  refine (plain_any P _).mono ?_
  rintro e w3 ⟨rfl, hb3⟩
  have r3 := (row_below hb3 (row_lt r2)).trans r2
  have hO3 := hO2.stay hb3
  have hB3 := Below.then hB2 hb3
  clear r2 hB2 hb3 hO2
  go_wp2_with fail
  have p4 : row (w3.alloc (.cells P.cells 30)) w3.heap.size = some P.cells := row_at _ _ _ _ rfl
  have r4 : row (w3.alloc (.cells P.cells 30)) w.heap.size = some P.cells := (row_past _ _ _ (row_lt r3)).trans r3
  have hO4 := hO3.stay ((Below.refl _ _).alloc (Nat.le_refl _) (.cells P.cells 30))
  have hB4 := Below.allocT hB3 (.cells P.cells 30)
  clear r3 hO3 hB3
  generalize hg : w3.heap.size = gp at *
  generalize w3.alloc (.cells P.cells 30) = w4 at *
  clear hg
  refine (HR.out _).mono ?_
  rintro e w5 ⟨rfl, hb5⟩
  have r5 := (row_below hb5 (row_lt r4)).trans r4
  have p5 := (row_below hb5 (row_lt p4)).trans p4
  have hO5 := Lib.hid (hO4.stay hb5)
  have hB5 := Lib.hid (Below.then hB4 hb5)
  have U5 := Lib.hid (HU.out.below hB5.out (Nat.le_refl _))
  clear r4 p4 hb5 hO4 hB4 HR HU
  go_wp2_with fail
  go_loopw [37, 12] (fun i v wr => ∃ (j : Nat) (u : Value), i = .int .i64 j ∧ u = v ∧ j ≤ n ∧ Hid (OwnS wr w5.heap.size u (xs.take j)) ∧ Hid (Below w5.heap.size w5 wr)) (fun i _ _ => n - (intOf i).toNat)
  case atStart => exact ⟨0, _, rfl, rfl, by omega, Lib.hid (OwnC.nil _ _), Lib.hid (Below.refl _ _)⟩
  case round =>
    obtain ⟨j, u, rfl, rfl, hj, hO, hB⟩ := hrel
    by_cases hlt : j < n
    · obtain ⟨b, off, rfl, hbb, hcell⟩ := U5.out (by rw [HN.out]; omega)
      obtain ⟨s, hxj⟩ : ∃ s, xs[j]? = some s := ⟨_, List.getElem?_eq_getElem (by rw [HN.out]; omega)⟩
      obtain ⟨k0, k1, k2, k3⟩ := st_range (range_below (hcell j _ hxj) hB.out hbb)
      have HS : Hid (xs.take (j + 1) = xs.take j ++ [s]) := Lib.hid (by
        have hj' : j < xs.length := by rw [HN.out]; exact hlt
        have : xs[j] = s := by rw [List.getElem?_eq_getElem hj'] at hxj; exact Option.some.inj hxj
        rw [List.take_succ_eq_append_getElem hj', this])
      have hlen : (xs.take j).length = j := by rw [List.length_take, HN.out]; omega
      have HLen := Lib.hid hlen
      have z1 : (0 : Int) ≤ (j : Int) := by omega
      have z2 : (j : Int) < (n : Int) := by omega
      have rr := Lib.hid ((row_below hB.out (row_lt r5)).trans r5)
      have pr := Lib.hid ((row_below hB.out (row_lt p5)).trans p5)
      have HWs := Lib.hid (fun W => HW.out s W)
      rw [HWV.out s] at HWs
      have VO : Hid (∀ w', Below wr.heap.size wr w' → OwnS w' w5.heap.size u (xs.take j) ∧ w5.heap.size ≤ w'.heap.size ∧ Below w5.heap.size w5 w') := Lib.hid fun w' h => ⟨hO.out.stay h, Nat.le_trans hB.out.size h.size, hB.out.trans (h.mono hB.out.size)⟩
      have hne : ∀ k, wr.heap.size ≤ k → some k ≠ u.ownBlock := fun k hk he => by have := (hO.out.lt k he.symm).2; omega
      have HNe := Lib.hid hne
      clear hcell hxj hlen hne
      go_wp2_with (at_builtin; refine wpList_append_c rsts_under rst_three rfl (by decide) (by decide) St.cells_size St.cells_one rfl _ _ rfl w5.heap.size u (xs.take j) rfl (VO.out _ (by (repeat (first | exact Below.refl _ _ | assumption | (refine Below.allocT ?_ _) | refine Below.drew ?_ | refine below_drewN ?_ _ | (refine Below.then ?_ (by assumption)) | (refine Below.setRow ?_ ?_ _; rotate_left; (focus (first | exact Nat.lt_succ_self _ | ((repeat rw [World.size_alloc]); omega) | (simp; done) | (simp; omega) | omega))) | (refine Below.setCell ?_ ?_ _; rotate_left; (focus (first | exact Nat.lt_succ_self _ | ((repeat rw [World.size_alloc]); omega) | (simp; done) | (simp; omega) | omega))) | (refine Below.then' ?_ (by assumption) ?_; rotate_left; (focus (first | exact Nat.lt_succ_self _ | ((repeat rw [World.size_alloc]); omega) | (simp; done) | (simp; omega) | omega))) | fail)); (first | done | fail))).1 _ 1 s rfl (row_at _ _ _ _ (by simp)) j HLen.out (by rw [HLen.out]; omega) (VO.out _ (by (repeat (first | exact Below.refl _ _ | assumption | (refine Below.allocT ?_ _) | refine Below.drew ?_ | refine below_drewN ?_ _ | (refine Below.then ?_ (by assumption)) | (refine Below.setRow ?_ ?_ _; rotate_left; (focus (first | exact Nat.lt_succ_self _ | ((repeat rw [World.size_alloc]); omega) | (simp; done) | (simp; omega) | omega))) | (refine Below.setCell ?_ ?_ _; rotate_left; (focus (first | exact Nat.lt_succ_self _ | ((repeat rw [World.size_alloc]); omega) | (simp; done) | (simp; omega) | omega))) | (refine Below.then' ?_ (by assumption) ?_; rotate_left; (focus (first | exact Nat.lt_succ_self _ | ((repeat rw [World.size_alloc]); omega) | (simp; done) | (simp; omega) | omega))) | fail)); (first | done | fail))).2.1 ?_; intro A' cap w6 hO6 hg6; have hB6 := Lib.hid (below_grown_c (VO.out _ (by (repeat (first | exact Below.refl _ _ | assumption | (refine Below.allocT ?_ _) | refine Below.drew ?_ | refine below_drewN ?_ _ | (refine Below.then ?_ (by assumption)) | (refine Below.setRow ?_ ?_ _; rotate_left; (focus (first | exact Nat.lt_succ_self _ | ((repeat rw [World.size_alloc]); omega) | (simp; done) | (simp; omega) | omega))) | (refine Below.setCell ?_ ?_ _; rotate_left; (focus (first | exact Nat.lt_succ_self _ | ((repeat rw [World.size_alloc]); omega) | (simp; done) | (simp; omega) | omega))) | (refine Below.then' ?_ (by assumption) ?_; rotate_left; (focus (first | exact Nat.lt_succ_self _ | ((repeat rw [World.size_alloc]); omega) | (simp; done) | (simp; omega) | omega))) | fail)); (first | done | fail))).2.2 (Nat.le_refl _) (VO.out _ (by (repeat (first | exact Below.refl _ _ | assumption | (refine Below.allocT ?_ _) | refine Below.drew ?_ | refine below_drewN ?_ _ | (refine Below.then ?_ (by assumption)) | (refine Below.setRow ?_ ?_ _; rotate_left; (focus (first | exact Nat.lt_succ_self _ | ((repeat rw [World.size_alloc]); omega) | (simp; done) | (simp; omega) | omega))) | (refine Below.setCell ?_ ?_ _; rotate_left; (focus (first | exact Nat.lt_succ_self _ | ((repeat rw [World.size_alloc]); omega) | (simp; done) | (simp; omega) | omega))) | (refine Below.then' ?_ (by assumption) ?_; rotate_left; (focus (first | exact Nat.lt_succ_self _ | ((repeat rw [World.size_alloc]); omega) | (simp; done) | (simp; omega) | omega))) | fail)); (first | done | fail))).1 hg6); have s6 : Hid (row w6 wr.heap.size = some s.cells) := Lib.hid ((row_grown hg6 (by simp only [World.size_alloc]; omega) (HNe.out _ (Nat.le_refl _))).trans (by (repeat (first | assumption | (refine row_at _ _ _ _ ?_; first | rfl | (simp only [World.size_alloc]; done) | (simp only [World.size_alloc]; omega)) | (refine (row_past _ _ _ ?_).trans ?_; (focus (first | exact Nat.lt_succ_self _ | ((repeat rw [World.size_alloc]); omega) | (simp; done) | (simp; omega) | omega))) | rw [row_drewN] | rw [row_drew])); (first | done | fail))); have t6 : Hid (row w6 (wr.heap.size + 1) = some s.cells) := Lib.hid ((row_grown hg6 (by simp only [World.size_alloc]; omega) (HNe.out _ (by omega))).trans (by (repeat (first | assumption | (refine row_at _ _ _ _ ?_; first | rfl | (simp only [World.size_alloc]; done) | (simp only [World.size_alloc]; omega)) | (refine (row_past _ _ _ ?_).trans ?_; (focus (first | exact Nat.lt_succ_self _ | ((repeat rw [World.size_alloc]); omega) | (simp; done) | (simp; omega) | omega))) | rw [row_drewN] | rw [row_drew])); (first | done | fail))); have HO6 := Lib.hid hO6; clear hO6 hg6)
      have r6 := (row_below hB6.out (row_lt r5)).trans r5
      have p6 := (row_below hB6.out (row_lt p5)).trans p5
      have HM : Hid (∀ w', Below w6.heap.size w6 w' → row w' w.heap.size = some P.cells ∧ row w' gp = some P.cells ∧ row w' wr.heap.size = some s.cells ∧ row w' (wr.heap.size + 1) = some s.cells) := Lib.hid fun w' h => ⟨(row_below h (row_lt r6)).trans r6, (row_below h (row_lt p6)).trans p6, (row_below h (row_lt s6.out)).trans s6.out, (row_below h (row_lt t6.out)).trans t6.out⟩
      clear r6 p6
      (refine wp_region_calm (by kernel_rfl) (by kernel_rfl) ?_; (repeat (first | go_big_quiet_skip | (go_big_quiet_want; apply calm_val; (focus (intro w' hb'; obtain ⟨c1, c2, c3, c4⟩ := HM.out w' hb'; first | exact par_quiet rfl c1 rfl | exact rpar_quiet rfl c2 rfl | exact st_quiet rfl c3 rfl | exact rst_quiet rfl c4 rfl | (unfold Oper.quietAt; go_simp; first | rfl | (go_at_call 24; exact calm_call hb' (HWs.out _))))); (try simp only [Act.put, List.setIfInBounds_toArray, List.set_cons_zero, List.set_cons_succ]); go_big_quiet_on))); refine wpQuiet_nil ?_; intro w' hb')
      have B7 := Lib.hid (hB6.out.trans (hb'.mono hB6.out.size))
      have O7 := Lib.hid (HO6.out.stay hb')
      go_wp2_with fail
      exact ⟨⟨j + 1, _, by go_num, rfl, by omega, by rw [HS.out]; exact O7, B7⟩, by simp [intOf]; omega⟩
    · obtain rfl : n = j := by omega
      have hO' := hO.out
      rw [List.take_of_length_le (by rw [HN.out]; exact Nat.le_refl _)] at hO'
      obtain ⟨A', c', rfl, h1, _, _⟩ := hO'.form St.cells_size
      have hS := Lib.hid h1
      have B6 := Lib.hid (Below.then hB5.out hB.out)
      have L6 := Lib.hid (hO5.out.stay hB.out)
      have HXL := Lib.hid HN.out
      rw [HN.out]
      clear hO' h1 hO U5
      go_wp2_with fail
      go_ret
      exact ⟨rfl, B6.out⟩
set_option maxRecDepth 100000 in
set_option maxHeartbeats 6000000 in
theorem prizeShares_big (P : Par) (t : Nat) (A : Option Addr) (n c : Nat) (xs : List St) (ht : t < 18446744073709551616) (hn : xs.length = n) (hm : n ≤ 200) (hr : rightB P = true) (hbig : (128 : Int) < (n : Int)) (w : World) (hU : SliceOf 4 St.cells w A xs) :
    Calls Try.prog 6 #[.agg P.cells, .int .u64 t, .slice A n c] w fun e w' => e = .returned (.bool true) ∧ Below w.heap.size w w' := by
  have r0 : row (w.alloc (.cells P.cells 24)) w.heap.size = some P.cells := row_at _ _ _ _ rfl
  have hB0 : Below w.heap.size w (w.alloc (.cells P.cells 24)) := (by (repeat (first | exact Below.refl _ _ | assumption | (refine Below.allocT ?_ _) | refine Below.drew ?_ | refine below_drewN ?_ _ | (refine Below.then ?_ (by assumption)) | (refine Below.setRow ?_ ?_ _; rotate_left; (focus (first | exact Nat.lt_succ_self _ | ((repeat rw [World.size_alloc]); omega) | (simp; done) | (simp; omega) | omega))) | (refine Below.setCell ?_ ?_ _; rotate_left; (focus (first | exact Nat.lt_succ_self _ | ((repeat rw [World.size_alloc]); omega) | (simp; done) | (simp; omega) | omega))) | (refine Below.then' ?_ (by assumption) ?_; rotate_left; (focus (first | exact Nat.lt_succ_self _ | ((repeat rw [World.size_alloc]); omega) | (simp; done) | (simp; omega) | omega))) | fail)); (first | done | fail))
  have HPz := Lib.hid (fun W (h : SliceOf 4 St.cells W A xs) => prizes_any P t A n c xs ht hn W h)
  unfold PrizesPost at HPz
  have HR := Lib.hid (fun W => right_any P W)
  rw [hr] at HR
  have HV : Hid (prizesE P xs = 3 ∧ prizesL P t xs = [] ∧ prizesR P t xs = 0) := Lib.hid (by
    have hE : prizesE P xs = 3 := by unfold prizesE; rw [if_pos hr, if_pos (by omega)]
    exact ⟨hE, by simp [prizesL, hE], by simp [prizesR, hE]⟩)
  rw [HV.out.1, HV.out.2.1, HV.out.2.2] at HPz
  have HW := Lib.hid (fun s W => pweight_any P s W)
  have HWV : Hid (∀ s, weightV P s = weightN P s) := Lib.hid (fun s => by simp [weightV, hr])
  have HRW := Lib.hid (fun s W => rweight_any P s hr W)
  have HU := Lib.hid hU
  have HN := Lib.hid hn
  have zn : ¬ (200 : Int) < (n : Int) := by omega
  clear hU hn hr
  go_enter Try.func6, Try.ntmps6
  go_wp2_with fail
  generalize w.alloc (.cells P.cells 24) = w0 at *
  refine (awake14_any _).mono ?_
  rintro e w1 ⟨rfl, hb1⟩
  have r1 := (row_below hb1 (row_lt r0)).trans r0
  have hB1 := Below.then hB0 hb1
  clear r0 hB0 hb1
  go_wp2_with fail
  refine (HPz.out _ (HU.out.below hB1 (Nat.le_refl _))).mono ?_
  rintro e w2 ⟨A2, c2, rfl, hO2, hb2⟩
  have r2 := (row_below hb2 (row_lt r1)).trans r1
  have hB2 := Below.then hB1 hb2
  have hzz := Nat.le_trans (Nat.le_succ _) (Nat.le_trans (row_lt r1) hb2.size)
  clear r1 hB1 hb2 HPz
  go_wp2_with fail
  refine (plain_any P _).mono ?_
  rintro e w3 ⟨rfl, hb3⟩
  have r3 := (row_below hb3 (row_lt r2)).trans r2
  have hO3 := hO2.stay hb3
  have hB3 := Below.then hB2 hb3
  clear r2 hB2 hb3 hO2
  go_wp2_with fail
  have p4 : row (w3.alloc (.cells P.cells 30)) w3.heap.size = some P.cells := row_at _ _ _ _ rfl
  have r4 : row (w3.alloc (.cells P.cells 30)) w.heap.size = some P.cells := (row_past _ _ _ (row_lt r3)).trans r3
  have hO4 := hO3.stay ((Below.refl _ _).alloc (Nat.le_refl _) (.cells P.cells 30))
  have hB4 := Below.allocT hB3 (.cells P.cells 30)
  clear r3 hO3 hB3
  generalize hg : w3.heap.size = gp at *
  generalize w3.alloc (.cells P.cells 30) = w4 at *
  clear hg
  refine (HR.out _).mono ?_
  rintro e w5 ⟨rfl, hb5⟩
  have r5 := (row_below hb5 (row_lt r4)).trans r4
  have p5 := (row_below hb5 (row_lt p4)).trans p4
  have hO5 := Lib.hid (hO4.stay hb5)
  have hB5 := Lib.hid (Below.then hB4 hb5)
  have U5 := Lib.hid (HU.out.below hB5.out (Nat.le_refl _))
  clear r4 p4 hb5 hO4 hB4 HR HU
  go_wp2_with fail
  go_loopw [37, 12] (fun i v wr => ∃ (j : Nat) (u : Value), i = .int .i64 j ∧ u = v ∧ j ≤ n ∧ Hid (OwnS wr w5.heap.size u (xs.take j)) ∧ Hid (Below w5.heap.size w5 wr)) (fun i _ _ => n - (intOf i).toNat)
  case atStart => exact ⟨0, _, rfl, rfl, by omega, Lib.hid (OwnC.nil _ _), Lib.hid (Below.refl _ _)⟩
  case round =>
    obtain ⟨j, u, rfl, rfl, hj, hO, hB⟩ := hrel
    by_cases hlt : j < n
    · obtain ⟨b, off, rfl, hbb, hcell⟩ := U5.out (by rw [HN.out]; omega)
      obtain ⟨s, hxj⟩ : ∃ s, xs[j]? = some s := ⟨_, List.getElem?_eq_getElem (by rw [HN.out]; omega)⟩
      obtain ⟨k0, k1, k2, k3⟩ := st_range (range_below (hcell j _ hxj) hB.out hbb)
      have HS : Hid (xs.take (j + 1) = xs.take j ++ [s]) := Lib.hid (by
        have hj' : j < xs.length := by rw [HN.out]; exact hlt
        have : xs[j] = s := by rw [List.getElem?_eq_getElem hj'] at hxj; exact Option.some.inj hxj
        rw [List.take_succ_eq_append_getElem hj', this])
      have hlen : (xs.take j).length = j := by rw [List.length_take, HN.out]; omega
      have HLen := Lib.hid hlen
      have z1 : (0 : Int) ≤ (j : Int) := by omega
      have z2 : (j : Int) < (n : Int) := by omega
      have rr := Lib.hid ((row_below hB.out (row_lt r5)).trans r5)
      have pr := Lib.hid ((row_below hB.out (row_lt p5)).trans p5)
      have HWs := Lib.hid (fun W => HW.out s W)
      rw [HWV.out s] at HWs
      have HRs := Lib.hid (fun W => HRW.out s W)
      generalize weightN P s = q at *
      have VO : Hid (∀ w', Below wr.heap.size wr w' → OwnS w' w5.heap.size u (xs.take j) ∧ w5.heap.size ≤ w'.heap.size ∧ Below w5.heap.size w5 w') := Lib.hid fun w' h => ⟨hO.out.stay h, Nat.le_trans hB.out.size h.size, hB.out.trans (h.mono hB.out.size)⟩
      have hne : ∀ k, wr.heap.size ≤ k → some k ≠ u.ownBlock := fun k hk he => by have := (hO.out.lt k he.symm).2; omega
      have HNe := Lib.hid hne
      clear hcell hxj hlen hne
      go_wp2_with (at_builtin; refine wpList_append_c rsts_under rst_three rfl (by decide) (by decide) St.cells_size St.cells_one rfl _ _ rfl w5.heap.size u (xs.take j) rfl (VO.out _ (by (repeat (first | exact Below.refl _ _ | assumption | (refine Below.allocT ?_ _) | refine Below.drew ?_ | refine below_drewN ?_ _ | (refine Below.then ?_ (by assumption)) | (refine Below.setRow ?_ ?_ _; rotate_left; (focus (first | exact Nat.lt_succ_self _ | ((repeat rw [World.size_alloc]); omega) | (simp; done) | (simp; omega) | omega))) | (refine Below.setCell ?_ ?_ _; rotate_left; (focus (first | exact Nat.lt_succ_self _ | ((repeat rw [World.size_alloc]); omega) | (simp; done) | (simp; omega) | omega))) | (refine Below.then' ?_ (by assumption) ?_; rotate_left; (focus (first | exact Nat.lt_succ_self _ | ((repeat rw [World.size_alloc]); omega) | (simp; done) | (simp; omega) | omega))) | fail)); (first | done | fail))).1 _ 1 s rfl (row_at _ _ _ _ (by simp)) j HLen.out (by rw [HLen.out]; omega) (VO.out _ (by (repeat (first | exact Below.refl _ _ | assumption | (refine Below.allocT ?_ _) | refine Below.drew ?_ | refine below_drewN ?_ _ | (refine Below.then ?_ (by assumption)) | (refine Below.setRow ?_ ?_ _; rotate_left; (focus (first | exact Nat.lt_succ_self _ | ((repeat rw [World.size_alloc]); omega) | (simp; done) | (simp; omega) | omega))) | (refine Below.setCell ?_ ?_ _; rotate_left; (focus (first | exact Nat.lt_succ_self _ | ((repeat rw [World.size_alloc]); omega) | (simp; done) | (simp; omega) | omega))) | (refine Below.then' ?_ (by assumption) ?_; rotate_left; (focus (first | exact Nat.lt_succ_self _ | ((repeat rw [World.size_alloc]); omega) | (simp; done) | (simp; omega) | omega))) | fail)); (first | done | fail))).2.1 ?_; intro A' cap w6 hO6 hg6; have hB6 := Lib.hid (below_grown_c (VO.out _ (by (repeat (first | exact Below.refl _ _ | assumption | (refine Below.allocT ?_ _) | refine Below.drew ?_ | refine below_drewN ?_ _ | (refine Below.then ?_ (by assumption)) | (refine Below.setRow ?_ ?_ _; rotate_left; (focus (first | exact Nat.lt_succ_self _ | ((repeat rw [World.size_alloc]); omega) | (simp; done) | (simp; omega) | omega))) | (refine Below.setCell ?_ ?_ _; rotate_left; (focus (first | exact Nat.lt_succ_self _ | ((repeat rw [World.size_alloc]); omega) | (simp; done) | (simp; omega) | omega))) | (refine Below.then' ?_ (by assumption) ?_; rotate_left; (focus (first | exact Nat.lt_succ_self _ | ((repeat rw [World.size_alloc]); omega) | (simp; done) | (simp; omega) | omega))) | fail)); (first | done | fail))).2.2 (Nat.le_refl _) (VO.out _ (by (repeat (first | exact Below.refl _ _ | assumption | (refine Below.allocT ?_ _) | refine Below.drew ?_ | refine below_drewN ?_ _ | (refine Below.then ?_ (by assumption)) | (refine Below.setRow ?_ ?_ _; rotate_left; (focus (first | exact Nat.lt_succ_self _ | ((repeat rw [World.size_alloc]); omega) | (simp; done) | (simp; omega) | omega))) | (refine Below.setCell ?_ ?_ _; rotate_left; (focus (first | exact Nat.lt_succ_self _ | ((repeat rw [World.size_alloc]); omega) | (simp; done) | (simp; omega) | omega))) | (refine Below.then' ?_ (by assumption) ?_; rotate_left; (focus (first | exact Nat.lt_succ_self _ | ((repeat rw [World.size_alloc]); omega) | (simp; done) | (simp; omega) | omega))) | fail)); (first | done | fail))).1 hg6); have s6 : Hid (row w6 wr.heap.size = some s.cells) := Lib.hid ((row_grown hg6 (by simp only [World.size_alloc]; omega) (HNe.out _ (Nat.le_refl _))).trans (by (repeat (first | assumption | (refine row_at _ _ _ _ ?_; first | rfl | (simp only [World.size_alloc]; done) | (simp only [World.size_alloc]; omega)) | (refine (row_past _ _ _ ?_).trans ?_; (focus (first | exact Nat.lt_succ_self _ | ((repeat rw [World.size_alloc]); omega) | (simp; done) | (simp; omega) | omega))) | rw [row_drewN] | rw [row_drew])); (first | done | fail))); have t6 : Hid (row w6 (wr.heap.size + 1) = some s.cells) := Lib.hid ((row_grown hg6 (by simp only [World.size_alloc]; omega) (HNe.out _ (by omega))).trans (by (repeat (first | assumption | (refine row_at _ _ _ _ ?_; first | rfl | (simp only [World.size_alloc]; done) | (simp only [World.size_alloc]; omega)) | (refine (row_past _ _ _ ?_).trans ?_; (focus (first | exact Nat.lt_succ_self _ | ((repeat rw [World.size_alloc]); omega) | (simp; done) | (simp; omega) | omega))) | rw [row_drewN] | rw [row_drew])); (first | done | fail))); have HO6 := Lib.hid hO6; clear hO6 hg6)
      have r6 := (row_below hB6.out (row_lt r5)).trans r5
      have p6 := (row_below hB6.out (row_lt p5)).trans p5
      have HM : Hid (∀ w', Below w6.heap.size w6 w' → row w' w.heap.size = some P.cells ∧ row w' gp = some P.cells ∧ row w' wr.heap.size = some s.cells ∧ row w' (wr.heap.size + 1) = some s.cells) := Lib.hid fun w' h => ⟨(row_below h (row_lt r6)).trans r6, (row_below h (row_lt p6)).trans p6, (row_below h (row_lt s6.out)).trans s6.out, (row_below h (row_lt t6.out)).trans t6.out⟩
      clear r6 p6
      (refine wp_region_calm (by kernel_rfl) (by kernel_rfl) ?_; (repeat (first | go_big_quiet_skip | (go_big_quiet_want; apply calm_val; (focus (intro w' hb'; obtain ⟨c1, c2, c3, c4⟩ := HM.out w' hb'; first | exact par_quiet rfl c1 rfl | exact rpar_quiet rfl c2 rfl | exact st_quiet rfl c3 rfl | exact rst_quiet rfl c4 rfl | (unfold Oper.quietAt; go_simp; first | rfl | (go_at_call 24; exact calm_call hb' (HWs.out _)) | (go_at_call 25; exact calm_call hb' (HRs.out _))))); (try simp only [Act.put, List.setIfInBounds_toArray, List.set_cons_zero, List.set_cons_succ]); go_big_quiet_on))); refine wpQuiet_nil ?_; intro w' hb')
      have B7 := Lib.hid (hB6.out.trans (hb'.mono hB6.out.size))
      have O7 := Lib.hid (HO6.out.stay hb')
      go_wp2_with fail
      exact ⟨⟨j + 1, _, by go_num, rfl, by omega, by rw [HS.out]; exact O7, B7⟩, by simp [intOf]; omega⟩
    · obtain rfl : n = j := by omega
      have hO' := hO.out
      rw [List.take_of_length_le (by rw [HN.out]; exact Nat.le_refl _)] at hO'
      obtain ⟨A', c', rfl, h1, _, _⟩ := hO'.form St.cells_size
      have hS := Lib.hid h1
      have B6 := Lib.hid (Below.then hB5.out hB.out)
      have L6 := Lib.hid (hO5.out.stay hB.out)
      have HXL := Lib.hid HN.out
      rw [HN.out]
      clear hO' h1 hO U5
      go_wp2_with fail
      go_ret
      exact ⟨rfl, B6.out⟩
set_option maxRecDepth 100000 in
set_option maxHeartbeats 6000000 in
theorem prizeShares_yes (P : Par) (t : Nat) (A : Option Addr) (n c : Nat) (xs : List St) (ht : t < 18446744073709551616) (hn : xs.length = n) (hm : n ≤ 200) (hr : rightB P = true) (hsm : n ≤ 128) (w : World) (hU : SliceOf 4 St.cells w A xs) :
    Calls Try.prog 6 #[.agg P.cells, .int .u64 t, .slice A n c] w fun e w' => e = .returned (.bool true) ∧ Below w.heap.size w w' := by
  have r0 : row (w.alloc (.cells P.cells 24)) w.heap.size = some P.cells := row_at _ _ _ _ rfl
  have hB0 : Below w.heap.size w (w.alloc (.cells P.cells 24)) := (by (repeat (first | exact Below.refl _ _ | assumption | (refine Below.allocT ?_ _) | refine Below.drew ?_ | refine below_drewN ?_ _ | (refine Below.then ?_ (by assumption)) | (refine Below.setRow ?_ ?_ _; rotate_left; (focus (first | exact Nat.lt_succ_self _ | ((repeat rw [World.size_alloc]); omega) | (simp; done) | (simp; omega) | omega))) | (refine Below.setCell ?_ ?_ _; rotate_left; (focus (first | exact Nat.lt_succ_self _ | ((repeat rw [World.size_alloc]); omega) | (simp; done) | (simp; omega) | omega))) | (refine Below.then' ?_ (by assumption) ?_; rotate_left; (focus (first | exact Nat.lt_succ_self _ | ((repeat rw [World.size_alloc]); omega) | (simp; done) | (simp; omega) | omega))) | fail)); (first | done | fail))
  have HPz := Lib.hid (fun W (h : SliceOf 4 St.cells W A xs) => prizes_any P t A n c xs ht hn W h)
  unfold PrizesPost at HPz
  have HR := Lib.hid (fun W => right_any P W)
  rw [hr] at HR
  have HV : Hid (prizesE P xs = 0 ∧ prizesL P t xs = (partsN t (xs.map (weightN P))) ∧ prizesR P t xs = (t - total (partsN t (xs.map (weightN P))))) := Lib.hid (by
    have hE : prizesE P xs = 0 := by unfold prizesE; rw [if_pos hr, if_neg (by omega)]
    exact ⟨hE, by simp [prizesL, hE], by simp [prizesR, hE]⟩)
  rw [HV.out.1, HV.out.2.1, HV.out.2.2] at HPz
  have HW := Lib.hid (fun s W => pweight_any P s W)
  have HWV : Hid (∀ s, weightV P s = weightN P s) := Lib.hid (fun s => by simp [weightV, hr])
  have HRW := Lib.hid (fun s W => rweight_any P s hr W)
  have HRP := Lib.hid (fun W A c (h : SliceOf 4 St.cells W A xs) => rprizes_any P t A n c xs ht hr hn hsm W h)
  unfold RPrizesPost at HRP
  obtain ⟨rest, hrest⟩ : ∃ rest, rest = t - total (partsN t (xs.map (weightN P))) := ⟨_, rfl⟩
  rw [← hrest] at HPz HRP
  have zb : ¬ (128 : Int) < (n : Int) := by omega
  generalize partsN t (xs.map (weightN P)) = ps at *
  clear hrest
  have HU := Lib.hid hU
  have HN := Lib.hid hn
  have zn : ¬ (200 : Int) < (n : Int) := by omega
  clear hU hn hr
  go_enter Try.func6, Try.ntmps6
  go_wp2_with fail
  generalize w.alloc (.cells P.cells 24) = w0 at *
  refine (awake14_any _).mono ?_
  rintro e w1 ⟨rfl, hb1⟩
  have r1 := (row_below hb1 (row_lt r0)).trans r0
  have hB1 := Below.then hB0 hb1
  clear r0 hB0 hb1
  go_wp2_with fail
  refine (HPz.out _ (HU.out.below hB1 (Nat.le_refl _))).mono ?_
  rintro e w2 ⟨A2, c2, rfl, hO2, hb2⟩
  have r2 := (row_below hb2 (row_lt r1)).trans r1
  have hB2 := Below.then hB1 hb2
  have hzz := Nat.le_trans (Nat.le_succ _) (Nat.le_trans (row_lt r1) hb2.size)
  clear r1 hB1 hb2 HPz
  go_wp2_with fail
  refine (plain_any P _).mono ?_
  rintro e w3 ⟨rfl, hb3⟩
  have r3 := (row_below hb3 (row_lt r2)).trans r2
  have hO3 := hO2.stay hb3
  have hB3 := Below.then hB2 hb3
  clear r2 hB2 hb3 hO2
  go_wp2_with fail
  have p4 : row (w3.alloc (.cells P.cells 30)) w3.heap.size = some P.cells := row_at _ _ _ _ rfl
  have r4 : row (w3.alloc (.cells P.cells 30)) w.heap.size = some P.cells := (row_past _ _ _ (row_lt r3)).trans r3
  have hO4 := hO3.stay ((Below.refl _ _).alloc (Nat.le_refl _) (.cells P.cells 30))
  have hB4 := Below.allocT hB3 (.cells P.cells 30)
  clear r3 hO3 hB3
  generalize hg : w3.heap.size = gp at *
  generalize w3.alloc (.cells P.cells 30) = w4 at *
  clear hg
  refine (HR.out _).mono ?_
  rintro e w5 ⟨rfl, hb5⟩
  have r5 := (row_below hb5 (row_lt r4)).trans r4
  have p5 := (row_below hb5 (row_lt p4)).trans p4
  have hO5 := Lib.hid (hO4.stay hb5)
  have hB5 := Lib.hid (Below.then hB4 hb5)
  have U5 := Lib.hid (HU.out.below hB5.out (Nat.le_refl _))
  clear r4 p4 hb5 hO4 hB4 HR HU
  go_wp2_with fail
  go_loopw [37, 12] (fun i v wr => ∃ (j : Nat) (u : Value), i = .int .i64 j ∧ u = v ∧ j ≤ n ∧ Hid (OwnS wr w5.heap.size u (xs.take j)) ∧ Hid (Below w5.heap.size w5 wr)) (fun i _ _ => n - (intOf i).toNat)
  case atStart => exact ⟨0, _, rfl, rfl, by omega, Lib.hid (OwnC.nil _ _), Lib.hid (Below.refl _ _)⟩
  case round =>
    obtain ⟨j, u, rfl, rfl, hj, hO, hB⟩ := hrel
    by_cases hlt : j < n
    · obtain ⟨b, off, rfl, hbb, hcell⟩ := U5.out (by rw [HN.out]; omega)
      obtain ⟨s, hxj⟩ : ∃ s, xs[j]? = some s := ⟨_, List.getElem?_eq_getElem (by rw [HN.out]; omega)⟩
      obtain ⟨k0, k1, k2, k3⟩ := st_range (range_below (hcell j _ hxj) hB.out hbb)
      have HS : Hid (xs.take (j + 1) = xs.take j ++ [s]) := Lib.hid (by
        have hj' : j < xs.length := by rw [HN.out]; exact hlt
        have : xs[j] = s := by rw [List.getElem?_eq_getElem hj'] at hxj; exact Option.some.inj hxj
        rw [List.take_succ_eq_append_getElem hj', this])
      have hlen : (xs.take j).length = j := by rw [List.length_take, HN.out]; omega
      have HLen := Lib.hid hlen
      have z1 : (0 : Int) ≤ (j : Int) := by omega
      have z2 : (j : Int) < (n : Int) := by omega
      have rr := Lib.hid ((row_below hB.out (row_lt r5)).trans r5)
      have pr := Lib.hid ((row_below hB.out (row_lt p5)).trans p5)
      have HWs := Lib.hid (fun W => HW.out s W)
      rw [HWV.out s] at HWs
      have HRs := Lib.hid (fun W => HRW.out s W)
      generalize weightN P s = q at *
      have VO : Hid (∀ w', Below wr.heap.size wr w' → OwnS w' w5.heap.size u (xs.take j) ∧ w5.heap.size ≤ w'.heap.size ∧ Below w5.heap.size w5 w') := Lib.hid fun w' h => ⟨hO.out.stay h, Nat.le_trans hB.out.size h.size, hB.out.trans (h.mono hB.out.size)⟩
      have hne : ∀ k, wr.heap.size ≤ k → some k ≠ u.ownBlock := fun k hk he => by have := (hO.out.lt k he.symm).2; omega
      have HNe := Lib.hid hne
      clear hcell hxj hlen hne
      go_wp2_with (at_builtin; refine wpList_append_c rsts_under rst_three rfl (by decide) (by decide) St.cells_size St.cells_one rfl _ _ rfl w5.heap.size u (xs.take j) rfl (VO.out _ (by (repeat (first | exact Below.refl _ _ | assumption | (refine Below.allocT ?_ _) | refine Below.drew ?_ | refine below_drewN ?_ _ | (refine Below.then ?_ (by assumption)) | (refine Below.setRow ?_ ?_ _; rotate_left; (focus (first | exact Nat.lt_succ_self _ | ((repeat rw [World.size_alloc]); omega) | (simp; done) | (simp; omega) | omega))) | (refine Below.setCell ?_ ?_ _; rotate_left; (focus (first | exact Nat.lt_succ_self _ | ((repeat rw [World.size_alloc]); omega) | (simp; done) | (simp; omega) | omega))) | (refine Below.then' ?_ (by assumption) ?_; rotate_left; (focus (first | exact Nat.lt_succ_self _ | ((repeat rw [World.size_alloc]); omega) | (simp; done) | (simp; omega) | omega))) | fail)); (first | done | fail))).1 _ 1 s rfl (row_at _ _ _ _ (by simp)) j HLen.out (by rw [HLen.out]; omega) (VO.out _ (by (repeat (first | exact Below.refl _ _ | assumption | (refine Below.allocT ?_ _) | refine Below.drew ?_ | refine below_drewN ?_ _ | (refine Below.then ?_ (by assumption)) | (refine Below.setRow ?_ ?_ _; rotate_left; (focus (first | exact Nat.lt_succ_self _ | ((repeat rw [World.size_alloc]); omega) | (simp; done) | (simp; omega) | omega))) | (refine Below.setCell ?_ ?_ _; rotate_left; (focus (first | exact Nat.lt_succ_self _ | ((repeat rw [World.size_alloc]); omega) | (simp; done) | (simp; omega) | omega))) | (refine Below.then' ?_ (by assumption) ?_; rotate_left; (focus (first | exact Nat.lt_succ_self _ | ((repeat rw [World.size_alloc]); omega) | (simp; done) | (simp; omega) | omega))) | fail)); (first | done | fail))).2.1 ?_; intro A' cap w6 hO6 hg6; have hB6 := Lib.hid (below_grown_c (VO.out _ (by (repeat (first | exact Below.refl _ _ | assumption | (refine Below.allocT ?_ _) | refine Below.drew ?_ | refine below_drewN ?_ _ | (refine Below.then ?_ (by assumption)) | (refine Below.setRow ?_ ?_ _; rotate_left; (focus (first | exact Nat.lt_succ_self _ | ((repeat rw [World.size_alloc]); omega) | (simp; done) | (simp; omega) | omega))) | (refine Below.setCell ?_ ?_ _; rotate_left; (focus (first | exact Nat.lt_succ_self _ | ((repeat rw [World.size_alloc]); omega) | (simp; done) | (simp; omega) | omega))) | (refine Below.then' ?_ (by assumption) ?_; rotate_left; (focus (first | exact Nat.lt_succ_self _ | ((repeat rw [World.size_alloc]); omega) | (simp; done) | (simp; omega) | omega))) | fail)); (first | done | fail))).2.2 (Nat.le_refl _) (VO.out _ (by (repeat (first | exact Below.refl _ _ | assumption | (refine Below.allocT ?_ _) | refine Below.drew ?_ | refine below_drewN ?_ _ | (refine Below.then ?_ (by assumption)) | (refine Below.setRow ?_ ?_ _; rotate_left; (focus (first | exact Nat.lt_succ_self _ | ((repeat rw [World.size_alloc]); omega) | (simp; done) | (simp; omega) | omega))) | (refine Below.setCell ?_ ?_ _; rotate_left; (focus (first | exact Nat.lt_succ_self _ | ((repeat rw [World.size_alloc]); omega) | (simp; done) | (simp; omega) | omega))) | (refine Below.then' ?_ (by assumption) ?_; rotate_left; (focus (first | exact Nat.lt_succ_self _ | ((repeat rw [World.size_alloc]); omega) | (simp; done) | (simp; omega) | omega))) | fail)); (first | done | fail))).1 hg6); have s6 : Hid (row w6 wr.heap.size = some s.cells) := Lib.hid ((row_grown hg6 (by simp only [World.size_alloc]; omega) (HNe.out _ (Nat.le_refl _))).trans (by (repeat (first | assumption | (refine row_at _ _ _ _ ?_; first | rfl | (simp only [World.size_alloc]; done) | (simp only [World.size_alloc]; omega)) | (refine (row_past _ _ _ ?_).trans ?_; (focus (first | exact Nat.lt_succ_self _ | ((repeat rw [World.size_alloc]); omega) | (simp; done) | (simp; omega) | omega))) | rw [row_drewN] | rw [row_drew])); (first | done | fail))); have t6 : Hid (row w6 (wr.heap.size + 1) = some s.cells) := Lib.hid ((row_grown hg6 (by simp only [World.size_alloc]; omega) (HNe.out _ (by omega))).trans (by (repeat (first | assumption | (refine row_at _ _ _ _ ?_; first | rfl | (simp only [World.size_alloc]; done) | (simp only [World.size_alloc]; omega)) | (refine (row_past _ _ _ ?_).trans ?_; (focus (first | exact Nat.lt_succ_self _ | ((repeat rw [World.size_alloc]); omega) | (simp; done) | (simp; omega) | omega))) | rw [row_drewN] | rw [row_drew])); (first | done | fail))); have HO6 := Lib.hid hO6; clear hO6 hg6)
      have r6 := (row_below hB6.out (row_lt r5)).trans r5
      have p6 := (row_below hB6.out (row_lt p5)).trans p5
      have HM : Hid (∀ w', Below w6.heap.size w6 w' → row w' w.heap.size = some P.cells ∧ row w' gp = some P.cells ∧ row w' wr.heap.size = some s.cells ∧ row w' (wr.heap.size + 1) = some s.cells) := Lib.hid fun w' h => ⟨(row_below h (row_lt r6)).trans r6, (row_below h (row_lt p6)).trans p6, (row_below h (row_lt s6.out)).trans s6.out, (row_below h (row_lt t6.out)).trans t6.out⟩
      clear r6 p6
      (refine wp_region_calm (by kernel_rfl) (by kernel_rfl) ?_; (repeat (first | go_big_quiet_skip | (go_big_quiet_want; apply calm_val; (focus (intro w' hb'; obtain ⟨c1, c2, c3, c4⟩ := HM.out w' hb'; first | exact par_quiet rfl c1 rfl | exact rpar_quiet rfl c2 rfl | exact st_quiet rfl c3 rfl | exact rst_quiet rfl c4 rfl | (unfold Oper.quietAt; go_simp; first | rfl | (go_at_call 24; exact calm_call hb' (HWs.out _)) | (go_at_call 25; exact calm_call hb' (HRs.out _))))); (try simp only [Act.put, List.setIfInBounds_toArray, List.set_cons_zero, List.set_cons_succ]); go_big_quiet_on))); refine wpQuiet_nil ?_; intro w' hb')
      have B7 := Lib.hid (hB6.out.trans (hb'.mono hB6.out.size))
      have O7 := Lib.hid (HO6.out.stay hb')
      go_wp2_with fail
      exact ⟨⟨j + 1, _, by go_num, rfl, by omega, by rw [HS.out]; exact O7, B7⟩, by simp [intOf]; omega⟩
    · obtain rfl : n = j := by omega
      have hO' := hO.out
      rw [List.take_of_length_le (by rw [HN.out]; exact Nat.le_refl _)] at hO'
      obtain ⟨A', c', rfl, h1, _, _⟩ := hO'.form St.cells_size
      have hS := Lib.hid h1
      have B6 := Lib.hid (Below.then hB5.out hB.out)
      have L6 := Lib.hid (hO5.out.stay hB.out)
      have HXL := Lib.hid HN.out
      rw [HN.out]
      clear hO' h1 hO U5
      have p6 := (row_below hB.out (row_lt p5)).trans p5
      go_wp2_with fail
      refine (HRP.out _ _ _ hS.out).mono ?_
      rintro e w7 ⟨A7, c7, rfl, hO7, hb7⟩
      have hl7 := (hO7.form)
      obtain ⟨A8, c8, e8, hU8, _, hm8⟩ := hl7
      simp only [Value.slice.injEq, true_and] at e8
      obtain ⟨rfl, rfl⟩ := e8
      have L7 := Lib.hid (L6.out.stay hb7)
      obtain ⟨A9, c9, e9, hU9, _, hm9⟩ := L7.out.form
      simp only [Value.slice.injEq, true_and] at e9
      obtain ⟨rfl, rfl⟩ := e9
      have B7 := Lib.hid (Below.then B6.out hb7)
      have HSm := Lib.hid (fun W (h : Below w7.heap.size w7 W) => same_any A2 A7 _ _ _ c2 _ c7 rfl rfl hm9 hm9 W (hU9.below h (Nat.le_refl _)) (hU8.below h (Nat.le_refl _)))
      clear hO7 hb7 hU8 hU9 hm8 hm9 L6 B6 L7
      go_wp2_with fail
      refine (HSm.out _ (Below.refl _ _)).mono ?_
      rintro e w8 ⟨rfl, hb8⟩
      rw [sameB_self]
      have B8 := Lib.hid (Below.then B7.out hb8)
      clear hb8
      go_wp2_with fail
      go_ret
      exact ⟨rfl, B8.out⟩
theorem prizeShares_any (P : Par) (t : Nat) (A : Option Addr) (n c : Nat) (xs : List St) (ht : t < 18446744073709551616) (hn : xs.length = n) (hm : n ≤ 9223372036854775807) (w : World) (hU : SliceOf 4 St.cells w A xs) :
    Calls Try.prog 6 #[.agg P.cells, .int .u64 t, .slice A n c] w fun e w' => e = .returned (.bool true) ∧ Below w.heap.size w w' := by
  by_cases h : n ≤ 200
  · cases hr : rightB P
    · exact prizeShares_no P t A n c xs ht hn h hr w hU
    · by_cases hb : n ≤ 128
      · exact prizeShares_yes P t A n c xs ht hn h hr hb w hU
      · exact prizeShares_big P t A n c xs ht hn h hr (by omega) w hU
  · have hB0 : Below w.heap.size w (w.alloc (.cells P.cells 24)) := (by (repeat (first | exact Below.refl _ _ | assumption | (refine Below.allocT ?_ _) | refine Below.drew ?_ | refine below_drewN ?_ _ | (refine Below.then ?_ (by assumption)) | (refine Below.setRow ?_ ?_ _; rotate_left; (focus (first | exact Nat.lt_succ_self _ | ((repeat rw [World.size_alloc]); omega) | (simp; done) | (simp; omega) | omega))) | (refine Below.setCell ?_ ?_ _; rotate_left; (focus (first | exact Nat.lt_succ_self _ | ((repeat rw [World.size_alloc]); omega) | (simp; done) | (simp; omega) | omega))) | (refine Below.then' ?_ (by assumption) ?_; rotate_left; (focus (first | exact Nat.lt_succ_self _ | ((repeat rw [World.size_alloc]); omega) | (simp; done) | (simp; omega) | omega))) | fail)); (first | done | fail))
    have zn : (200 : Int) < (n : Int) := by omega
    clear hn hU
    go_enter Try.func6, Try.ntmps6
    go_wp2_with fail
    generalize w.alloc (.cells P.cells 24) = w0 at *
    refine (awake14_any _).mono ?_
    rintro e w1 ⟨rfl, hb1⟩
    have hB1 := Below.then hB0 hb1
    clear hB0 hb1
    go_wp2_with fail
    go_ret
    exact ⟨rfl, hB1⟩
end Go.Proofs.Ytkfbnaafpikgfaa

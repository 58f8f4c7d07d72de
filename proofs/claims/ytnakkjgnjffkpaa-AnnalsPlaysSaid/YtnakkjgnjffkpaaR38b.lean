/-
  The reference's sums of reports: the walk.
-/
import Derived.Test.YtnakkjgnjffkpaaR38
import Derived.Deep.RegionLaw
namespace Go.Proofs.Ytnakkjgnjffkpaa
open Go.RowKit
set_option linter.unusedVariables false
set_option linter.unusedSimpArgs false

def baseS (s : Sm) : Sm := { s with minted := 0, paid := 0, kept := 0, burned := 0, fees := 0 }
def sumX (xs : List (Rep × RepA)) : List Sm := xs.map fun x => smOf x.1
theorem sumX_take (xs : List (Rep × RepA)) (j : Nat) (r : Rep) (a : RepA) (h : xs[j]? = some (r, a)) : sumX (xs.take (j + 1)) = sumX (xs.take j) ++ [smOf r] := by
  obtain ⟨hjl, hjz⟩ := List.getElem?_eq_some_iff.1 h
  rw [List.take_succ_eq_append_getElem hjl, hjz]; unfold sumX; rw [List.map_append]; rfl
theorem totS_snoc (l : List Sm) (s : Sm) : totS (l ++ [s]) = addS (totS l) s := by unfold totS; rw [List.foldl_append]; rfl
theorem total_cons' (x : Nat) (r : List Nat) : total (x :: r) = x + total r := by
  have h : ∀ (l : List Nat) (a : Nat), l.foldl (· + ·) a = a + l.foldl (· + ·) 0 := by
    intro l
    induction l with
    | nil => intro a; rfl
    | cons y l ih => intro a; rw [List.foldl_cons, List.foldl_cons, ih (a + y), ih (0 + y)]; omega
  unfold total
  rw [List.foldl_cons, h]; omega
theorem totS_mon (l : List Sm) (k : Nat) : (totS l).mon k = total (l.map (·.mon k)) := by
  have h : ∀ (l : List Sm) (o : Sm), (l.foldl addS o).mon k = o.mon k + total (l.map (·.mon k)) := by
    intro l
    induction l with
    | nil => intro o; simp [total]
    | cons x l ih => intro o; rw [List.foldl_cons, ih, addS_mon, List.map_cons, total_cons']; omega
  rw [totS, h]
  have : Sm.zero.mon k = 0 := by
    match k with
    | 0 => rfl
    | 1 => rfl
    | 2 => rfl
    | 3 => rfl
    | k + 4 => rfl
  omega
theorem leak_mode {r : Rep} (h : rightA r = true) : leakB r.mode = decide (2 < r.mode) := by
  unfold rightA at h
  simp only [Bool.and_eq_true] at h
  have h1 := of_decide_eq_true h.2.2.1
  unfold leakB
  by_cases h2 : 2 < r.mode
  · rw [decide_eq_true h2]; exact decide_eq_true (by omega)
  · rw [decide_eq_false h2]; exact decide_eq_false (by omega)
set_option maxRecDepth 100000 in
set_option maxHeartbeats 8000000 in
theorem rsum38_any (A : Option Addr) (n c : Nat) (xs : List (Rep × RepA)) (hn : xs.length = n) (hm : n ≤ 300) (w : World) (hU : SliceOf 14 repC w A xs) (hok : ∀ x ∈ xs, x.1.Ok) (hR : ∀ x ∈ xs, rightA x.1 = true) :
    Calls Try.prog 59 #[.slice A n c] w fun e w' => e = .returned (.tuple #[.agg (smC (togV (sumX xs))), .int .i64 (togE (sumX xs))]) ∧ Below w.heap.size w w' := by
  have Z0 : row ((w.alloc (.cells (smC Sm.zero) 48)).alloc (.cells (smC Sm.zero) 48)) w.heap.size = some (smC Sm.zero) := (by (repeat (first | assumption | (refine row_at _ _ _ _ ?_; first | rfl | (simp only [World.size_alloc]; done) | (simp only [World.size_alloc]; omega)) | (refine (row_past _ _ _ ?_).trans ?_; (focus (first | exact Nat.lt_succ_self _ | ((repeat rw [World.size_alloc]); omega) | (simp; done) | (simp; omega) | omega))) | rw [row_drewN] | rw [row_drew])); (first | done | fail))
  have Z1 : row ((w.alloc (.cells (smC Sm.zero) 48)).alloc (.cells (smC Sm.zero) 48)) (w.heap.size + 1) = some (smC Sm.zero) := (by (repeat (first | assumption | (refine row_at _ _ _ _ ?_; first | rfl | (simp only [World.size_alloc]; done) | (simp only [World.size_alloc]; omega)) | (refine (row_past _ _ _ ?_).trans ?_; (focus (first | exact Nat.lt_succ_self _ | ((repeat rw [World.size_alloc]); omega) | (simp; done) | (simp; omega) | omega))) | rw [row_drewN] | rw [row_drew])); (first | done | fail))
  have hB0 : Below w.heap.size w ((w.alloc (.cells (smC Sm.zero) 48)).alloc (.cells (smC Sm.zero) 48)) := (by (repeat (first | exact Below.refl _ _ | assumption | (refine Below.allocT ?_ _) | refine Below.drew ?_ | refine below_drewN ?_ _ | (refine Below.then ?_ (by assumption)) | (refine Below.setRow ?_ ?_ _; rotate_left; (focus (first | exact Nat.lt_succ_self _ | ((repeat rw [World.size_alloc]); omega) | (simp; done) | (simp; omega) | omega))) | (refine Below.setCell ?_ ?_ _; rotate_left; (focus (first | exact Nat.lt_succ_self _ | ((repeat rw [World.size_alloc]); omega) | (simp; done) | (simp; omega) | omega))) | (refine Below.then' ?_ (by assumption) ?_; rotate_left; (focus (first | exact Nat.lt_succ_self _ | ((repeat rw [World.size_alloc]); omega) | (simp; done) | (simp; omega) | omega))) | fail)); (first | done | fail))
  have hs0 : ((w.alloc (.cells (smC Sm.zero) 48)).alloc (.cells (smC Sm.zero) 48)).heap.size = w.heap.size + 2 := by rw [World.size_alloc, World.size_alloc]
  have HU := Lib.hid hU
  have HN := Lib.hid hn
  have HOk := Lib.hid hok
  have HRt := Lib.hid hR
  clear hU hn hok hR
  go_enter Try.func59, Try.ntmps59
  go_upto_region 2 with fail
  change Code.wp _ _ _ _ ((w.alloc (.cells (smC Sm.zero) 48)).alloc (.cells (smC Sm.zero) 48))
  generalize (w.alloc (.cells (smC Sm.zero) 48)).alloc (.cells (smC Sm.zero) 48) = w0 at *
  have H0 := Lib.hid (And.intro Z0 (And.intro Z1 (And.intro hB0 hs0)))
  clear Z0 Z1 hB0 hs0
  generalize hG4 : w.heap.size + 1 = g4 at *
  go_wp2_with fail
  go_loopw [5, 6, 7, 8, 9, 10] (fun v0 v1 v2 v3 v4 i wr => ∃ j : Nat, i = .int .i64 j ∧ j ≤ n ∧ Hid (Five (w.heap.size + 2) wr v0 v1 v2 v3 v4 ((sumX (xs.take j)).map (·.mon 0)) ((sumX (xs.take j)).map (·.mon 1)) ((sumX (xs.take j)).map (·.mon 2)) ((sumX (xs.take j)).map (·.mon 3)) ((sumX (xs.take j)).map (·.mon 4))) ∧ Hid (row wr w.heap.size = some (smC Sm.zero) ∧ row wr g4 = some (smC (baseS (totS (sumX (xs.take j))))) ∧ Below w.heap.size w wr ∧ w.heap.size + 2 ≤ wr.heap.size)) (fun _ _ _ _ _ i _ => n - (intOf i).toNat)
  case atStart =>
    exact ⟨0, rfl, by omega, Lib.hid ⟨OwnC.nil _ _, OwnC.nil _ _, OwnC.nil _ _, OwnC.nil _ _, OwnC.nil _ _, Apart.nil _, Apart.nil _, Apart.nil _, Apart.nil _, Apart.nil _, Apart.nil _, Apart.nil _, Apart.nil _, Apart.nil _, Apart.nil _⟩, Lib.hid ⟨H0.out.1, H0.out.2.1, H0.out.2.2.1, by rw [H0.out.2.2.2]; exact Nat.le_refl _⟩⟩
  case round =>
    obtain ⟨j, rfl, hj, hF, hW⟩ := hrel
    by_cases hlt : j < n
    · obtain ⟨b, off, rfl, hbb, hcell⟩ := HU.out (by rw [HN.out]; omega)
      obtain ⟨⟨r, a⟩, hxj⟩ : ∃ x, xs[j]? = some x := ⟨_, List.getElem?_eq_getElem (by rw [HN.out]; exact hlt)⟩
      have hr := range_below (hcell j _ hxj) hW.out.2.2.1 hbb
      have HX := Lib.hid (And.intro (HOk.out _ (List.mem_of_getElem? hxj)) (HRt.out _ (List.mem_of_getElem? hxj)))
      have HSt := Lib.hid (sumX_take xs j r a hxj)
      have hi : (Try.prog.info? 40).map (·.size) = some (repC (r, a)).toList.length := by rw [rrep_info]; rfl
      have z1 : (0 : Int) ≤ (j : Int) := by omega
      have z2 : (j : Int) < (n : Int) := by omega
      have hz1 := repC_one (r, a)
      clear hcell hxj
      have HFew : Hid ((totS (sumX (xs.take j))).Few (300 * 600)) := Lib.hid (by
        have h0 : Sm.zero.Few 0 := ⟨Nat.le_refl _, Nat.le_refl _, Nat.le_refl _, Nat.le_refl _, Nat.le_refl _, Nat.le_refl _, Nat.le_refl _⟩
        have := fold_few (N := 600) (sumX (xs.take j)) Sm.zero 0 h0 (fun s hs => by
          obtain ⟨x, hx, rfl⟩ := List.mem_map.1 hs
          have hx2 := right_small' (HRt.out x (List.mem_of_mem_take hx))
          exact ⟨by show 1 ≤ _; omega, by have := oneN_le x.1.quorum; show oneN x.1.quorum ≤ _; omega, by have := oneN_le (leakB x.1.mode); show oneN (leakB x.1.mode) ≤ _; omega, by show x.1.out.length ≤ _; omega, by show x.1.left.length ≤ _; omega, by show x.1.started.length ≤ _; omega, by show x.1.done.length ≤ _; omega⟩)
        refine ⟨?_, ?_, ?_, ?_, ?_, ?_, ?_⟩ <;> (have hl : (sumX (xs.take j)).length ≤ 300 := (by unfold sumX; rw [List.length_map, List.length_take]; omega))
        · exact Nat.le_trans this.ticks (by omega)
        · exact Nat.le_trans this.quorums (by omega)
        · exact Nat.le_trans this.leaks (by omega)
        · exact Nat.le_trans this.out (by omega)
        · exact Nat.le_trans this.left (by omega)
        · exact Nat.le_trans this.started (by omega)
        · exact Nat.le_trans this.done (by omega))
      have HLen : Hid (∀ k, ((sumX (xs.take j)).map (·.mon k)).length = j) := Lib.hid fun k => by rw [List.length_map]; unfold sumX; rw [List.length_map, List.length_take, HN.out]; omega
      generalize sumX (xs.take j) = S at *
      go_upto_region 11 with (refine wpList_load_mid rfl 40 _ (by rfl) b (off + j * 14) (by rfl) (repC (r, a)).toList _ hr rrep_under rfl hi ?_)
      refine of_world (fun W => Below wr.heap.size wr W ∧ row W wr.heap.size = some (repC (r, a))) ⟨(by (repeat (first | exact Below.refl _ _ | assumption | (refine Below.allocT ?_ _) | refine Below.drew ?_ | refine below_drewN ?_ _ | (refine Below.then ?_ (by assumption)) | (refine Below.setRow ?_ ?_ _; rotate_left; (focus (first | exact Nat.lt_succ_self _ | ((repeat rw [World.size_alloc]); omega) | (simp; done) | (simp; omega) | omega))) | (refine Below.setCell ?_ ?_ _; rotate_left; (focus (first | exact Nat.lt_succ_self _ | ((repeat rw [World.size_alloc]); omega) | (simp; done) | (simp; omega) | omega))) | (refine Below.then' ?_ (by assumption) ?_; rotate_left; (focus (first | exact Nat.lt_succ_self _ | ((repeat rw [World.size_alloc]); omega) | (simp; done) | (simp; omega) | omega))) | fail)); (first | done | fail)), by first | exact row_at _ _ _ _ rfl | (rw [row_setRow_if, if_pos rfl, row_at _ _ _ _ rfl]; rfl)⟩ ?_
      rintro x1 ⟨hb1, r11⟩
      have R1 : Hid (RS (w.heap.size + 2) g4 wr.heap.size x1 (baseS (totS S)) (r, a) _ _ _ _ _ _ _ _ _ _) := Lib.hid ⟨hF.out.stay hb1, (row_below hb1 (row_lt hW.out.2.1)).trans hW.out.2.1, r11, by omega, Nat.le_trans hW.out.2.2.2 hb1.size, fun e => by have := (hF.out.o0.lt _ e).2; omega, fun e => by have := (hF.out.o1.lt _ e).2; omega, fun e => by have := (hF.out.o2.lt _ e).2; omega, fun e => by have := (hF.out.o3.lt _ e).2; omega, fun e => by have := (hF.out.o4.lt _ e).2; omega⟩
      have B1 : Hid (Below w.heap.size w x1 ∧ row x1 w.heap.size = some (smC Sm.zero)) := Lib.hid ⟨Below.then hW.out.2.2.1 hb1, (row_below hb1 (row_lt hW.out.1)).trans hW.out.1⟩
      have hne : g4 ≠ wr.heap.size := by have := hW.out.2.2.2; omega
      have HNe := Lib.hid hne
      clear hr hi hb1 r11 hF hW hne
      generalize wr.heap.size = g11 at *
      have hm4 := leak_mode HX.out.2
      obtain ⟨s0, hs0⟩ : ∃ s0, s0 = baseS (totS S) := ⟨_, rfl⟩
      have HS0 := Lib.hid hs0
      have HFw : Hid (s0.Few 180000) := Lib.hid (by rw [hs0]; exact ⟨HFew.out.ticks, HFew.out.quorums, HFew.out.leaks, HFew.out.out, HFew.out.left, HFew.out.started, HFew.out.done⟩)
      rw [← hs0] at R1
      clear hs0 HFew
      have HRs : Hid (r.out.length ≤ 128 ∧ r.left.length ≤ 128 ∧ r.started.length ≤ 128 ∧ r.done.length ≤ 32) := Lib.hid (right_small' HX.out.2)
      have c1 : x1.cell? ⟨g4, 0, none⟩ = some (.int .i64 (s0.ticks : Int)) := row_cell R1.out.r4 0
      have f1 := row_frozen R1.out.r4 0
      have zz1 : IntKind.i64.wrap ((s0.ticks : Int) + 1) = (s0.ticks : Int) + 1 := by rw [IntKind.wrap_i64]; have := HFw.out.ticks; have := HRs.out; omega
      have Rn1 := R1.out.set (s' := { s0 with ticks := s0.ticks + 1 }) 0 (.int .i64 ((s0.ticks : Int) + 1)) (by rw [show (s0.ticks : Int) + 1 = ((s0.ticks + 1 : Nat) : Int) by omega]; rfl) HNe.out
      have R2 := Lib.hid Rn1.1
      have B2 : Hid (Below w.heap.size w _ ∧ row _ w.heap.size = some (smC Sm.zero)) := Lib.hid ⟨B1.out.1.trans (Rn1.2.mono (by omega)), below_row Rn1.2 B1.out.2 (by omega)⟩
      clear Rn1
      go_upto_region 12 with fail
      clear c1 f1 zz1 R1 B1
      generalize x1.setCell ⟨g4, 0, none⟩ (.int .i64 ((s0.ticks : Int) + 1)) = x2 at *
      have hqc : x2.cell? ⟨g11, 2, none⟩ = some (.bool r.quorum) := row_cell R2.out.r11 2
      by_cases hq : r.quorum = true
      · rw [hq] at hqc
        by_cases hl : 2 < r.mode
        · have hq9 := hq
          have HFin : Hid (smC ({ { { { { { { s0 with ticks := s0.ticks + 1 } with quorums := s0.quorums + 1 } with leaks := s0.leaks + 1 } with out := s0.out + r.out.length } with left := s0.left + r.left.length } with started := s0.started + r.started.length } with done := s0.done + r.done.length }) = smC (baseS (addS (totS S) (smOf r)))) := Lib.hid (by rw [HS0.out]; unfold smOf; rw [hq, hm4, decide_eq_true hl]; rfl)
          go_upto_region 13 with fail
          clear hqc
          have c2 : x2.cell? ⟨g4, 1, none⟩ = some (.int .i64 (s0.quorums : Int)) := row_cell R2.out.r4 1
          have f2 := row_frozen R2.out.r4 1
          have zz2 : IntKind.i64.wrap ((s0.quorums : Int) + 1) = (s0.quorums : Int) + 1 := by rw [IntKind.wrap_i64]; have := HFw.out.quorums; have := HRs.out; omega
          have Rn2 := R2.out.set (s' := { { s0 with ticks := s0.ticks + 1 } with quorums := s0.quorums + 1 }) 1 (.int .i64 ((s0.quorums : Int) + 1)) (by rw [show (s0.quorums : Int) + 1 = ((s0.quorums + 1 : Nat) : Int) by omega]; rfl) HNe.out
          have R3 := Lib.hid Rn2.1
          have B3 : Hid (Below w.heap.size w _ ∧ row _ w.heap.size = some (smC Sm.zero)) := Lib.hid ⟨B2.out.1.trans (Rn2.2.mono (by omega)), below_row Rn2.2 B2.out.2 (by omega)⟩
          clear Rn2
          go_upto_region 14 with fail
          clear c2 f2 zz2 R2 B2
          generalize x2.setCell ⟨g4, 1, none⟩ (.int .i64 ((s0.quorums : Int) + 1)) = x3 at *
          have hmc : x3.cell? ⟨g11, 1, none⟩ = some (.int .i64 r.mode) := row_cell R3.out.r11 1
          go_upto_region 15 with fail
          clear hmc
          have c3 : x3.cell? ⟨g4, 2, none⟩ = some (.int .i64 (s0.leaks : Int)) := row_cell R3.out.r4 2
          have f3 := row_frozen R3.out.r4 2
          have zz3 : IntKind.i64.wrap ((s0.leaks : Int) + 1) = (s0.leaks : Int) + 1 := by rw [IntKind.wrap_i64]; have := HFw.out.leaks; have := HRs.out; omega
          have Rn3 := R3.out.set (s' := { { { s0 with ticks := s0.ticks + 1 } with quorums := s0.quorums + 1 } with leaks := s0.leaks + 1 }) 2 (.int .i64 ((s0.leaks : Int) + 1)) (by rw [show (s0.leaks : Int) + 1 = ((s0.leaks + 1 : Nat) : Int) by omega]; rfl) HNe.out
          have R4 := Lib.hid Rn3.1
          have B4 : Hid (Below w.heap.size w _ ∧ row _ w.heap.size = some (smC Sm.zero)) := Lib.hid ⟨B3.out.1.trans (Rn3.2.mono (by omega)), below_row Rn3.2 B3.out.2 (by omega)⟩
          clear Rn3
          go_upto_region 16 with fail
          clear c3 f3 zz3 R3 B3
          generalize x3.setCell ⟨g4, 2, none⟩ (.int .i64 ((s0.leaks : Int) + 1)) = x4 at *
          have d4 : x4.cell? ⟨g11, 5, none⟩ = some (.int .u64 (r.minted : Int)) := row_cell R4.out.r11 5
          have Ra4 := Lib.hid (R4.out.stay ((Below.refl _ _).alloc (Nat.le_refl _) (.cells (natK r.minted) 33)))
          have Ba4 : Hid (Below w.heap.size w (x4.alloc (.cells (natK r.minted) 33)) ∧ row (x4.alloc (.cells (natK r.minted) 33)) w.heap.size = some (smC Sm.zero)) := Lib.hid ⟨Below.allocT B4.out.1 _, (row_past _ _ _ (row_lt B4.out.2)).trans B4.out.2⟩
          go_upto_region 17 with (at_builtin; refine wpList_append_d natK_under natK_info rfl (by decide) (by decide) natK_size natK_one rfl _ _ rfl (w.heap.size + 2) _ (S.map fun s : Sm => s.mon 0) rfl Ra4.out.five.o0 _ 1 r.minted rfl (row_at _ _ _ _ rfl) j (HLen.out 0) (by rw [HLen.out]; omega) Ra4.out.base ?_; intro A5 e5 x5 hO5 hg5 hor5; have Rn5 := Ra4.out.push0 hg5 hO5 hor5; have R5 := Lib.hid Rn5.1; have B5 : Hid (Below w.heap.size w x5 ∧ row x5 w.heap.size = some (smC Sm.zero)) := Lib.hid ⟨Ba4.out.1.trans (Rn5.2.mono (by omega)), below_row Rn5.2 Ba4.out.2 (by omega)⟩; clear hO5 hg5 hor5 Rn5)
          clear d4 Ra4 Ba4 R4 B4
          have d5 : x5.cell? ⟨g11, 6, none⟩ = some (.int .u64 (r.paid : Int)) := row_cell R5.out.r11 6
          have Ra5 := Lib.hid (R5.out.stay ((Below.refl _ _).alloc (Nat.le_refl _) (.cells (natK r.paid) 33)))
          have Ba5 : Hid (Below w.heap.size w (x5.alloc (.cells (natK r.paid) 33)) ∧ row (x5.alloc (.cells (natK r.paid) 33)) w.heap.size = some (smC Sm.zero)) := Lib.hid ⟨Below.allocT B5.out.1 _, (row_past _ _ _ (row_lt B5.out.2)).trans B5.out.2⟩
          go_upto_region 18 with (at_builtin; refine wpList_append_d natK_under natK_info rfl (by decide) (by decide) natK_size natK_one rfl _ _ rfl (w.heap.size + 2) _ (S.map fun s : Sm => s.mon 1) rfl Ra5.out.five.o1 _ 1 r.paid rfl (row_at _ _ _ _ rfl) j (HLen.out 1) (by rw [HLen.out]; omega) Ra5.out.base ?_; intro A6 e6 x6 hO6 hg6 hor6; have Rn6 := Ra5.out.push1 hg6 hO6 hor6; have R6 := Lib.hid Rn6.1; have B6 : Hid (Below w.heap.size w x6 ∧ row x6 w.heap.size = some (smC Sm.zero)) := Lib.hid ⟨Ba5.out.1.trans (Rn6.2.mono (by omega)), below_row Rn6.2 Ba5.out.2 (by omega)⟩; clear hO6 hg6 hor6 Rn6)
          clear d5 Ra5 Ba5 R5 B5
          have d6 : x6.cell? ⟨g11, 7, none⟩ = some (.int .u64 (r.kept : Int)) := row_cell R6.out.r11 7
          have Ra6 := Lib.hid (R6.out.stay ((Below.refl _ _).alloc (Nat.le_refl _) (.cells (natK r.kept) 33)))
          have Ba6 : Hid (Below w.heap.size w (x6.alloc (.cells (natK r.kept) 33)) ∧ row (x6.alloc (.cells (natK r.kept) 33)) w.heap.size = some (smC Sm.zero)) := Lib.hid ⟨Below.allocT B6.out.1 _, (row_past _ _ _ (row_lt B6.out.2)).trans B6.out.2⟩
          go_upto_region 19 with (at_builtin; refine wpList_append_d natK_under natK_info rfl (by decide) (by decide) natK_size natK_one rfl _ _ rfl (w.heap.size + 2) _ (S.map fun s : Sm => s.mon 2) rfl Ra6.out.five.o2 _ 1 r.kept rfl (row_at _ _ _ _ rfl) j (HLen.out 2) (by rw [HLen.out]; omega) Ra6.out.base ?_; intro A7 e7 x7 hO7 hg7 hor7; have Rn7 := Ra6.out.push2 hg7 hO7 hor7; have R7 := Lib.hid Rn7.1; have B7 : Hid (Below w.heap.size w x7 ∧ row x7 w.heap.size = some (smC Sm.zero)) := Lib.hid ⟨Ba6.out.1.trans (Rn7.2.mono (by omega)), below_row Rn7.2 Ba6.out.2 (by omega)⟩; clear hO7 hg7 hor7 Rn7)
          clear d6 Ra6 Ba6 R6 B6
          have d7 : x7.cell? ⟨g11, 8, none⟩ = some (.int .u64 (r.burned : Int)) := row_cell R7.out.r11 8
          have Ra7 := Lib.hid (R7.out.stay ((Below.refl _ _).alloc (Nat.le_refl _) (.cells (natK r.burned) 33)))
          have Ba7 : Hid (Below w.heap.size w (x7.alloc (.cells (natK r.burned) 33)) ∧ row (x7.alloc (.cells (natK r.burned) 33)) w.heap.size = some (smC Sm.zero)) := Lib.hid ⟨Below.allocT B7.out.1 _, (row_past _ _ _ (row_lt B7.out.2)).trans B7.out.2⟩
          go_upto_region 20 with (at_builtin; refine wpList_append_d natK_under natK_info rfl (by decide) (by decide) natK_size natK_one rfl _ _ rfl (w.heap.size + 2) _ (S.map fun s : Sm => s.mon 3) rfl Ra7.out.five.o3 _ 1 r.burned rfl (row_at _ _ _ _ rfl) j (HLen.out 3) (by rw [HLen.out]; omega) Ra7.out.base ?_; intro A8 e8 x8 hO8 hg8 hor8; have Rn8 := Ra7.out.push3 hg8 hO8 hor8; have R8 := Lib.hid Rn8.1; have B8 : Hid (Below w.heap.size w x8 ∧ row x8 w.heap.size = some (smC Sm.zero)) := Lib.hid ⟨Ba7.out.1.trans (Rn8.2.mono (by omega)), below_row Rn8.2 Ba7.out.2 (by omega)⟩; clear hO8 hg8 hor8 Rn8)
          clear d7 Ra7 Ba7 R7 B7
          have d8 : x8.cell? ⟨g11, 9, none⟩ = some (.int .u64 (r.fees : Int)) := row_cell R8.out.r11 9
          have Ra8 := Lib.hid (R8.out.stay ((Below.refl _ _).alloc (Nat.le_refl _) (.cells (natK r.fees) 33)))
          have Ba8 : Hid (Below w.heap.size w (x8.alloc (.cells (natK r.fees) 33)) ∧ row (x8.alloc (.cells (natK r.fees) 33)) w.heap.size = some (smC Sm.zero)) := Lib.hid ⟨Below.allocT B8.out.1 _, (row_past _ _ _ (row_lt B8.out.2)).trans B8.out.2⟩
          go_upto_region 21 with (at_builtin; refine wpList_append_d natK_under natK_info rfl (by decide) (by decide) natK_size natK_one rfl _ _ rfl (w.heap.size + 2) _ (S.map fun s : Sm => s.mon 4) rfl Ra8.out.five.o4 _ 1 r.fees rfl (row_at _ _ _ _ rfl) j (HLen.out 4) (by rw [HLen.out]; omega) Ra8.out.base ?_; intro A9 e9 x9 hO9 hg9 hor9; have Rn9 := Ra8.out.push4 hg9 hO9 hor9; have R9 := Lib.hid Rn9.1; have B9 : Hid (Below w.heap.size w x9 ∧ row x9 w.heap.size = some (smC Sm.zero)) := Lib.hid ⟨Ba8.out.1.trans (Rn9.2.mono (by omega)), below_row Rn9.2 Ba8.out.2 (by omega)⟩; clear hO9 hg9 hor9 Rn9)
          clear d8 Ra8 Ba8 R8 B8
          have c9 : x9.cell? ⟨g4, 8, none⟩ = some (.int .i64 (s0.out : Int)) := row_cell R9.out.r4 8
          have d9 : x9.cell? ⟨g11, 10, none⟩ = some (.slice a.a1 r.out.length a.c1) := row_cell R9.out.r11 10
          have f9 := row_frozen R9.out.r4 8
          have zz9 : IntKind.i64.wrap ((s0.out : Int) + (r.out.length : Int)) = (s0.out : Int) + (r.out.length : Int) := by rw [IntKind.wrap_i64]; have := HFw.out.out; have := HRs.out; omega
          have Rn9 := R9.out.set (s' := { { { { s0 with ticks := s0.ticks + 1 } with quorums := s0.quorums + 1 } with leaks := s0.leaks + 1 } with out := s0.out + r.out.length }) 8 (.int .i64 ((s0.out : Int) + (r.out.length : Int))) (by rw [show (s0.out : Int) + (r.out.length : Int) = ((s0.out + r.out.length : Nat) : Int) by omega]; rfl) HNe.out
          have R10 := Lib.hid Rn9.1
          have B10 : Hid (Below w.heap.size w _ ∧ row _ w.heap.size = some (smC Sm.zero)) := Lib.hid ⟨B9.out.1.trans (Rn9.2.mono (by omega)), below_row Rn9.2 B9.out.2 (by omega)⟩
          clear Rn9
          go_upto_region 22 with fail
          clear c9 f9 zz9 R9 B9 d9
          generalize x9.setCell ⟨g4, 8, none⟩ (.int .i64 ((s0.out : Int) + (r.out.length : Int))) = x10 at *
          have c10 : x10.cell? ⟨g4, 9, none⟩ = some (.int .i64 (s0.left : Int)) := row_cell R10.out.r4 9
          have d10 : x10.cell? ⟨g11, 11, none⟩ = some (.slice a.a2 r.left.length a.c2) := row_cell R10.out.r11 11
          have f10 := row_frozen R10.out.r4 9
          have zz10 : IntKind.i64.wrap ((s0.left : Int) + (r.left.length : Int)) = (s0.left : Int) + (r.left.length : Int) := by rw [IntKind.wrap_i64]; have := HFw.out.left; have := HRs.out; omega
          have Rn10 := R10.out.set (s' := { { { { { s0 with ticks := s0.ticks + 1 } with quorums := s0.quorums + 1 } with leaks := s0.leaks + 1 } with out := s0.out + r.out.length } with left := s0.left + r.left.length }) 9 (.int .i64 ((s0.left : Int) + (r.left.length : Int))) (by rw [show (s0.left : Int) + (r.left.length : Int) = ((s0.left + r.left.length : Nat) : Int) by omega]; rfl) HNe.out
          have R11 := Lib.hid Rn10.1
          have B11 : Hid (Below w.heap.size w _ ∧ row _ w.heap.size = some (smC Sm.zero)) := Lib.hid ⟨B10.out.1.trans (Rn10.2.mono (by omega)), below_row Rn10.2 B10.out.2 (by omega)⟩
          clear Rn10
          go_upto_region 23 with fail
          clear c10 f10 zz10 R10 B10 d10
          generalize x10.setCell ⟨g4, 9, none⟩ (.int .i64 ((s0.left : Int) + (r.left.length : Int))) = x11 at *
          have c11 : x11.cell? ⟨g4, 10, none⟩ = some (.int .i64 (s0.started : Int)) := row_cell R11.out.r4 10
          have d11 : x11.cell? ⟨g11, 12, none⟩ = some (.slice a.a3 r.started.length a.c3) := row_cell R11.out.r11 12
          have f11 := row_frozen R11.out.r4 10
          have zz11 : IntKind.i64.wrap ((s0.started : Int) + (r.started.length : Int)) = (s0.started : Int) + (r.started.length : Int) := by rw [IntKind.wrap_i64]; have := HFw.out.started; have := HRs.out; omega
          have Rn11 := R11.out.set (s' := { { { { { { s0 with ticks := s0.ticks + 1 } with quorums := s0.quorums + 1 } with leaks := s0.leaks + 1 } with out := s0.out + r.out.length } with left := s0.left + r.left.length } with started := s0.started + r.started.length }) 10 (.int .i64 ((s0.started : Int) + (r.started.length : Int))) (by rw [show (s0.started : Int) + (r.started.length : Int) = ((s0.started + r.started.length : Nat) : Int) by omega]; rfl) HNe.out
          have R12 := Lib.hid Rn11.1
          have B12 : Hid (Below w.heap.size w _ ∧ row _ w.heap.size = some (smC Sm.zero)) := Lib.hid ⟨B11.out.1.trans (Rn11.2.mono (by omega)), below_row Rn11.2 B11.out.2 (by omega)⟩
          clear Rn11
          go_upto_region 24 with fail
          clear c11 f11 zz11 R11 B11 d11
          generalize x11.setCell ⟨g4, 10, none⟩ (.int .i64 ((s0.started : Int) + (r.started.length : Int))) = x12 at *
          have c12 : x12.cell? ⟨g4, 11, none⟩ = some (.int .i64 (s0.done : Int)) := row_cell R12.out.r4 11
          have d12 : x12.cell? ⟨g11, 13, none⟩ = some (.slice a.a4 r.done.length a.c4) := row_cell R12.out.r11 13
          have f12 := row_frozen R12.out.r4 11
          have zz12 : IntKind.i64.wrap ((s0.done : Int) + (r.done.length : Int)) = (s0.done : Int) + (r.done.length : Int) := by rw [IntKind.wrap_i64]; have := HFw.out.done; have := HRs.out; omega
          have Rn12 := R12.out.set (s' := { { { { { { { s0 with ticks := s0.ticks + 1 } with quorums := s0.quorums + 1 } with leaks := s0.leaks + 1 } with out := s0.out + r.out.length } with left := s0.left + r.left.length } with started := s0.started + r.started.length } with done := s0.done + r.done.length }) 11 (.int .i64 ((s0.done : Int) + (r.done.length : Int))) (by rw [show (s0.done : Int) + (r.done.length : Int) = ((s0.done + r.done.length : Nat) : Int) by omega]; rfl) HNe.out
          have R13 := Lib.hid Rn12.1
          have B13 : Hid (Below w.heap.size w _ ∧ row _ w.heap.size = some (smC Sm.zero)) := Lib.hid ⟨B12.out.1.trans (Rn12.2.mono (by omega)), below_row Rn12.2 B12.out.2 (by omega)⟩
          clear Rn12
          go_wp2_with fail
          clear c12 f12 zz12 R12 B12 d12
          refine ⟨⟨j + 1, by go_num, by omega, Lib.hid ?_, Lib.hid ⟨B13.out.2, ?_, B13.out.1, R13.out.base⟩⟩, by simp [intOf]; omega⟩
          · rw [HSt.out]; simp only [List.map_append]; exact R13.out.five
          · rw [HSt.out, totS_snoc, R13.out.r4]; congr 1
        · have hq9 := hq
          have HFin : Hid (smC ({ { { { { { s0 with ticks := s0.ticks + 1 } with quorums := s0.quorums + 1 } with out := s0.out + r.out.length } with left := s0.left + r.left.length } with started := s0.started + r.started.length } with done := s0.done + r.done.length }) = smC (baseS (addS (totS S) (smOf r)))) := Lib.hid (by rw [HS0.out]; unfold smOf; rw [hq, hm4, decide_eq_false hl]; rfl)
          go_upto_region 13 with fail
          clear hqc
          have c2 : x2.cell? ⟨g4, 1, none⟩ = some (.int .i64 (s0.quorums : Int)) := row_cell R2.out.r4 1
          have f2 := row_frozen R2.out.r4 1
          have zz2 : IntKind.i64.wrap ((s0.quorums : Int) + 1) = (s0.quorums : Int) + 1 := by rw [IntKind.wrap_i64]; have := HFw.out.quorums; have := HRs.out; omega
          have Rn2 := R2.out.set (s' := { { s0 with ticks := s0.ticks + 1 } with quorums := s0.quorums + 1 }) 1 (.int .i64 ((s0.quorums : Int) + 1)) (by rw [show (s0.quorums : Int) + 1 = ((s0.quorums + 1 : Nat) : Int) by omega]; rfl) HNe.out
          have R3 := Lib.hid Rn2.1
          have B3 : Hid (Below w.heap.size w _ ∧ row _ w.heap.size = some (smC Sm.zero)) := Lib.hid ⟨B2.out.1.trans (Rn2.2.mono (by omega)), below_row Rn2.2 B2.out.2 (by omega)⟩
          clear Rn2
          go_upto_region 14 with fail
          clear c2 f2 zz2 R2 B2
          generalize x2.setCell ⟨g4, 1, none⟩ (.int .i64 ((s0.quorums : Int) + 1)) = x3 at *
          have hmc : x3.cell? ⟨g11, 1, none⟩ = some (.int .i64 r.mode) := row_cell R3.out.r11 1
          go_upto_region 16 with fail
          clear hmc
          have d3 : x3.cell? ⟨g11, 5, none⟩ = some (.int .u64 (r.minted : Int)) := row_cell R3.out.r11 5
          have Ra3 := Lib.hid (R3.out.stay ((Below.refl _ _).alloc (Nat.le_refl _) (.cells (natK r.minted) 33)))
          have Ba3 : Hid (Below w.heap.size w (x3.alloc (.cells (natK r.minted) 33)) ∧ row (x3.alloc (.cells (natK r.minted) 33)) w.heap.size = some (smC Sm.zero)) := Lib.hid ⟨Below.allocT B3.out.1 _, (row_past _ _ _ (row_lt B3.out.2)).trans B3.out.2⟩
          go_upto_region 17 with (at_builtin; refine wpList_append_d natK_under natK_info rfl (by decide) (by decide) natK_size natK_one rfl _ _ rfl (w.heap.size + 2) _ (S.map fun s : Sm => s.mon 0) rfl Ra3.out.five.o0 _ 1 r.minted rfl (row_at _ _ _ _ rfl) j (HLen.out 0) (by rw [HLen.out]; omega) Ra3.out.base ?_; intro A4 e4 x4 hO4 hg4 hor4; have Rn4 := Ra3.out.push0 hg4 hO4 hor4; have R4 := Lib.hid Rn4.1; have B4 : Hid (Below w.heap.size w x4 ∧ row x4 w.heap.size = some (smC Sm.zero)) := Lib.hid ⟨Ba3.out.1.trans (Rn4.2.mono (by omega)), below_row Rn4.2 Ba3.out.2 (by omega)⟩; clear hO4 hg4 hor4 Rn4)
          clear d3 Ra3 Ba3 R3 B3
          have d4 : x4.cell? ⟨g11, 6, none⟩ = some (.int .u64 (r.paid : Int)) := row_cell R4.out.r11 6
          have Ra4 := Lib.hid (R4.out.stay ((Below.refl _ _).alloc (Nat.le_refl _) (.cells (natK r.paid) 33)))
          have Ba4 : Hid (Below w.heap.size w (x4.alloc (.cells (natK r.paid) 33)) ∧ row (x4.alloc (.cells (natK r.paid) 33)) w.heap.size = some (smC Sm.zero)) := Lib.hid ⟨Below.allocT B4.out.1 _, (row_past _ _ _ (row_lt B4.out.2)).trans B4.out.2⟩
          go_upto_region 18 with (at_builtin; refine wpList_append_d natK_under natK_info rfl (by decide) (by decide) natK_size natK_one rfl _ _ rfl (w.heap.size + 2) _ (S.map fun s : Sm => s.mon 1) rfl Ra4.out.five.o1 _ 1 r.paid rfl (row_at _ _ _ _ rfl) j (HLen.out 1) (by rw [HLen.out]; omega) Ra4.out.base ?_; intro A5 e5 x5 hO5 hg5 hor5; have Rn5 := Ra4.out.push1 hg5 hO5 hor5; have R5 := Lib.hid Rn5.1; have B5 : Hid (Below w.heap.size w x5 ∧ row x5 w.heap.size = some (smC Sm.zero)) := Lib.hid ⟨Ba4.out.1.trans (Rn5.2.mono (by omega)), below_row Rn5.2 Ba4.out.2 (by omega)⟩; clear hO5 hg5 hor5 Rn5)
          clear d4 Ra4 Ba4 R4 B4
          have d5 : x5.cell? ⟨g11, 7, none⟩ = some (.int .u64 (r.kept : Int)) := row_cell R5.out.r11 7
          have Ra5 := Lib.hid (R5.out.stay ((Below.refl _ _).alloc (Nat.le_refl _) (.cells (natK r.kept) 33)))
          have Ba5 : Hid (Below w.heap.size w (x5.alloc (.cells (natK r.kept) 33)) ∧ row (x5.alloc (.cells (natK r.kept) 33)) w.heap.size = some (smC Sm.zero)) := Lib.hid ⟨Below.allocT B5.out.1 _, (row_past _ _ _ (row_lt B5.out.2)).trans B5.out.2⟩
          go_upto_region 19 with (at_builtin; refine wpList_append_d natK_under natK_info rfl (by decide) (by decide) natK_size natK_one rfl _ _ rfl (w.heap.size + 2) _ (S.map fun s : Sm => s.mon 2) rfl Ra5.out.five.o2 _ 1 r.kept rfl (row_at _ _ _ _ rfl) j (HLen.out 2) (by rw [HLen.out]; omega) Ra5.out.base ?_; intro A6 e6 x6 hO6 hg6 hor6; have Rn6 := Ra5.out.push2 hg6 hO6 hor6; have R6 := Lib.hid Rn6.1; have B6 : Hid (Below w.heap.size w x6 ∧ row x6 w.heap.size = some (smC Sm.zero)) := Lib.hid ⟨Ba5.out.1.trans (Rn6.2.mono (by omega)), below_row Rn6.2 Ba5.out.2 (by omega)⟩; clear hO6 hg6 hor6 Rn6)
          clear d5 Ra5 Ba5 R5 B5
          have d6 : x6.cell? ⟨g11, 8, none⟩ = some (.int .u64 (r.burned : Int)) := row_cell R6.out.r11 8
          have Ra6 := Lib.hid (R6.out.stay ((Below.refl _ _).alloc (Nat.le_refl _) (.cells (natK r.burned) 33)))
          have Ba6 : Hid (Below w.heap.size w (x6.alloc (.cells (natK r.burned) 33)) ∧ row (x6.alloc (.cells (natK r.burned) 33)) w.heap.size = some (smC Sm.zero)) := Lib.hid ⟨Below.allocT B6.out.1 _, (row_past _ _ _ (row_lt B6.out.2)).trans B6.out.2⟩
          go_upto_region 20 with (at_builtin; refine wpList_append_d natK_under natK_info rfl (by decide) (by decide) natK_size natK_one rfl _ _ rfl (w.heap.size + 2) _ (S.map fun s : Sm => s.mon 3) rfl Ra6.out.five.o3 _ 1 r.burned rfl (row_at _ _ _ _ rfl) j (HLen.out 3) (by rw [HLen.out]; omega) Ra6.out.base ?_; intro A7 e7 x7 hO7 hg7 hor7; have Rn7 := Ra6.out.push3 hg7 hO7 hor7; have R7 := Lib.hid Rn7.1; have B7 : Hid (Below w.heap.size w x7 ∧ row x7 w.heap.size = some (smC Sm.zero)) := Lib.hid ⟨Ba6.out.1.trans (Rn7.2.mono (by omega)), below_row Rn7.2 Ba6.out.2 (by omega)⟩; clear hO7 hg7 hor7 Rn7)
          clear d6 Ra6 Ba6 R6 B6
          have d7 : x7.cell? ⟨g11, 9, none⟩ = some (.int .u64 (r.fees : Int)) := row_cell R7.out.r11 9
          have Ra7 := Lib.hid (R7.out.stay ((Below.refl _ _).alloc (Nat.le_refl _) (.cells (natK r.fees) 33)))
          have Ba7 : Hid (Below w.heap.size w (x7.alloc (.cells (natK r.fees) 33)) ∧ row (x7.alloc (.cells (natK r.fees) 33)) w.heap.size = some (smC Sm.zero)) := Lib.hid ⟨Below.allocT B7.out.1 _, (row_past _ _ _ (row_lt B7.out.2)).trans B7.out.2⟩
          go_upto_region 21 with (at_builtin; refine wpList_append_d natK_under natK_info rfl (by decide) (by decide) natK_size natK_one rfl _ _ rfl (w.heap.size + 2) _ (S.map fun s : Sm => s.mon 4) rfl Ra7.out.five.o4 _ 1 r.fees rfl (row_at _ _ _ _ rfl) j (HLen.out 4) (by rw [HLen.out]; omega) Ra7.out.base ?_; intro A8 e8 x8 hO8 hg8 hor8; have Rn8 := Ra7.out.push4 hg8 hO8 hor8; have R8 := Lib.hid Rn8.1; have B8 : Hid (Below w.heap.size w x8 ∧ row x8 w.heap.size = some (smC Sm.zero)) := Lib.hid ⟨Ba7.out.1.trans (Rn8.2.mono (by omega)), below_row Rn8.2 Ba7.out.2 (by omega)⟩; clear hO8 hg8 hor8 Rn8)
          clear d7 Ra7 Ba7 R7 B7
          have c8 : x8.cell? ⟨g4, 8, none⟩ = some (.int .i64 (s0.out : Int)) := row_cell R8.out.r4 8
          have d8 : x8.cell? ⟨g11, 10, none⟩ = some (.slice a.a1 r.out.length a.c1) := row_cell R8.out.r11 10
          have f8 := row_frozen R8.out.r4 8
          have zz8 : IntKind.i64.wrap ((s0.out : Int) + (r.out.length : Int)) = (s0.out : Int) + (r.out.length : Int) := by rw [IntKind.wrap_i64]; have := HFw.out.out; have := HRs.out; omega
          have Rn8 := R8.out.set (s' := { { { s0 with ticks := s0.ticks + 1 } with quorums := s0.quorums + 1 } with out := s0.out + r.out.length }) 8 (.int .i64 ((s0.out : Int) + (r.out.length : Int))) (by rw [show (s0.out : Int) + (r.out.length : Int) = ((s0.out + r.out.length : Nat) : Int) by omega]; rfl) HNe.out
          have R9 := Lib.hid Rn8.1
          have B9 : Hid (Below w.heap.size w _ ∧ row _ w.heap.size = some (smC Sm.zero)) := Lib.hid ⟨B8.out.1.trans (Rn8.2.mono (by omega)), below_row Rn8.2 B8.out.2 (by omega)⟩
          clear Rn8
          go_upto_region 22 with fail
          clear c8 f8 zz8 R8 B8 d8
          generalize x8.setCell ⟨g4, 8, none⟩ (.int .i64 ((s0.out : Int) + (r.out.length : Int))) = x9 at *
          have c9 : x9.cell? ⟨g4, 9, none⟩ = some (.int .i64 (s0.left : Int)) := row_cell R9.out.r4 9
          have d9 : x9.cell? ⟨g11, 11, none⟩ = some (.slice a.a2 r.left.length a.c2) := row_cell R9.out.r11 11
          have f9 := row_frozen R9.out.r4 9
          have zz9 : IntKind.i64.wrap ((s0.left : Int) + (r.left.length : Int)) = (s0.left : Int) + (r.left.length : Int) := by rw [IntKind.wrap_i64]; have := HFw.out.left; have := HRs.out; omega
          have Rn9 := R9.out.set (s' := { { { { s0 with ticks := s0.ticks + 1 } with quorums := s0.quorums + 1 } with out := s0.out + r.out.length } with left := s0.left + r.left.length }) 9 (.int .i64 ((s0.left : Int) + (r.left.length : Int))) (by rw [show (s0.left : Int) + (r.left.length : Int) = ((s0.left + r.left.length : Nat) : Int) by omega]; rfl) HNe.out
          have R10 := Lib.hid Rn9.1
          have B10 : Hid (Below w.heap.size w _ ∧ row _ w.heap.size = some (smC Sm.zero)) := Lib.hid ⟨B9.out.1.trans (Rn9.2.mono (by omega)), below_row Rn9.2 B9.out.2 (by omega)⟩
          clear Rn9
          go_upto_region 23 with fail
          clear c9 f9 zz9 R9 B9 d9
          generalize x9.setCell ⟨g4, 9, none⟩ (.int .i64 ((s0.left : Int) + (r.left.length : Int))) = x10 at *
          have c10 : x10.cell? ⟨g4, 10, none⟩ = some (.int .i64 (s0.started : Int)) := row_cell R10.out.r4 10
          have d10 : x10.cell? ⟨g11, 12, none⟩ = some (.slice a.a3 r.started.length a.c3) := row_cell R10.out.r11 12
          have f10 := row_frozen R10.out.r4 10
          have zz10 : IntKind.i64.wrap ((s0.started : Int) + (r.started.length : Int)) = (s0.started : Int) + (r.started.length : Int) := by rw [IntKind.wrap_i64]; have := HFw.out.started; have := HRs.out; omega
          have Rn10 := R10.out.set (s' := { { { { { s0 with ticks := s0.ticks + 1 } with quorums := s0.quorums + 1 } with out := s0.out + r.out.length } with left := s0.left + r.left.length } with started := s0.started + r.started.length }) 10 (.int .i64 ((s0.started : Int) + (r.started.length : Int))) (by rw [show (s0.started : Int) + (r.started.length : Int) = ((s0.started + r.started.length : Nat) : Int) by omega]; rfl) HNe.out
          have R11 := Lib.hid Rn10.1
          have B11 : Hid (Below w.heap.size w _ ∧ row _ w.heap.size = some (smC Sm.zero)) := Lib.hid ⟨B10.out.1.trans (Rn10.2.mono (by omega)), below_row Rn10.2 B10.out.2 (by omega)⟩
          clear Rn10
          go_upto_region 24 with fail
          clear c10 f10 zz10 R10 B10 d10
          generalize x10.setCell ⟨g4, 10, none⟩ (.int .i64 ((s0.started : Int) + (r.started.length : Int))) = x11 at *
          have c11 : x11.cell? ⟨g4, 11, none⟩ = some (.int .i64 (s0.done : Int)) := row_cell R11.out.r4 11
          have d11 : x11.cell? ⟨g11, 13, none⟩ = some (.slice a.a4 r.done.length a.c4) := row_cell R11.out.r11 13
          have f11 := row_frozen R11.out.r4 11
          have zz11 : IntKind.i64.wrap ((s0.done : Int) + (r.done.length : Int)) = (s0.done : Int) + (r.done.length : Int) := by rw [IntKind.wrap_i64]; have := HFw.out.done; have := HRs.out; omega
          have Rn11 := R11.out.set (s' := { { { { { { s0 with ticks := s0.ticks + 1 } with quorums := s0.quorums + 1 } with out := s0.out + r.out.length } with left := s0.left + r.left.length } with started := s0.started + r.started.length } with done := s0.done + r.done.length }) 11 (.int .i64 ((s0.done : Int) + (r.done.length : Int))) (by rw [show (s0.done : Int) + (r.done.length : Int) = ((s0.done + r.done.length : Nat) : Int) by omega]; rfl) HNe.out
          have R12 := Lib.hid Rn11.1
          have B12 : Hid (Below w.heap.size w _ ∧ row _ w.heap.size = some (smC Sm.zero)) := Lib.hid ⟨B11.out.1.trans (Rn11.2.mono (by omega)), below_row Rn11.2 B11.out.2 (by omega)⟩
          clear Rn11
          go_wp2_with fail
          clear c11 f11 zz11 R11 B11 d11
          refine ⟨⟨j + 1, by go_num, by omega, Lib.hid ?_, Lib.hid ⟨B12.out.2, ?_, B12.out.1, R12.out.base⟩⟩, by simp [intOf]; omega⟩
          · rw [HSt.out]; simp only [List.map_append]; exact R12.out.five
          · rw [HSt.out, totS_snoc, R12.out.r4]; congr 1
      · have hq' : r.quorum = false := by simpa using hq
        rw [hq'] at hqc
        by_cases hl : 2 < r.mode
        · have hq9 := hq
          have HFin : Hid (smC ({ { { { { { s0 with ticks := s0.ticks + 1 } with leaks := s0.leaks + 1 } with out := s0.out + r.out.length } with left := s0.left + r.left.length } with started := s0.started + r.started.length } with done := s0.done + r.done.length }) = smC (baseS (addS (totS S) (smOf r)))) := Lib.hid (by rw [HS0.out]; unfold smOf; rw [show r.quorum = false by simpa using hq, hm4, decide_eq_true hl]; rfl)
          go_upto_region 14 with fail
          clear hqc
          have hmc : x2.cell? ⟨g11, 1, none⟩ = some (.int .i64 r.mode) := row_cell R2.out.r11 1
          go_upto_region 15 with fail
          clear hmc
          have c2 : x2.cell? ⟨g4, 2, none⟩ = some (.int .i64 (s0.leaks : Int)) := row_cell R2.out.r4 2
          have f2 := row_frozen R2.out.r4 2
          have zz2 : IntKind.i64.wrap ((s0.leaks : Int) + 1) = (s0.leaks : Int) + 1 := by rw [IntKind.wrap_i64]; have := HFw.out.leaks; have := HRs.out; omega
          have Rn2 := R2.out.set (s' := { { s0 with ticks := s0.ticks + 1 } with leaks := s0.leaks + 1 }) 2 (.int .i64 ((s0.leaks : Int) + 1)) (by rw [show (s0.leaks : Int) + 1 = ((s0.leaks + 1 : Nat) : Int) by omega]; rfl) HNe.out
          have R3 := Lib.hid Rn2.1
          have B3 : Hid (Below w.heap.size w _ ∧ row _ w.heap.size = some (smC Sm.zero)) := Lib.hid ⟨B2.out.1.trans (Rn2.2.mono (by omega)), below_row Rn2.2 B2.out.2 (by omega)⟩
          clear Rn2
          go_upto_region 16 with fail
          clear c2 f2 zz2 R2 B2
          generalize x2.setCell ⟨g4, 2, none⟩ (.int .i64 ((s0.leaks : Int) + 1)) = x3 at *
          have d3 : x3.cell? ⟨g11, 5, none⟩ = some (.int .u64 (r.minted : Int)) := row_cell R3.out.r11 5
          have Ra3 := Lib.hid (R3.out.stay ((Below.refl _ _).alloc (Nat.le_refl _) (.cells (natK r.minted) 33)))
          have Ba3 : Hid (Below w.heap.size w (x3.alloc (.cells (natK r.minted) 33)) ∧ row (x3.alloc (.cells (natK r.minted) 33)) w.heap.size = some (smC Sm.zero)) := Lib.hid ⟨Below.allocT B3.out.1 _, (row_past _ _ _ (row_lt B3.out.2)).trans B3.out.2⟩
          go_upto_region 17 with (at_builtin; refine wpList_append_d natK_under natK_info rfl (by decide) (by decide) natK_size natK_one rfl _ _ rfl (w.heap.size + 2) _ (S.map fun s : Sm => s.mon 0) rfl Ra3.out.five.o0 _ 1 r.minted rfl (row_at _ _ _ _ rfl) j (HLen.out 0) (by rw [HLen.out]; omega) Ra3.out.base ?_; intro A4 e4 x4 hO4 hg4 hor4; have Rn4 := Ra3.out.push0 hg4 hO4 hor4; have R4 := Lib.hid Rn4.1; have B4 : Hid (Below w.heap.size w x4 ∧ row x4 w.heap.size = some (smC Sm.zero)) := Lib.hid ⟨Ba3.out.1.trans (Rn4.2.mono (by omega)), below_row Rn4.2 Ba3.out.2 (by omega)⟩; clear hO4 hg4 hor4 Rn4)
          clear d3 Ra3 Ba3 R3 B3
          have d4 : x4.cell? ⟨g11, 6, none⟩ = some (.int .u64 (r.paid : Int)) := row_cell R4.out.r11 6
          have Ra4 := Lib.hid (R4.out.stay ((Below.refl _ _).alloc (Nat.le_refl _) (.cells (natK r.paid) 33)))
          have Ba4 : Hid (Below w.heap.size w (x4.alloc (.cells (natK r.paid) 33)) ∧ row (x4.alloc (.cells (natK r.paid) 33)) w.heap.size = some (smC Sm.zero)) := Lib.hid ⟨Below.allocT B4.out.1 _, (row_past _ _ _ (row_lt B4.out.2)).trans B4.out.2⟩
          go_upto_region 18 with (at_builtin; refine wpList_append_d natK_under natK_info rfl (by decide) (by decide) natK_size natK_one rfl _ _ rfl (w.heap.size + 2) _ (S.map fun s : Sm => s.mon 1) rfl Ra4.out.five.o1 _ 1 r.paid rfl (row_at _ _ _ _ rfl) j (HLen.out 1) (by rw [HLen.out]; omega) Ra4.out.base ?_; intro A5 e5 x5 hO5 hg5 hor5; have Rn5 := Ra4.out.push1 hg5 hO5 hor5; have R5 := Lib.hid Rn5.1; have B5 : Hid (Below w.heap.size w x5 ∧ row x5 w.heap.size = some (smC Sm.zero)) := Lib.hid ⟨Ba4.out.1.trans (Rn5.2.mono (by omega)), below_row Rn5.2 Ba4.out.2 (by omega)⟩; clear hO5 hg5 hor5 Rn5)
          clear d4 Ra4 Ba4 R4 B4
          have d5 : x5.cell? ⟨g11, 7, none⟩ = some (.int .u64 (r.kept : Int)) := row_cell R5.out.r11 7
          have Ra5 := Lib.hid (R5.out.stay ((Below.refl _ _).alloc (Nat.le_refl _) (.cells (natK r.kept) 33)))
          have Ba5 : Hid (Below w.heap.size w (x5.alloc (.cells (natK r.kept) 33)) ∧ row (x5.alloc (.cells (natK r.kept) 33)) w.heap.size = some (smC Sm.zero)) := Lib.hid ⟨Below.allocT B5.out.1 _, (row_past _ _ _ (row_lt B5.out.2)).trans B5.out.2⟩
          go_upto_region 19 with (at_builtin; refine wpList_append_d natK_under natK_info rfl (by decide) (by decide) natK_size natK_one rfl _ _ rfl (w.heap.size + 2) _ (S.map fun s : Sm => s.mon 2) rfl Ra5.out.five.o2 _ 1 r.kept rfl (row_at _ _ _ _ rfl) j (HLen.out 2) (by rw [HLen.out]; omega) Ra5.out.base ?_; intro A6 e6 x6 hO6 hg6 hor6; have Rn6 := Ra5.out.push2 hg6 hO6 hor6; have R6 := Lib.hid Rn6.1; have B6 : Hid (Below w.heap.size w x6 ∧ row x6 w.heap.size = some (smC Sm.zero)) := Lib.hid ⟨Ba5.out.1.trans (Rn6.2.mono (by omega)), below_row Rn6.2 Ba5.out.2 (by omega)⟩; clear hO6 hg6 hor6 Rn6)
          clear d5 Ra5 Ba5 R5 B5
          have d6 : x6.cell? ⟨g11, 8, none⟩ = some (.int .u64 (r.burned : Int)) := row_cell R6.out.r11 8
          have Ra6 := Lib.hid (R6.out.stay ((Below.refl _ _).alloc (Nat.le_refl _) (.cells (natK r.burned) 33)))
          have Ba6 : Hid (Below w.heap.size w (x6.alloc (.cells (natK r.burned) 33)) ∧ row (x6.alloc (.cells (natK r.burned) 33)) w.heap.size = some (smC Sm.zero)) := Lib.hid ⟨Below.allocT B6.out.1 _, (row_past _ _ _ (row_lt B6.out.2)).trans B6.out.2⟩
          go_upto_region 20 with (at_builtin; refine wpList_append_d natK_under natK_info rfl (by decide) (by decide) natK_size natK_one rfl _ _ rfl (w.heap.size + 2) _ (S.map fun s : Sm => s.mon 3) rfl Ra6.out.five.o3 _ 1 r.burned rfl (row_at _ _ _ _ rfl) j (HLen.out 3) (by rw [HLen.out]; omega) Ra6.out.base ?_; intro A7 e7 x7 hO7 hg7 hor7; have Rn7 := Ra6.out.push3 hg7 hO7 hor7; have R7 := Lib.hid Rn7.1; have B7 : Hid (Below w.heap.size w x7 ∧ row x7 w.heap.size = some (smC Sm.zero)) := Lib.hid ⟨Ba6.out.1.trans (Rn7.2.mono (by omega)), below_row Rn7.2 Ba6.out.2 (by omega)⟩; clear hO7 hg7 hor7 Rn7)
          clear d6 Ra6 Ba6 R6 B6
          have d7 : x7.cell? ⟨g11, 9, none⟩ = some (.int .u64 (r.fees : Int)) := row_cell R7.out.r11 9
          have Ra7 := Lib.hid (R7.out.stay ((Below.refl _ _).alloc (Nat.le_refl _) (.cells (natK r.fees) 33)))
          have Ba7 : Hid (Below w.heap.size w (x7.alloc (.cells (natK r.fees) 33)) ∧ row (x7.alloc (.cells (natK r.fees) 33)) w.heap.size = some (smC Sm.zero)) := Lib.hid ⟨Below.allocT B7.out.1 _, (row_past _ _ _ (row_lt B7.out.2)).trans B7.out.2⟩
          go_upto_region 21 with (at_builtin; refine wpList_append_d natK_under natK_info rfl (by decide) (by decide) natK_size natK_one rfl _ _ rfl (w.heap.size + 2) _ (S.map fun s : Sm => s.mon 4) rfl Ra7.out.five.o4 _ 1 r.fees rfl (row_at _ _ _ _ rfl) j (HLen.out 4) (by rw [HLen.out]; omega) Ra7.out.base ?_; intro A8 e8 x8 hO8 hg8 hor8; have Rn8 := Ra7.out.push4 hg8 hO8 hor8; have R8 := Lib.hid Rn8.1; have B8 : Hid (Below w.heap.size w x8 ∧ row x8 w.heap.size = some (smC Sm.zero)) := Lib.hid ⟨Ba7.out.1.trans (Rn8.2.mono (by omega)), below_row Rn8.2 Ba7.out.2 (by omega)⟩; clear hO8 hg8 hor8 Rn8)
          clear d7 Ra7 Ba7 R7 B7
          have c8 : x8.cell? ⟨g4, 8, none⟩ = some (.int .i64 (s0.out : Int)) := row_cell R8.out.r4 8
          have d8 : x8.cell? ⟨g11, 10, none⟩ = some (.slice a.a1 r.out.length a.c1) := row_cell R8.out.r11 10
          have f8 := row_frozen R8.out.r4 8
          have zz8 : IntKind.i64.wrap ((s0.out : Int) + (r.out.length : Int)) = (s0.out : Int) + (r.out.length : Int) := by rw [IntKind.wrap_i64]; have := HFw.out.out; have := HRs.out; omega
          have Rn8 := R8.out.set (s' := { { { s0 with ticks := s0.ticks + 1 } with leaks := s0.leaks + 1 } with out := s0.out + r.out.length }) 8 (.int .i64 ((s0.out : Int) + (r.out.length : Int))) (by rw [show (s0.out : Int) + (r.out.length : Int) = ((s0.out + r.out.length : Nat) : Int) by omega]; rfl) HNe.out
          have R9 := Lib.hid Rn8.1
          have B9 : Hid (Below w.heap.size w _ ∧ row _ w.heap.size = some (smC Sm.zero)) := Lib.hid ⟨B8.out.1.trans (Rn8.2.mono (by omega)), below_row Rn8.2 B8.out.2 (by omega)⟩
          clear Rn8
          go_upto_region 22 with fail
          clear c8 f8 zz8 R8 B8 d8
          generalize x8.setCell ⟨g4, 8, none⟩ (.int .i64 ((s0.out : Int) + (r.out.length : Int))) = x9 at *
          have c9 : x9.cell? ⟨g4, 9, none⟩ = some (.int .i64 (s0.left : Int)) := row_cell R9.out.r4 9
          have d9 : x9.cell? ⟨g11, 11, none⟩ = some (.slice a.a2 r.left.length a.c2) := row_cell R9.out.r11 11
          have f9 := row_frozen R9.out.r4 9
          have zz9 : IntKind.i64.wrap ((s0.left : Int) + (r.left.length : Int)) = (s0.left : Int) + (r.left.length : Int) := by rw [IntKind.wrap_i64]; have := HFw.out.left; have := HRs.out; omega
          have Rn9 := R9.out.set (s' := { { { { s0 with ticks := s0.ticks + 1 } with leaks := s0.leaks + 1 } with out := s0.out + r.out.length } with left := s0.left + r.left.length }) 9 (.int .i64 ((s0.left : Int) + (r.left.length : Int))) (by rw [show (s0.left : Int) + (r.left.length : Int) = ((s0.left + r.left.length : Nat) : Int) by omega]; rfl) HNe.out
          have R10 := Lib.hid Rn9.1
          have B10 : Hid (Below w.heap.size w _ ∧ row _ w.heap.size = some (smC Sm.zero)) := Lib.hid ⟨B9.out.1.trans (Rn9.2.mono (by omega)), below_row Rn9.2 B9.out.2 (by omega)⟩
          clear Rn9
          go_upto_region 23 with fail
          clear c9 f9 zz9 R9 B9 d9
          generalize x9.setCell ⟨g4, 9, none⟩ (.int .i64 ((s0.left : Int) + (r.left.length : Int))) = x10 at *
          have c10 : x10.cell? ⟨g4, 10, none⟩ = some (.int .i64 (s0.started : Int)) := row_cell R10.out.r4 10
          have d10 : x10.cell? ⟨g11, 12, none⟩ = some (.slice a.a3 r.started.length a.c3) := row_cell R10.out.r11 12
          have f10 := row_frozen R10.out.r4 10
          have zz10 : IntKind.i64.wrap ((s0.started : Int) + (r.started.length : Int)) = (s0.started : Int) + (r.started.length : Int) := by rw [IntKind.wrap_i64]; have := HFw.out.started; have := HRs.out; omega
          have Rn10 := R10.out.set (s' := { { { { { s0 with ticks := s0.ticks + 1 } with leaks := s0.leaks + 1 } with out := s0.out + r.out.length } with left := s0.left + r.left.length } with started := s0.started + r.started.length }) 10 (.int .i64 ((s0.started : Int) + (r.started.length : Int))) (by rw [show (s0.started : Int) + (r.started.length : Int) = ((s0.started + r.started.length : Nat) : Int) by omega]; rfl) HNe.out
          have R11 := Lib.hid Rn10.1
          have B11 : Hid (Below w.heap.size w _ ∧ row _ w.heap.size = some (smC Sm.zero)) := Lib.hid ⟨B10.out.1.trans (Rn10.2.mono (by omega)), below_row Rn10.2 B10.out.2 (by omega)⟩
          clear Rn10
          go_upto_region 24 with fail
          clear c10 f10 zz10 R10 B10 d10
          generalize x10.setCell ⟨g4, 10, none⟩ (.int .i64 ((s0.started : Int) + (r.started.length : Int))) = x11 at *
          have c11 : x11.cell? ⟨g4, 11, none⟩ = some (.int .i64 (s0.done : Int)) := row_cell R11.out.r4 11
          have d11 : x11.cell? ⟨g11, 13, none⟩ = some (.slice a.a4 r.done.length a.c4) := row_cell R11.out.r11 13
          have f11 := row_frozen R11.out.r4 11
          have zz11 : IntKind.i64.wrap ((s0.done : Int) + (r.done.length : Int)) = (s0.done : Int) + (r.done.length : Int) := by rw [IntKind.wrap_i64]; have := HFw.out.done; have := HRs.out; omega
          have Rn11 := R11.out.set (s' := { { { { { { s0 with ticks := s0.ticks + 1 } with leaks := s0.leaks + 1 } with out := s0.out + r.out.length } with left := s0.left + r.left.length } with started := s0.started + r.started.length } with done := s0.done + r.done.length }) 11 (.int .i64 ((s0.done : Int) + (r.done.length : Int))) (by rw [show (s0.done : Int) + (r.done.length : Int) = ((s0.done + r.done.length : Nat) : Int) by omega]; rfl) HNe.out
          have R12 := Lib.hid Rn11.1
          have B12 : Hid (Below w.heap.size w _ ∧ row _ w.heap.size = some (smC Sm.zero)) := Lib.hid ⟨B11.out.1.trans (Rn11.2.mono (by omega)), below_row Rn11.2 B11.out.2 (by omega)⟩
          clear Rn11
          go_wp2_with fail
          clear c11 f11 zz11 R11 B11 d11
          refine ⟨⟨j + 1, by go_num, by omega, Lib.hid ?_, Lib.hid ⟨B12.out.2, ?_, B12.out.1, R12.out.base⟩⟩, by simp [intOf]; omega⟩
          · rw [HSt.out]; simp only [List.map_append]; exact R12.out.five
          · rw [HSt.out, totS_snoc, R12.out.r4]; congr 1
        · have hq9 := hq
          have HFin : Hid (smC ({ { { { { s0 with ticks := s0.ticks + 1 } with out := s0.out + r.out.length } with left := s0.left + r.left.length } with started := s0.started + r.started.length } with done := s0.done + r.done.length }) = smC (baseS (addS (totS S) (smOf r)))) := Lib.hid (by rw [HS0.out]; unfold smOf; rw [show r.quorum = false by simpa using hq, hm4, decide_eq_false hl]; rfl)
          go_upto_region 14 with fail
          clear hqc
          have hmc : x2.cell? ⟨g11, 1, none⟩ = some (.int .i64 r.mode) := row_cell R2.out.r11 1
          go_upto_region 16 with fail
          clear hmc
          have d2 : x2.cell? ⟨g11, 5, none⟩ = some (.int .u64 (r.minted : Int)) := row_cell R2.out.r11 5
          have Ra2 := Lib.hid (R2.out.stay ((Below.refl _ _).alloc (Nat.le_refl _) (.cells (natK r.minted) 33)))
          have Ba2 : Hid (Below w.heap.size w (x2.alloc (.cells (natK r.minted) 33)) ∧ row (x2.alloc (.cells (natK r.minted) 33)) w.heap.size = some (smC Sm.zero)) := Lib.hid ⟨Below.allocT B2.out.1 _, (row_past _ _ _ (row_lt B2.out.2)).trans B2.out.2⟩
          go_upto_region 17 with (at_builtin; refine wpList_append_d natK_under natK_info rfl (by decide) (by decide) natK_size natK_one rfl _ _ rfl (w.heap.size + 2) _ (S.map fun s : Sm => s.mon 0) rfl Ra2.out.five.o0 _ 1 r.minted rfl (row_at _ _ _ _ rfl) j (HLen.out 0) (by rw [HLen.out]; omega) Ra2.out.base ?_; intro A3 e3 x3 hO3 hg3 hor3; have Rn3 := Ra2.out.push0 hg3 hO3 hor3; have R3 := Lib.hid Rn3.1; have B3 : Hid (Below w.heap.size w x3 ∧ row x3 w.heap.size = some (smC Sm.zero)) := Lib.hid ⟨Ba2.out.1.trans (Rn3.2.mono (by omega)), below_row Rn3.2 Ba2.out.2 (by omega)⟩; clear hO3 hg3 hor3 Rn3)
          clear d2 Ra2 Ba2 R2 B2
          have d3 : x3.cell? ⟨g11, 6, none⟩ = some (.int .u64 (r.paid : Int)) := row_cell R3.out.r11 6
          have Ra3 := Lib.hid (R3.out.stay ((Below.refl _ _).alloc (Nat.le_refl _) (.cells (natK r.paid) 33)))
          have Ba3 : Hid (Below w.heap.size w (x3.alloc (.cells (natK r.paid) 33)) ∧ row (x3.alloc (.cells (natK r.paid) 33)) w.heap.size = some (smC Sm.zero)) := Lib.hid ⟨Below.allocT B3.out.1 _, (row_past _ _ _ (row_lt B3.out.2)).trans B3.out.2⟩
          go_upto_region 18 with (at_builtin; refine wpList_append_d natK_under natK_info rfl (by decide) (by decide) natK_size natK_one rfl _ _ rfl (w.heap.size + 2) _ (S.map fun s : Sm => s.mon 1) rfl Ra3.out.five.o1 _ 1 r.paid rfl (row_at _ _ _ _ rfl) j (HLen.out 1) (by rw [HLen.out]; omega) Ra3.out.base ?_; intro A4 e4 x4 hO4 hg4 hor4; have Rn4 := Ra3.out.push1 hg4 hO4 hor4; have R4 := Lib.hid Rn4.1; have B4 : Hid (Below w.heap.size w x4 ∧ row x4 w.heap.size = some (smC Sm.zero)) := Lib.hid ⟨Ba3.out.1.trans (Rn4.2.mono (by omega)), below_row Rn4.2 Ba3.out.2 (by omega)⟩; clear hO4 hg4 hor4 Rn4)
          clear d3 Ra3 Ba3 R3 B3
          have d4 : x4.cell? ⟨g11, 7, none⟩ = some (.int .u64 (r.kept : Int)) := row_cell R4.out.r11 7
          have Ra4 := Lib.hid (R4.out.stay ((Below.refl _ _).alloc (Nat.le_refl _) (.cells (natK r.kept) 33)))
          have Ba4 : Hid (Below w.heap.size w (x4.alloc (.cells (natK r.kept) 33)) ∧ row (x4.alloc (.cells (natK r.kept) 33)) w.heap.size = some (smC Sm.zero)) := Lib.hid ⟨Below.allocT B4.out.1 _, (row_past _ _ _ (row_lt B4.out.2)).trans B4.out.2⟩
          go_upto_region 19 with (at_builtin; refine wpList_append_d natK_under natK_info rfl (by decide) (by decide) natK_size natK_one rfl _ _ rfl (w.heap.size + 2) _ (S.map fun s : Sm => s.mon 2) rfl Ra4.out.five.o2 _ 1 r.kept rfl (row_at _ _ _ _ rfl) j (HLen.out 2) (by rw [HLen.out]; omega) Ra4.out.base ?_; intro A5 e5 x5 hO5 hg5 hor5; have Rn5 := Ra4.out.push2 hg5 hO5 hor5; have R5 := Lib.hid Rn5.1; have B5 : Hid (Below w.heap.size w x5 ∧ row x5 w.heap.size = some (smC Sm.zero)) := Lib.hid ⟨Ba4.out.1.trans (Rn5.2.mono (by omega)), below_row Rn5.2 Ba4.out.2 (by omega)⟩; clear hO5 hg5 hor5 Rn5)
          clear d4 Ra4 Ba4 R4 B4
          have d5 : x5.cell? ⟨g11, 8, none⟩ = some (.int .u64 (r.burned : Int)) := row_cell R5.out.r11 8
          have Ra5 := Lib.hid (R5.out.stay ((Below.refl _ _).alloc (Nat.le_refl _) (.cells (natK r.burned) 33)))
          have Ba5 : Hid (Below w.heap.size w (x5.alloc (.cells (natK r.burned) 33)) ∧ row (x5.alloc (.cells (natK r.burned) 33)) w.heap.size = some (smC Sm.zero)) := Lib.hid ⟨Below.allocT B5.out.1 _, (row_past _ _ _ (row_lt B5.out.2)).trans B5.out.2⟩
          go_upto_region 20 with (at_builtin; refine wpList_append_d natK_under natK_info rfl (by decide) (by decide) natK_size natK_one rfl _ _ rfl (w.heap.size + 2) _ (S.map fun s : Sm => s.mon 3) rfl Ra5.out.five.o3 _ 1 r.burned rfl (row_at _ _ _ _ rfl) j (HLen.out 3) (by rw [HLen.out]; omega) Ra5.out.base ?_; intro A6 e6 x6 hO6 hg6 hor6; have Rn6 := Ra5.out.push3 hg6 hO6 hor6; have R6 := Lib.hid Rn6.1; have B6 : Hid (Below w.heap.size w x6 ∧ row x6 w.heap.size = some (smC Sm.zero)) := Lib.hid ⟨Ba5.out.1.trans (Rn6.2.mono (by omega)), below_row Rn6.2 Ba5.out.2 (by omega)⟩; clear hO6 hg6 hor6 Rn6)
          clear d5 Ra5 Ba5 R5 B5
          have d6 : x6.cell? ⟨g11, 9, none⟩ = some (.int .u64 (r.fees : Int)) := row_cell R6.out.r11 9
          have Ra6 := Lib.hid (R6.out.stay ((Below.refl _ _).alloc (Nat.le_refl _) (.cells (natK r.fees) 33)))
          have Ba6 : Hid (Below w.heap.size w (x6.alloc (.cells (natK r.fees) 33)) ∧ row (x6.alloc (.cells (natK r.fees) 33)) w.heap.size = some (smC Sm.zero)) := Lib.hid ⟨Below.allocT B6.out.1 _, (row_past _ _ _ (row_lt B6.out.2)).trans B6.out.2⟩
          go_upto_region 21 with (at_builtin; refine wpList_append_d natK_under natK_info rfl (by decide) (by decide) natK_size natK_one rfl _ _ rfl (w.heap.size + 2) _ (S.map fun s : Sm => s.mon 4) rfl Ra6.out.five.o4 _ 1 r.fees rfl (row_at _ _ _ _ rfl) j (HLen.out 4) (by rw [HLen.out]; omega) Ra6.out.base ?_; intro A7 e7 x7 hO7 hg7 hor7; have Rn7 := Ra6.out.push4 hg7 hO7 hor7; have R7 := Lib.hid Rn7.1; have B7 : Hid (Below w.heap.size w x7 ∧ row x7 w.heap.size = some (smC Sm.zero)) := Lib.hid ⟨Ba6.out.1.trans (Rn7.2.mono (by omega)), below_row Rn7.2 Ba6.out.2 (by omega)⟩; clear hO7 hg7 hor7 Rn7)
          clear d6 Ra6 Ba6 R6 B6
          have c7 : x7.cell? ⟨g4, 8, none⟩ = some (.int .i64 (s0.out : Int)) := row_cell R7.out.r4 8
          have d7 : x7.cell? ⟨g11, 10, none⟩ = some (.slice a.a1 r.out.length a.c1) := row_cell R7.out.r11 10
          have f7 := row_frozen R7.out.r4 8
          have zz7 : IntKind.i64.wrap ((s0.out : Int) + (r.out.length : Int)) = (s0.out : Int) + (r.out.length : Int) := by rw [IntKind.wrap_i64]; have := HFw.out.out; have := HRs.out; omega
          have Rn7 := R7.out.set (s' := { { s0 with ticks := s0.ticks + 1 } with out := s0.out + r.out.length }) 8 (.int .i64 ((s0.out : Int) + (r.out.length : Int))) (by rw [show (s0.out : Int) + (r.out.length : Int) = ((s0.out + r.out.length : Nat) : Int) by omega]; rfl) HNe.out
          have R8 := Lib.hid Rn7.1
          have B8 : Hid (Below w.heap.size w _ ∧ row _ w.heap.size = some (smC Sm.zero)) := Lib.hid ⟨B7.out.1.trans (Rn7.2.mono (by omega)), below_row Rn7.2 B7.out.2 (by omega)⟩
          clear Rn7
          go_upto_region 22 with fail
          clear c7 f7 zz7 R7 B7 d7
          generalize x7.setCell ⟨g4, 8, none⟩ (.int .i64 ((s0.out : Int) + (r.out.length : Int))) = x8 at *
          have c8 : x8.cell? ⟨g4, 9, none⟩ = some (.int .i64 (s0.left : Int)) := row_cell R8.out.r4 9
          have d8 : x8.cell? ⟨g11, 11, none⟩ = some (.slice a.a2 r.left.length a.c2) := row_cell R8.out.r11 11
          have f8 := row_frozen R8.out.r4 9
          have zz8 : IntKind.i64.wrap ((s0.left : Int) + (r.left.length : Int)) = (s0.left : Int) + (r.left.length : Int) := by rw [IntKind.wrap_i64]; have := HFw.out.left; have := HRs.out; omega
          have Rn8 := R8.out.set (s' := { { { s0 with ticks := s0.ticks + 1 } with out := s0.out + r.out.length } with left := s0.left + r.left.length }) 9 (.int .i64 ((s0.left : Int) + (r.left.length : Int))) (by rw [show (s0.left : Int) + (r.left.length : Int) = ((s0.left + r.left.length : Nat) : Int) by omega]; rfl) HNe.out
          have R9 := Lib.hid Rn8.1
          have B9 : Hid (Below w.heap.size w _ ∧ row _ w.heap.size = some (smC Sm.zero)) := Lib.hid ⟨B8.out.1.trans (Rn8.2.mono (by omega)), below_row Rn8.2 B8.out.2 (by omega)⟩
          clear Rn8
          go_upto_region 23 with fail
          clear c8 f8 zz8 R8 B8 d8
          generalize x8.setCell ⟨g4, 9, none⟩ (.int .i64 ((s0.left : Int) + (r.left.length : Int))) = x9 at *
          have c9 : x9.cell? ⟨g4, 10, none⟩ = some (.int .i64 (s0.started : Int)) := row_cell R9.out.r4 10
          have d9 : x9.cell? ⟨g11, 12, none⟩ = some (.slice a.a3 r.started.length a.c3) := row_cell R9.out.r11 12
          have f9 := row_frozen R9.out.r4 10
          have zz9 : IntKind.i64.wrap ((s0.started : Int) + (r.started.length : Int)) = (s0.started : Int) + (r.started.length : Int) := by rw [IntKind.wrap_i64]; have := HFw.out.started; have := HRs.out; omega
          have Rn9 := R9.out.set (s' := { { { { s0 with ticks := s0.ticks + 1 } with out := s0.out + r.out.length } with left := s0.left + r.left.length } with started := s0.started + r.started.length }) 10 (.int .i64 ((s0.started : Int) + (r.started.length : Int))) (by rw [show (s0.started : Int) + (r.started.length : Int) = ((s0.started + r.started.length : Nat) : Int) by omega]; rfl) HNe.out
          have R10 := Lib.hid Rn9.1
          have B10 : Hid (Below w.heap.size w _ ∧ row _ w.heap.size = some (smC Sm.zero)) := Lib.hid ⟨B9.out.1.trans (Rn9.2.mono (by omega)), below_row Rn9.2 B9.out.2 (by omega)⟩
          clear Rn9
          go_upto_region 24 with fail
          clear c9 f9 zz9 R9 B9 d9
          generalize x9.setCell ⟨g4, 10, none⟩ (.int .i64 ((s0.started : Int) + (r.started.length : Int))) = x10 at *
          have c10 : x10.cell? ⟨g4, 11, none⟩ = some (.int .i64 (s0.done : Int)) := row_cell R10.out.r4 11
          have d10 : x10.cell? ⟨g11, 13, none⟩ = some (.slice a.a4 r.done.length a.c4) := row_cell R10.out.r11 13
          have f10 := row_frozen R10.out.r4 11
          have zz10 : IntKind.i64.wrap ((s0.done : Int) + (r.done.length : Int)) = (s0.done : Int) + (r.done.length : Int) := by rw [IntKind.wrap_i64]; have := HFw.out.done; have := HRs.out; omega
          have Rn10 := R10.out.set (s' := { { { { { s0 with ticks := s0.ticks + 1 } with out := s0.out + r.out.length } with left := s0.left + r.left.length } with started := s0.started + r.started.length } with done := s0.done + r.done.length }) 11 (.int .i64 ((s0.done : Int) + (r.done.length : Int))) (by rw [show (s0.done : Int) + (r.done.length : Int) = ((s0.done + r.done.length : Nat) : Int) by omega]; rfl) HNe.out
          have R11 := Lib.hid Rn10.1
          have B11 : Hid (Below w.heap.size w _ ∧ row _ w.heap.size = some (smC Sm.zero)) := Lib.hid ⟨B10.out.1.trans (Rn10.2.mono (by omega)), below_row Rn10.2 B10.out.2 (by omega)⟩
          clear Rn10
          go_wp2_with fail
          clear c10 f10 zz10 R10 B10 d10
          refine ⟨⟨j + 1, by go_num, by omega, Lib.hid ?_, Lib.hid ⟨B11.out.2, ?_, B11.out.1, R11.out.base⟩⟩, by simp [intOf]; omega⟩
          · rw [HSt.out]; simp only [List.map_append]; exact R11.out.five
          · rw [HSt.out, totS_snoc, R11.out.r4]; congr 1
    · obtain rfl : j = n := by omega
      rw [List.take_of_length_le (by rw [HN.out]; exact Nat.le_refl _)] at hF hW
      obtain ⟨T, hT⟩ : ∃ T, T = totS (sumX xs) := ⟨_, rfl⟩
      have HT := Lib.hid hT
      have HMon : Hid (∀ k, total ((sumX xs).map (·.mon k)) = T.mon k) := Lib.hid fun k => by rw [hT, totS_mon]
      have HLt : Hid (∀ k i, (((sumX xs).map (·.mon k)).getD i 0) < 18446744073709551616) := Lib.hid fun k i => by
        rw [List.getD_eq_getElem?_getD]
        cases h : ((sumX xs).map (·.mon k))[i]? with
        | none => decide
        | some y =>
          obtain ⟨s, hs, rfl⟩ := List.mem_map.1 (List.mem_of_getElem? h)
          obtain ⟨x, hx, rfl⟩ := List.mem_map.1 hs
          exact smOf_mon x.1 (HOk.out x hx) k
      have HLen : Hid (∀ k, ((sumX xs).map (·.mon k)).length = j) := Lib.hid fun k => by rw [List.length_map]; unfold sumX; rw [List.length_map, HN.out]
      rw [← hT] at hW
      clear hT
      have HF5 := hF.out
      obtain ⟨A0, c0, hv0, hS0, hA0, _⟩ := HF5.o0.form natK_size
      rw [HLen.out 0] at hv0
      have HL0 : Hid (∀ W, Chg (fun k => k = g4) wr W → U64s W A0 ((sumX xs).map (·.mon 0))) := Lib.hid fun W hc => natK_u64s (hS0.chg hc (fun a ha e => by have := (hA0 a ha).1; omega))
      obtain ⟨A1, c1, hv1, hS1, hA1, _⟩ := HF5.o1.form natK_size
      rw [HLen.out 1] at hv1
      have HL1 : Hid (∀ W, Chg (fun k => k = g4) wr W → U64s W A1 ((sumX xs).map (·.mon 1))) := Lib.hid fun W hc => natK_u64s (hS1.chg hc (fun a ha e => by have := (hA1 a ha).1; omega))
      obtain ⟨A2, c2, hv2, hS2, hA2, _⟩ := HF5.o2.form natK_size
      rw [HLen.out 2] at hv2
      have HL2 : Hid (∀ W, Chg (fun k => k = g4) wr W → U64s W A2 ((sumX xs).map (·.mon 2))) := Lib.hid fun W hc => natK_u64s (hS2.chg hc (fun a ha e => by have := (hA2 a ha).1; omega))
      obtain ⟨A3, c3, hv3, hS3, hA3, _⟩ := HF5.o3.form natK_size
      rw [HLen.out 3] at hv3
      have HL3 : Hid (∀ W, Chg (fun k => k = g4) wr W → U64s W A3 ((sumX xs).map (·.mon 3))) := Lib.hid fun W hc => natK_u64s (hS3.chg hc (fun a ha e => by have := (hA3 a ha).1; omega))
      obtain ⟨A4, c4, hv4, hS4, hA4, _⟩ := HF5.o4.form natK_size
      rw [HLen.out 4] at hv4
      have HL4 : Hid (∀ W, Chg (fun k => k = g4) wr W → U64s W A4 ((sumX xs).map (·.mon 4))) := Lib.hid fun W hc => natK_u64s (hS4.chg hc (fun a ha e => by have := (hA4 a ha).1; omega))
      subst hv0
      subst hv1
      subst hv2
      subst hv3
      subst hv4
      clear HF5 hS0 hA0 hS1 hA1 hS2 hA2 hS3 hA3 hS4 hA4 hF
      have hB26 : w.heap.size + 2 ≤ wr.heap.size := hW.out.2.2.2
      have B0 : Hid (Below w.heap.size w wr ∧ row wr w.heap.size = some (smC Sm.zero)) := Lib.hid ⟨hW.out.2.2.1, hW.out.1⟩
      have K0 := Lib.hid hW.out.2.1
      clear hW
      go_upto_region 26 with fail
      refine of_world (fun W => Below wr.heap.size wr W ∧ row W wr.heap.size = some #[.int .i64 0, .int .i64 0, .int .i64 0, .int .i64 0, .int .i64 0]) ⟨(by (repeat (first | exact Below.refl _ _ | assumption | (refine Below.allocT ?_ _) | refine Below.drew ?_ | refine below_drewN ?_ _ | (refine Below.then ?_ (by assumption)) | (refine Below.setRow ?_ ?_ _; rotate_left; (focus (first | exact Nat.lt_succ_self _ | ((repeat rw [World.size_alloc]); omega) | (simp; done) | (simp; omega) | omega))) | (refine Below.setCell ?_ ?_ _; rotate_left; (focus (first | exact Nat.lt_succ_self _ | ((repeat rw [World.size_alloc]); omega) | (simp; done) | (simp; omega) | omega))) | (refine Below.then' ?_ (by assumption) ?_; rotate_left; (focus (first | exact Nat.lt_succ_self _ | ((repeat rw [World.size_alloc]); omega) | (simp; done) | (simp; omega) | omega))) | fail)); (first | done | fail)), by first | exact row_at _ _ _ _ rfl | (rw [row_setRow_if, if_pos rfl, row_at _ _ _ _ rfl]; rfl)⟩ ?_
      rintro y0 ⟨hb0, e0⟩
      have C0 : Hid (Chg (fun k => k = g4) wr y0) := Lib.hid (Chg.of_below hb0 (Nat.le_refl _))
      have M0 : Hid (Below w.heap.size w y0 ∧ row y0 w.heap.size = some (smC Sm.zero) ∧ row y0 g4 = some (smC (baseS T))) := Lib.hid ⟨Below.then B0.out.1 hb0, below_row hb0 B0.out.2 (row_lt B0.out.2), below_row hb0 K0.out (row_lt K0.out)⟩
      have E0 := Lib.hid e0
      have hgg : g4 < wr.heap.size := row_lt K0.out
      have HGG := Lib.hid hgg
      clear hb0 e0 B0 K0 hgg
      obtain ⟨g12, hg12⟩ : ∃ g12, g12 = wr.heap.size := ⟨_, rfl⟩
      have HG12 := Lib.hid hg12
      rw [← hg12] at E0 ⊢
      clear hg12
      go_wp2_with fail
      refine (rsum_any A0 _ j c0 (HLen.out 0) (HLt.out 0) (by omega) y0 (HL0.out _ C0.out)).mono ?_
      rw [HMon.out 0]
      rintro e z0 ⟨D0, d0, rfl, hN0, hz0, _⟩
      have hl0 : (dg (T.mon 0)).length ≤ 1000 := by have h1 := total_len ((sumX xs).map fun s : Sm => s.mon 0) (HLt.out 0) (by rw [HLen.out]; omega) j (by rw [HLen.out]; exact Nat.le_refl _); rw [List.take_of_length_le (by rw [HLen.out]; exact Nat.le_refl _), HMon.out 0] at h1; omega
      have HN0 := Lib.hid hN0
      have HZ0 := Lib.hid hz0
      have Hl0 := Lib.hid hl0
      clear hN0 hz0 hl0
      generalize (dg (T.mon 0)).length = ln0 at *
      go_wp2_with fail
      refine (told_any D0 _ d0 _ z0 HN0.out Hl0.out).mono ?_
      rintro e q0 ⟨rfl, hq0⟩
      have hb1 := HZ0.out
      have k0 : row q0 g4 = some (smC (baseS T)) := below_row hq0 (below_row hb1 M0.out.2.2 (row_lt M0.out.2.2)) (Nat.lt_of_lt_of_le (row_lt M0.out.2.2) hb1.size)
      have e0 : row q0 g12 = some #[.int .i64 0, .int .i64 0, .int .i64 0, .int .i64 0, .int .i64 0] := below_row hq0 (below_row hb1 E0.out (row_lt E0.out)) (Nat.lt_of_lt_of_le (row_lt E0.out) hb1.size)
      have w0 : row q0 w.heap.size = some (smC Sm.zero) := below_row hq0 (below_row hb1 M0.out.2.1 (row_lt M0.out.2.1)) (Nat.lt_of_lt_of_le (row_lt M0.out.2.1) hb1.size)
      have Bq0 : Hid (Below w.heap.size w q0 ∧ Chg (fun k => k = g4) wr q0) := Lib.hid ⟨Below.then (Below.then M0.out.1 hb1) hq0, (C0.out.below_then hb1 (Nat.le_refl _)).below_then hq0 (Nat.le_refl _)⟩
      clear hb1 hq0 HN0 HZ0 Hl0 M0 E0 C0
      have hne0 : g4 ≠ g12 := by have := HGG.out; have := HG12.out; omega
      have hne0' : ¬ g12 = g4 := fun e => hne0 e.symm
      have ca0 : q0.cell? ⟨g4, 3, none⟩ = some (.int .u64 0) := row_cell k0 3
      have fa0 := row_frozen k0 3
      have cb0 : q0.cell? ⟨g12, 0, none⟩ = some (.int .i64 0) := row_cell e0 0
      have fb0 := row_frozen e0 0
      go_upto_region 27 with fail
      clear ca0 fa0 cb0 fb0 hne0'
      refine of_world (fun W => (Below w.heap.size w W ∧ row W w.heap.size = some (smC Sm.zero) ∧ row W g4 = some (smC ({ baseS T with minted := fit (T.mon 0) }))) ∧ row W g12 = some #[.int .i64 (toldE (T.mon 0)), .int .i64 0, .int .i64 0, .int .i64 0, .int .i64 0] ∧ Chg (fun k => k = g4) wr W) ⟨⟨?_, ?_, ?_⟩, ?_, ?_⟩ ?_
      · exact Below.setCell (Below.setCell Bq0.out.1 (p := ⟨g4, 3, none⟩) (by show w.heap.size ≤ g4; omega) _) (p := ⟨g12, 0, none⟩) (by show w.heap.size ≤ g12; have := HG12.out; omega) _
      · rw [row_far _ _ _ _ (by show w.heap.size ≠ g12; have := HG12.out; omega), row_far _ _ _ _ (by show w.heap.size ≠ g4; omega)]; exact w0
      · rw [row_far _ _ _ _ hne0, row_set k0]; rfl
      · rw [row_set (show row _ g12 = some #[.int .i64 0, .int .i64 0, .int .i64 0, .int .i64 0, .int .i64 0] by rw [row_far _ _ _ _ (fun e => hne0 e.symm)]; exact e0)]; rfl
      · exact (Bq0.out.2.andThen ((Chg.refl (fun k => k = g4) _).setCell (p := ⟨g4, 3, none⟩) (.inl rfl) _) (fun k hk => .inl hk)).andThen ((Chg.refl (fun k => k = g12) _).setCell (p := ⟨g12, 0, none⟩) (.inl rfl) _) (fun k hk => .inr (by have := HG12.out; omega))
      rintro y1 ⟨m1, e1', c1'⟩
      have M1 := Lib.hid m1
      have E1 := Lib.hid e1'
      have C1 := Lib.hid c1'
      clear m1 e1' c1' k0 e0 w0 Bq0 hne0
      go_wp2_with fail
      refine (rsum_any A1 _ j c1 (HLen.out 1) (HLt.out 1) (by omega) y1 (HL1.out _ C1.out)).mono ?_
      rw [HMon.out 1]
      rintro e z1 ⟨D1, d1, rfl, hN1, hz1, _⟩
      have hl1 : (dg (T.mon 1)).length ≤ 1000 := by have h1 := total_len ((sumX xs).map fun s : Sm => s.mon 1) (HLt.out 1) (by rw [HLen.out]; omega) j (by rw [HLen.out]; exact Nat.le_refl _); rw [List.take_of_length_le (by rw [HLen.out]; exact Nat.le_refl _), HMon.out 1] at h1; omega
      have HN1 := Lib.hid hN1
      have HZ1 := Lib.hid hz1
      have Hl1 := Lib.hid hl1
      clear hN1 hz1 hl1
      generalize (dg (T.mon 1)).length = ln1 at *
      go_wp2_with fail
      refine (told_any D1 _ d1 _ z1 HN1.out Hl1.out).mono ?_
      rintro e q1 ⟨rfl, hq1⟩
      have hb2 := HZ1.out
      have k1 : row q1 g4 = some (smC ({ baseS T with minted := fit (T.mon 0) })) := below_row hq1 (below_row hb2 M1.out.2.2 (row_lt M1.out.2.2)) (Nat.lt_of_lt_of_le (row_lt M1.out.2.2) hb2.size)
      have e1 : row q1 g12 = some #[.int .i64 (toldE (T.mon 0)), .int .i64 0, .int .i64 0, .int .i64 0, .int .i64 0] := below_row hq1 (below_row hb2 E1.out (row_lt E1.out)) (Nat.lt_of_lt_of_le (row_lt E1.out) hb2.size)
      have w1 : row q1 w.heap.size = some (smC Sm.zero) := below_row hq1 (below_row hb2 M1.out.2.1 (row_lt M1.out.2.1)) (Nat.lt_of_lt_of_le (row_lt M1.out.2.1) hb2.size)
      have Bq1 : Hid (Below w.heap.size w q1 ∧ Chg (fun k => k = g4) wr q1) := Lib.hid ⟨Below.then (Below.then M1.out.1 hb2) hq1, (C1.out.below_then hb2 (Nat.le_refl _)).below_then hq1 (Nat.le_refl _)⟩
      clear hb2 hq1 HN1 HZ1 Hl1 M1 E1 C1
      have hne1 : g4 ≠ g12 := by have := HGG.out; have := HG12.out; omega
      have hne1' : ¬ g12 = g4 := fun e => hne1 e.symm
      have ca1 : q1.cell? ⟨g4, 4, none⟩ = some (.int .u64 0) := row_cell k1 4
      have fa1 := row_frozen k1 4
      have cb1 : q1.cell? ⟨g12, 1, none⟩ = some (.int .i64 0) := row_cell e1 1
      have fb1 := row_frozen e1 1
      go_upto_region 28 with fail
      clear ca1 fa1 cb1 fb1 hne1'
      refine of_world (fun W => (Below w.heap.size w W ∧ row W w.heap.size = some (smC Sm.zero) ∧ row W g4 = some (smC ({ { baseS T with minted := fit (T.mon 0) } with paid := fit (T.mon 1) }))) ∧ row W g12 = some #[.int .i64 (toldE (T.mon 0)), .int .i64 (toldE (T.mon 1)), .int .i64 0, .int .i64 0, .int .i64 0] ∧ Chg (fun k => k = g4) wr W) ⟨⟨?_, ?_, ?_⟩, ?_, ?_⟩ ?_
      · exact Below.setCell (Below.setCell Bq1.out.1 (p := ⟨g4, 4, none⟩) (by show w.heap.size ≤ g4; omega) _) (p := ⟨g12, 1, none⟩) (by show w.heap.size ≤ g12; have := HG12.out; omega) _
      · rw [row_far _ _ _ _ (by show w.heap.size ≠ g12; have := HG12.out; omega), row_far _ _ _ _ (by show w.heap.size ≠ g4; omega)]; exact w1
      · rw [row_far _ _ _ _ hne1, row_set k1]; rfl
      · rw [row_set (show row _ g12 = some #[.int .i64 (toldE (T.mon 0)), .int .i64 0, .int .i64 0, .int .i64 0, .int .i64 0] by rw [row_far _ _ _ _ (fun e => hne1 e.symm)]; exact e1)]; rfl
      · exact (Bq1.out.2.andThen ((Chg.refl (fun k => k = g4) _).setCell (p := ⟨g4, 4, none⟩) (.inl rfl) _) (fun k hk => .inl hk)).andThen ((Chg.refl (fun k => k = g12) _).setCell (p := ⟨g12, 1, none⟩) (.inl rfl) _) (fun k hk => .inr (by have := HG12.out; omega))
      rintro y2 ⟨m2, e2', c2'⟩
      have M2 := Lib.hid m2
      have E2 := Lib.hid e2'
      have C2 := Lib.hid c2'
      clear m2 e2' c2' k1 e1 w1 Bq1 hne1
      go_wp2_with fail
      refine (rsum_any A2 _ j c2 (HLen.out 2) (HLt.out 2) (by omega) y2 (HL2.out _ C2.out)).mono ?_
      rw [HMon.out 2]
      rintro e z2 ⟨D2, d2, rfl, hN2, hz2, _⟩
      have hl2 : (dg (T.mon 2)).length ≤ 1000 := by have h1 := total_len ((sumX xs).map fun s : Sm => s.mon 2) (HLt.out 2) (by rw [HLen.out]; omega) j (by rw [HLen.out]; exact Nat.le_refl _); rw [List.take_of_length_le (by rw [HLen.out]; exact Nat.le_refl _), HMon.out 2] at h1; omega
      have HN2 := Lib.hid hN2
      have HZ2 := Lib.hid hz2
      have Hl2 := Lib.hid hl2
      clear hN2 hz2 hl2
      generalize (dg (T.mon 2)).length = ln2 at *
      go_wp2_with fail
      refine (told_any D2 _ d2 _ z2 HN2.out Hl2.out).mono ?_
      rintro e q2 ⟨rfl, hq2⟩
      have hb3 := HZ2.out
      have k2 : row q2 g4 = some (smC ({ { baseS T with minted := fit (T.mon 0) } with paid := fit (T.mon 1) })) := below_row hq2 (below_row hb3 M2.out.2.2 (row_lt M2.out.2.2)) (Nat.lt_of_lt_of_le (row_lt M2.out.2.2) hb3.size)
      have e2 : row q2 g12 = some #[.int .i64 (toldE (T.mon 0)), .int .i64 (toldE (T.mon 1)), .int .i64 0, .int .i64 0, .int .i64 0] := below_row hq2 (below_row hb3 E2.out (row_lt E2.out)) (Nat.lt_of_lt_of_le (row_lt E2.out) hb3.size)
      have w2 : row q2 w.heap.size = some (smC Sm.zero) := below_row hq2 (below_row hb3 M2.out.2.1 (row_lt M2.out.2.1)) (Nat.lt_of_lt_of_le (row_lt M2.out.2.1) hb3.size)
      have Bq2 : Hid (Below w.heap.size w q2 ∧ Chg (fun k => k = g4) wr q2) := Lib.hid ⟨Below.then (Below.then M2.out.1 hb3) hq2, (C2.out.below_then hb3 (Nat.le_refl _)).below_then hq2 (Nat.le_refl _)⟩
      clear hb3 hq2 HN2 HZ2 Hl2 M2 E2 C2
      have hne2 : g4 ≠ g12 := by have := HGG.out; have := HG12.out; omega
      have hne2' : ¬ g12 = g4 := fun e => hne2 e.symm
      have ca2 : q2.cell? ⟨g4, 5, none⟩ = some (.int .u64 0) := row_cell k2 5
      have fa2 := row_frozen k2 5
      have cb2 : q2.cell? ⟨g12, 2, none⟩ = some (.int .i64 0) := row_cell e2 2
      have fb2 := row_frozen e2 2
      go_upto_region 29 with fail
      clear ca2 fa2 cb2 fb2 hne2'
      refine of_world (fun W => (Below w.heap.size w W ∧ row W w.heap.size = some (smC Sm.zero) ∧ row W g4 = some (smC ({ { { baseS T with minted := fit (T.mon 0) } with paid := fit (T.mon 1) } with kept := fit (T.mon 2) }))) ∧ row W g12 = some #[.int .i64 (toldE (T.mon 0)), .int .i64 (toldE (T.mon 1)), .int .i64 (toldE (T.mon 2)), .int .i64 0, .int .i64 0] ∧ Chg (fun k => k = g4) wr W) ⟨⟨?_, ?_, ?_⟩, ?_, ?_⟩ ?_
      · exact Below.setCell (Below.setCell Bq2.out.1 (p := ⟨g4, 5, none⟩) (by show w.heap.size ≤ g4; omega) _) (p := ⟨g12, 2, none⟩) (by show w.heap.size ≤ g12; have := HG12.out; omega) _
      · rw [row_far _ _ _ _ (by show w.heap.size ≠ g12; have := HG12.out; omega), row_far _ _ _ _ (by show w.heap.size ≠ g4; omega)]; exact w2
      · rw [row_far _ _ _ _ hne2, row_set k2]; rfl
      · rw [row_set (show row _ g12 = some #[.int .i64 (toldE (T.mon 0)), .int .i64 (toldE (T.mon 1)), .int .i64 0, .int .i64 0, .int .i64 0] by rw [row_far _ _ _ _ (fun e => hne2 e.symm)]; exact e2)]; rfl
      · exact (Bq2.out.2.andThen ((Chg.refl (fun k => k = g4) _).setCell (p := ⟨g4, 5, none⟩) (.inl rfl) _) (fun k hk => .inl hk)).andThen ((Chg.refl (fun k => k = g12) _).setCell (p := ⟨g12, 2, none⟩) (.inl rfl) _) (fun k hk => .inr (by have := HG12.out; omega))
      rintro y3 ⟨m3, e3', c3'⟩
      have M3 := Lib.hid m3
      have E3 := Lib.hid e3'
      have C3 := Lib.hid c3'
      clear m3 e3' c3' k2 e2 w2 Bq2 hne2
      go_wp2_with fail
      refine (rsum_any A3 _ j c3 (HLen.out 3) (HLt.out 3) (by omega) y3 (HL3.out _ C3.out)).mono ?_
      rw [HMon.out 3]
      rintro e z3 ⟨D3, d3, rfl, hN3, hz3, _⟩
      have hl3 : (dg (T.mon 3)).length ≤ 1000 := by have h1 := total_len ((sumX xs).map fun s : Sm => s.mon 3) (HLt.out 3) (by rw [HLen.out]; omega) j (by rw [HLen.out]; exact Nat.le_refl _); rw [List.take_of_length_le (by rw [HLen.out]; exact Nat.le_refl _), HMon.out 3] at h1; omega
      have HN3 := Lib.hid hN3
      have HZ3 := Lib.hid hz3
      have Hl3 := Lib.hid hl3
      clear hN3 hz3 hl3
      generalize (dg (T.mon 3)).length = ln3 at *
      go_wp2_with fail
      refine (told_any D3 _ d3 _ z3 HN3.out Hl3.out).mono ?_
      rintro e q3 ⟨rfl, hq3⟩
      have hb4 := HZ3.out
      have k3 : row q3 g4 = some (smC ({ { { baseS T with minted := fit (T.mon 0) } with paid := fit (T.mon 1) } with kept := fit (T.mon 2) })) := below_row hq3 (below_row hb4 M3.out.2.2 (row_lt M3.out.2.2)) (Nat.lt_of_lt_of_le (row_lt M3.out.2.2) hb4.size)
      have e3 : row q3 g12 = some #[.int .i64 (toldE (T.mon 0)), .int .i64 (toldE (T.mon 1)), .int .i64 (toldE (T.mon 2)), .int .i64 0, .int .i64 0] := below_row hq3 (below_row hb4 E3.out (row_lt E3.out)) (Nat.lt_of_lt_of_le (row_lt E3.out) hb4.size)
      have w3 : row q3 w.heap.size = some (smC Sm.zero) := below_row hq3 (below_row hb4 M3.out.2.1 (row_lt M3.out.2.1)) (Nat.lt_of_lt_of_le (row_lt M3.out.2.1) hb4.size)
      have Bq3 : Hid (Below w.heap.size w q3 ∧ Chg (fun k => k = g4) wr q3) := Lib.hid ⟨Below.then (Below.then M3.out.1 hb4) hq3, (C3.out.below_then hb4 (Nat.le_refl _)).below_then hq3 (Nat.le_refl _)⟩
      clear hb4 hq3 HN3 HZ3 Hl3 M3 E3 C3
      have hne3 : g4 ≠ g12 := by have := HGG.out; have := HG12.out; omega
      have hne3' : ¬ g12 = g4 := fun e => hne3 e.symm
      have ca3 : q3.cell? ⟨g4, 6, none⟩ = some (.int .u64 0) := row_cell k3 6
      have fa3 := row_frozen k3 6
      have cb3 : q3.cell? ⟨g12, 3, none⟩ = some (.int .i64 0) := row_cell e3 3
      have fb3 := row_frozen e3 3
      go_upto_region 30 with fail
      clear ca3 fa3 cb3 fb3 hne3'
      refine of_world (fun W => (Below w.heap.size w W ∧ row W w.heap.size = some (smC Sm.zero) ∧ row W g4 = some (smC ({ { { { baseS T with minted := fit (T.mon 0) } with paid := fit (T.mon 1) } with kept := fit (T.mon 2) } with burned := fit (T.mon 3) }))) ∧ row W g12 = some #[.int .i64 (toldE (T.mon 0)), .int .i64 (toldE (T.mon 1)), .int .i64 (toldE (T.mon 2)), .int .i64 (toldE (T.mon 3)), .int .i64 0] ∧ Chg (fun k => k = g4) wr W) ⟨⟨?_, ?_, ?_⟩, ?_, ?_⟩ ?_
      · exact Below.setCell (Below.setCell Bq3.out.1 (p := ⟨g4, 6, none⟩) (by show w.heap.size ≤ g4; omega) _) (p := ⟨g12, 3, none⟩) (by show w.heap.size ≤ g12; have := HG12.out; omega) _
      · rw [row_far _ _ _ _ (by show w.heap.size ≠ g12; have := HG12.out; omega), row_far _ _ _ _ (by show w.heap.size ≠ g4; omega)]; exact w3
      · rw [row_far _ _ _ _ hne3, row_set k3]; rfl
      · rw [row_set (show row _ g12 = some #[.int .i64 (toldE (T.mon 0)), .int .i64 (toldE (T.mon 1)), .int .i64 (toldE (T.mon 2)), .int .i64 0, .int .i64 0] by rw [row_far _ _ _ _ (fun e => hne3 e.symm)]; exact e3)]; rfl
      · exact (Bq3.out.2.andThen ((Chg.refl (fun k => k = g4) _).setCell (p := ⟨g4, 6, none⟩) (.inl rfl) _) (fun k hk => .inl hk)).andThen ((Chg.refl (fun k => k = g12) _).setCell (p := ⟨g12, 3, none⟩) (.inl rfl) _) (fun k hk => .inr (by have := HG12.out; omega))
      rintro y4 ⟨m4, e4', c4'⟩
      have M4 := Lib.hid m4
      have E4 := Lib.hid e4'
      have C4 := Lib.hid c4'
      clear m4 e4' c4' k3 e3 w3 Bq3 hne3
      go_wp2_with fail
      refine (rsum_any A4 _ j c4 (HLen.out 4) (HLt.out 4) (by omega) y4 (HL4.out _ C4.out)).mono ?_
      rw [HMon.out 4]
      rintro e z4 ⟨D4, d4, rfl, hN4, hz4, _⟩
      have hl4 : (dg (T.mon 4)).length ≤ 1000 := by have h1 := total_len ((sumX xs).map fun s : Sm => s.mon 4) (HLt.out 4) (by rw [HLen.out]; omega) j (by rw [HLen.out]; exact Nat.le_refl _); rw [List.take_of_length_le (by rw [HLen.out]; exact Nat.le_refl _), HMon.out 4] at h1; omega
      have HN4 := Lib.hid hN4
      have HZ4 := Lib.hid hz4
      have Hl4 := Lib.hid hl4
      clear hN4 hz4 hl4
      generalize (dg (T.mon 4)).length = ln4 at *
      go_wp2_with fail
      refine (told_any D4 _ d4 _ z4 HN4.out Hl4.out).mono ?_
      rintro e q4 ⟨rfl, hq4⟩
      have hb5 := HZ4.out
      have k4 : row q4 g4 = some (smC ({ { { { baseS T with minted := fit (T.mon 0) } with paid := fit (T.mon 1) } with kept := fit (T.mon 2) } with burned := fit (T.mon 3) })) := below_row hq4 (below_row hb5 M4.out.2.2 (row_lt M4.out.2.2)) (Nat.lt_of_lt_of_le (row_lt M4.out.2.2) hb5.size)
      have e4 : row q4 g12 = some #[.int .i64 (toldE (T.mon 0)), .int .i64 (toldE (T.mon 1)), .int .i64 (toldE (T.mon 2)), .int .i64 (toldE (T.mon 3)), .int .i64 0] := below_row hq4 (below_row hb5 E4.out (row_lt E4.out)) (Nat.lt_of_lt_of_le (row_lt E4.out) hb5.size)
      have w4 : row q4 w.heap.size = some (smC Sm.zero) := below_row hq4 (below_row hb5 M4.out.2.1 (row_lt M4.out.2.1)) (Nat.lt_of_lt_of_le (row_lt M4.out.2.1) hb5.size)
      have Bq4 : Hid (Below w.heap.size w q4 ∧ Chg (fun k => k = g4) wr q4) := Lib.hid ⟨Below.then (Below.then M4.out.1 hb5) hq4, (C4.out.below_then hb5 (Nat.le_refl _)).below_then hq4 (Nat.le_refl _)⟩
      clear hb5 hq4 HN4 HZ4 Hl4 M4 E4 C4
      have hne4 : g4 ≠ g12 := by have := HGG.out; have := HG12.out; omega
      have hne4' : ¬ g12 = g4 := fun e => hne4 e.symm
      have ca4 : q4.cell? ⟨g4, 7, none⟩ = some (.int .u64 0) := row_cell k4 7
      have fa4 := row_frozen k4 7
      have cb4 : q4.cell? ⟨g12, 4, none⟩ = some (.int .i64 0) := row_cell e4 4
      have fb4 := row_frozen e4 4
      go_upto_region 31 with fail
      clear ca4 fa4 cb4 fb4 hne4'
      refine of_world (fun W => (Below w.heap.size w W ∧ row W w.heap.size = some (smC Sm.zero) ∧ row W g4 = some (smC ({ { { { { baseS T with minted := fit (T.mon 0) } with paid := fit (T.mon 1) } with kept := fit (T.mon 2) } with burned := fit (T.mon 3) } with fees := fit (T.mon 4) }))) ∧ row W g12 = some #[.int .i64 (toldE (T.mon 0)), .int .i64 (toldE (T.mon 1)), .int .i64 (toldE (T.mon 2)), .int .i64 (toldE (T.mon 3)), .int .i64 (toldE (T.mon 4))] ∧ Chg (fun k => k = g4) wr W) ⟨⟨?_, ?_, ?_⟩, ?_, ?_⟩ ?_
      · exact Below.setCell (Below.setCell Bq4.out.1 (p := ⟨g4, 7, none⟩) (by show w.heap.size ≤ g4; omega) _) (p := ⟨g12, 4, none⟩) (by show w.heap.size ≤ g12; have := HG12.out; omega) _
      · rw [row_far _ _ _ _ (by show w.heap.size ≠ g12; have := HG12.out; omega), row_far _ _ _ _ (by show w.heap.size ≠ g4; omega)]; exact w4
      · rw [row_far _ _ _ _ hne4, row_set k4]; rfl
      · rw [row_set (show row _ g12 = some #[.int .i64 (toldE (T.mon 0)), .int .i64 (toldE (T.mon 1)), .int .i64 (toldE (T.mon 2)), .int .i64 (toldE (T.mon 3)), .int .i64 0] by rw [row_far _ _ _ _ (fun e => hne4 e.symm)]; exact e4)]; rfl
      · exact (Bq4.out.2.andThen ((Chg.refl (fun k => k = g4) _).setCell (p := ⟨g4, 7, none⟩) (.inl rfl) _) (fun k hk => .inl hk)).andThen ((Chg.refl (fun k => k = g12) _).setCell (p := ⟨g12, 4, none⟩) (.inl rfl) _) (fun k hk => .inr (by have := HG12.out; omega))
      rintro y5 ⟨m5, e5', c5'⟩
      have M5 := Lib.hid m5
      have E5 := Lib.hid e5'
      have C5 := Lib.hid c5'
      clear m5 e5' c5' k4 e4 w4 Bq4 hne4
      have HCell : Hid (∀ q : Nat, q < 5 → y5.cell? ⟨g12, q, none⟩ = some (.int .i64 (toldE (T.mon q)))) := Lib.hid fun q hq => by
        rw [row_cell E5.out q]
        match q, hq with
        | 0, _ => rfl
        | 1, _ => rfl
        | 2, _ => rfl
        | 3, _ => rfl
        | 4, _ => rfl
      have HNo : Hid (∀ q : Nat, q < 5 → toldE (T.mon q) ≠ 0 → toldE (T.mon q) = 10 ∧ togE (sumX xs) = 10 ∧ togV (sumX xs) = Sm.zero) := Lib.hid fun q hq hne => by
        have hgt : ¬ T.mon q ≤ 18446744073709551615 := fun h => hne (told_le h)
        have hnf : ¬ fitsS (totS (sumX xs)) := fun h => hgt (by rw [HT.out]; exact h q hq)
        exact ⟨told_gt hgt, by unfold togE; rw [if_neg hnf], by unfold togV; rw [if_neg hnf]⟩
      have HYes : Hid ((∀ q, q < 5 → toldE (T.mon q) = 0) → togE (sumX xs) = 0 ∧ togV (sumX xs) = T ∧ smC ({ { { { { baseS T with minted := fit (T.mon 0) } with paid := fit (T.mon 1) } with kept := fit (T.mon 2) } with burned := fit (T.mon 3) } with fees := fit (T.mon 4) }) = smC T) := Lib.hid fun h => by
        have hle : ∀ q, q < 5 → T.mon q ≤ 18446744073709551615 := fun q hq => by
          by_cases hc : T.mon q ≤ 18446744073709551615
          · exact hc
          · have := h q hq; rw [told_gt hc] at this; cases this
        have hf : fitsS (totS (sumX xs)) := fun q hq => by rw [← HT.out]; exact hle q hq
        refine ⟨by unfold togE; rw [if_pos hf], by unfold togV; rw [if_pos hf, HT.out], ?_⟩
        rw [fit_le (hle 0 (by omega)), fit_le (hle 1 (by omega)), fit_le (hle 2 (by omega)), fit_le (hle 3 (by omega)), fit_le (hle 4 (by omega))]; rfl
      clear C5
      go_wp2_with fail
      go_loopw [13] (fun i wq => ∃ q : Nat, i = .int .i64 q ∧ q ≤ 5 ∧ Hid (∀ k, k < q → toldE (T.mon k) = 0) ∧ wq = y5) (fun i _ => 5 - (intOf i).toNat)
      case atStart => exact ⟨0, rfl, by omega, Lib.hid (fun k h => by omega), rfl⟩
      case round =>
        obtain ⟨q, rfl, hq, hK, rfl⟩ := hrel
        by_cases hlt5 : q < 5
        · have kq := HCell.out q hlt5
          have z1 : (0 : Int) ≤ (q : Int) := by omega
          have z2 : (q : Int) < 5 := by omega
          have z3 : ¬ 5 ≤ q := by omega
          by_cases h0 : toldE (T.mon q) = 0
          · rw [h0] at kq
            have HK2 : Hid (∀ k, k < q + 1 → toldE (T.mon k) = 0) := Lib.hid fun k hk => (Nat.lt_or_ge k q).elim (hK.out k) (fun h => by rw [show k = q by omega]; exact h0)
            clear h0
            go_wp2_with fail
            exact ⟨⟨q + 1, by go_num, by omega, HK2, trivial⟩, by simp [intOf]; omega⟩
          · obtain ⟨hx1, hx2, hx3⟩ := HNo.out q hlt5 h0
            rw [hx1] at kq
            have HV := Lib.hid (And.intro hx2 hx3)
            have hzr := M5.out.2.1
            obtain ⟨t9, ht9⟩ := row_heap (row_setRow (new := smC Sm.zero) hzr)
            have HT9 := Lib.hid ht9
            have HB9 := Lib.hid M5.out.1
            have hzl := row_lt hzr
            clear h0 hx1 hx2 hx3 ht9
            go_upto_region 35 with fail
            have hzo : allOne #[.int .i64 0, .int .i64 0, .int .i64 0, .int .u64 0, .int .u64 0, .int .u64 0, .int .u64 0, .int .u64 0, .int .i64 0, .int .i64 0, .int .i64 0, .int .i64 0] = true := smC_one Sm.zero
            have kq2 : (wr.setRow w.heap.size #[.int .i64 0, .int .i64 0, .int .i64 0, .int .u64 0, .int .u64 0, .int .u64 0, .int .u64 0, .int .u64 0, .int .i64 0, .int .i64 0, .int .i64 0, .int .i64 0]).cell? ⟨g12, q, none⟩ = some (.int .i64 10) := by
              have e12 : row (wr.setRow w.heap.size #[.int .i64 0, .int .i64 0, .int .i64 0, .int .u64 0, .int .u64 0, .int .u64 0, .int .u64 0, .int .u64 0, .int .i64 0, .int .i64 0, .int .i64 0, .int .i64 0]) g12 = row wr g12 := by rw [row_setRow_if, if_neg (by have := HG12.out; omega)]
              rw [row_cell (e12.trans E5.out) q, ← row_cell E5.out q]; exact kq
            clear E5 HCell
            go_region_law (fail)
            all_goals
              go_wp2_with fail
              exact bodyPost_ret (v := .tuple #[.agg (smC Sm.zero), .int .i64 10]) (results_cell_tmp Try.results59 _ _ w.heap.size _ (smC Sm.zero) (0, 0) _ rfl HT9.out rsums_under rfl rsums_info) rfl ⟨by rw [HV.out.1, HV.out.2], (Below.setRow HB9.out (Nat.le_refl _) _).drew⟩
        · obtain rfl : q = 5 := by omega
          obtain ⟨hx1, hx2, hx3⟩ := HYes.out hK.out
          have HV := Lib.hid (And.intro hx1 hx2)
          have hzr := M5.out.2.1
          have hk5 := M5.out.2.2
          rw [hx3] at hk5
          obtain ⟨t9, ht9⟩ := row_heap (row_setRow (new := smC T) hzr)
          have HT9 := Lib.hid ht9
          have HB9 := Lib.hid M5.out.1
          clear hx1 hx2 hx3 ht9
          go_wp2_with fail
          exact bodyPost_ret (v := .tuple #[.agg (smC T), .int .i64 0]) (results_cell_tmp Try.results59 _ _ w.heap.size _ (smC T) (0, 0) _ rfl HT9.out rsums_under rfl rsums_info) rfl ⟨by rw [HV.out.1, HV.out.2], Below.setRow HB9.out (Nat.le_refl _) _⟩
end Go.Proofs.Ytnakkjgnjffkpaa

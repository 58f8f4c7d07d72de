/-
  What package prize's functions answer: weights.
-/
import Derived.Test.YtkfbnaafpikgfaaSt
import Derived.Test.YtkfbnaafpikgfaaCheck
import Derived.Test.YtkfbnaafpikgfaaShare
import Derived.Test.YtkfbnaafpikgfaaShare3
import Derived.Test.YtkfbnaafpikgfaaSlices
import Derived.IntWalk
namespace Go.Proofs.Ytkfbnaafpikgfaa
open Go.RowKit
set_option linter.unusedVariables false

/-- How much of a streak counts. -/
def stkZ (P : Par) (s : St) : Int := min (max s.streak 0) P.streak
def weightN (P : Par) (s : St) : Nat := if P.maxEff < s.eff then 0 else s.eff * (1000 + (P.boost * stkZ P s).toNat)
theorem stk_bounds {P : Par} (hr : rightB P = true) (s : St) : 0 ≤ stkZ P s ∧ stkZ P s ≤ 64 ∧ 0 ≤ P.boost * stkZ P s ∧ P.boost * stkZ P s ≤ 64000 ∧ P.maxEff ≤ 1099511627776 := by
  have h1 := others_facts (right_facts hr).2.2.1
  have h2 := stakes_facts (right_facts hr).1
  have h3 : 0 ≤ stkZ P s ∧ stkZ P s ≤ 64 := by unfold stkZ; omega
  have h4 : 0 ≤ P.boost * stkZ P s := Int.mul_nonneg (by omega) h3.1
  have h5 : P.boost * stkZ P s ≤ 1000 * 64 := Int.mul_le_mul (by omega) h3.2 h3.1 (by omega)
  omega
theorem weight_lt {P : Par} (hr : rightB P = true) (s : St) : weightN P s < 72057594037927936 := by
  have h := stk_bounds hr s
  unfold weightN
  split
  · omega
  · have h1 : s.eff * (1000 + (P.boost * stkZ P s).toNat) ≤ 1099511627776 * 65000 := Nat.mul_le_mul (by omega) (by omega)
    omega
set_option maxHeartbeats 2000000 in
theorem weight_any (P : Par) (s : St) (hr : rightB P = true) (w : World) : Calls Try.prog 58 #[.agg P.cells, .agg s.cells] w fun e w' => e = .returned (.int .u64 ((weightN P s : Nat) : Int)) ∧ Below w.heap.size w w' := by
  have r0 : row ((w.alloc (.cells P.cells 24)).alloc (.cells s.cells 48)) w.heap.size = some P.cells := (by (repeat (first | assumption | (refine row_at _ _ _ _ ?_; first | rfl | (simp only [World.size_alloc]; done) | (simp only [World.size_alloc]; omega)) | (refine (row_past _ _ _ ?_).trans ?_; (focus (first | exact Nat.lt_succ_self _ | ((repeat rw [World.size_alloc]); omega) | (simp; done) | (simp; omega) | omega))) | rw [row_drewN] | rw [row_drew])); (first | done | fail))
  have s0 : row ((w.alloc (.cells P.cells 24)).alloc (.cells s.cells 48)) (w.heap.size + 1) = some s.cells := (by (repeat (first | assumption | (refine row_at _ _ _ _ ?_; first | rfl | (simp only [World.size_alloc]; done) | (simp only [World.size_alloc]; omega)) | (refine (row_past _ _ _ ?_).trans ?_; (focus (first | exact Nat.lt_succ_self _ | ((repeat rw [World.size_alloc]); omega) | (simp; done) | (simp; omega) | omega))) | rw [row_drewN] | rw [row_drew])); (first | done | fail))
  have hB0 : Below w.heap.size w ((w.alloc (.cells P.cells 24)).alloc (.cells s.cells 48)) := (by (repeat (first | exact Below.refl _ _ | assumption | (refine Below.allocT ?_ _) | refine Below.drew ?_ | refine below_drewN ?_ _ | (refine Below.then ?_ (by assumption)) | (refine Below.setRow ?_ ?_ _; rotate_left; (focus (first | exact Nat.lt_succ_self _ | ((repeat rw [World.size_alloc]); omega) | (simp; done) | (simp; omega) | omega))) | (refine Below.setCell ?_ ?_ _; rotate_left; (focus (first | exact Nat.lt_succ_self _ | ((repeat rw [World.size_alloc]); omega) | (simp; done) | (simp; omega) | omega))) | (refine Below.then' ?_ (by assumption) ?_; rotate_left; (focus (first | exact Nat.lt_succ_self _ | ((repeat rw [World.size_alloc]); omega) | (simp; done) | (simp; omega) | omega))) | fail)); (first | done | fail))
  have HB0 := Lib.hid hB0
  by_cases hbig : P.maxEff < s.eff
  · have HV : Hid (weightN P s = 0) := Lib.hid (by unfold weightN; rw [if_pos hbig])
    have k1 : (P.maxEff : Int) < (s.eff : Int) := by omega
    clear hr r0 s0 hB0 hbig
    go_enter Try.func58, Try.ntmps58
    go_wp2_with fail
    go_ret
    exact ⟨by rw [HV.out]; rfl, HB0.out⟩
  · have hb := stk_bounds hr s
    have k1 : ¬ (P.maxEff : Int) < (s.eff : Int) := by omega
    obtain ⟨m, hm⟩ : ∃ m, m = (P.boost * stkZ P s).toNat := ⟨_, rfl⟩
    have HV : Hid (weightN P s = s.eff * (1000 + m)) := Lib.hid (by unfold weightN; rw [if_neg hbig, hm])
    have hmm : P.boost * stkZ P s = (m : Int) := by omega
    have hm6 : m ≤ 64000 := by omega
    have hq : s.eff * (1000 + m) < 18446744073709551616 := by
      have h1 : s.eff * (1000 + m) ≤ 1099511627776 * 65000 := Nat.mul_le_mul (by omega) (by omega)
      omega
    have E3 : IntKind.u64.wrap ((s.eff : Int) * (1000 + (m : Int))) = ((s.eff * (1000 + m) : Nat) : Int) := by
      rw [show (s.eff : Int) * (1000 + (m : Int)) = ((s.eff * (1000 + m) : Nat) : Int) by rw [Int.natCast_mul]; rfl]
      exact Bits.wrapN _ hq
    obtain ⟨q, hqq⟩ : ∃ q, q = s.eff * (1000 + m) := ⟨_, rfl⟩
    rw [← hqq] at HV E3
    have E1 : P.boost * min (max s.streak 0) P.streak = (m : Int) := hmm
    clear hr r0 s0 hB0 hbig hb hm hq hqq hmm
    go_enter Try.func58, Try.ntmps58
    go_wp2_with fail
    go_ret
    exact ⟨by rw [HV.out]; rfl, HB0.out⟩
set_option maxHeartbeats 1000000 in
theorem pclosure_any (P : Par) (s : St) (gP : Nat) (hr : rightB P = true) (w : World) (hP : row w gP = some P.cells) : Calls Try.prog 57 #[.agg s.cells, .pointer (some ⟨gP, 0, none⟩)] w fun e w' => e = .returned (.int .u64 ((weightN P s : Nat) : Int)) ∧ Below w.heap.size w w' := by
  have r0 : row (w.alloc (.cells s.cells 48)) gP = some P.cells := (row_past _ _ _ (row_lt hP)).trans hP
  have s0 : row (w.alloc (.cells s.cells 48)) w.heap.size = some s.cells := row_at _ _ _ _ rfl
  have hB0 : Below w.heap.size w (w.alloc (.cells s.cells 48)) := (by (repeat (first | exact Below.refl _ _ | assumption | (refine Below.allocT ?_ _) | refine Below.drew ?_ | refine below_drewN ?_ _ | (refine Below.then ?_ (by assumption)) | (refine Below.setRow ?_ ?_ _; rotate_left; (focus (first | exact Nat.lt_succ_self _ | ((repeat rw [World.size_alloc]); omega) | (simp; done) | (simp; omega) | omega))) | (refine Below.setCell ?_ ?_ _; rotate_left; (focus (first | exact Nat.lt_succ_self _ | ((repeat rw [World.size_alloc]); omega) | (simp; done) | (simp; omega) | omega))) | (refine Below.then' ?_ (by assumption) ?_; rotate_left; (focus (first | exact Nat.lt_succ_self _ | ((repeat rw [World.size_alloc]); omega) | (simp; done) | (simp; omega) | omega))) | fail)); (first | done | fail))
  have HW := Lib.hid (fun W => weight_any P s hr W)
  generalize weightN P s = q at *
  clear hr hP
  go_enter Try.func57, Try.ntmps57
  go_wp2_with fail
  refine (HW.out _).mono ?_
  rintro e w1 ⟨rfl, hb1⟩
  have hB1 := Below.then hB0 hb1
  go_wp2_with fail
  go_ret
  exact ⟨rfl, hB1⟩
/-- A call that answers a list of its own. -/
def RetL (w : World) (l : List Nat) (e : Ending) (w' : World) : Prop := ∃ A c, e = .returned (.slice A l.length c) ∧ OwnL w' w.heap.size (.slice A l.length c) l ∧ Below w.heap.size w w'
theorem st_range {W : World} {b off j : Nat} {s : St} (h : W.rangeAt b (off + j * 4) s.cells.toList) : W.cell? ⟨b, off + j * 4, none⟩ = some (.int .u64 s.bal) ∧ W.cell? ⟨b, off + j * 4 + 1, none⟩ = some (.int .u64 s.eff) ∧ W.cell? ⟨b, off + j * 4 + 2, none⟩ = some (.int .u64 s.score) ∧ W.cell? ⟨b, off + j * 4 + 3, none⟩ = some (.int .i64 s.streak) :=
  ⟨h 0 _ rfl, h 1 _ rfl, h 2 _ rfl, h 3 _ rfl⟩
set_option maxRecDepth 100000 in
set_option maxHeartbeats 4000000 in
theorem peach_any (P : Par) (gP : Nat) (hr : rightB P = true) (A : Option Addr) (n c : Nat) (xs : List St) (hn : xs.length = n) (hm : n ≤ 50000) (w : World) (hP : row w gP = some P.cells) (hU : SliceOf 4 St.cells w A xs) :
    Calls Try.prog 56 #[.func (.func 57) #[] #[.pointer (some ⟨gP, 0, none⟩)], .slice A n c] w (RetL w (xs.map (weightN P))) := by
  have HN := Lib.hid hn
  have HU := Lib.hid hU
  have HP := Lib.hid hP
  have HC := Lib.hid (fun s W h => pclosure_any P s gP hr W h)
  clear hn hU hP hr
  go_enter Try.func56, Try.ntmps56
  go_wp2_with fail
  go_loopw [10, 5] (fun i v wr => ∃ (j : Nat) (u : Value), i = .int .i64 j ∧ u = v ∧ j ≤ n ∧ Hid (OwnL wr w.heap.size u ((xs.take j).map (weightN P))) ∧ Hid (Below w.heap.size w wr)) (fun i _ _ => n - (intOf i).toNat)
  case atStart => exact ⟨0, _, rfl, rfl, by omega, Lib.hid (OwnL.nil _ _), Lib.hid (Below.refl _ _)⟩
  case round =>
    obtain ⟨j, u, rfl, rfl, hj, hO, hB⟩ := hrel
    by_cases hlt : j < n
    · obtain ⟨b, off, rfl, hbb, hcell⟩ := HU.out (by rw [HN.out]; omega)
      obtain ⟨s, hxj⟩ : ∃ s, xs[j]? = some s := ⟨_, List.getElem?_eq_getElem (by rw [HN.out]; omega)⟩
      obtain ⟨k0, k1, k2, k3⟩ := st_range (range_below (hcell j _ hxj) hB.out hbb)
      have HS : Hid ((xs.take (j + 1)).map (weightN P) = (xs.take j).map (weightN P) ++ [weightN P s]) := Lib.hid (by
        have hj' : j < xs.length := by rw [HN.out]; exact hlt
        have : xs[j] = s := by rw [List.getElem?_eq_getElem hj'] at hxj; exact Option.some.inj hxj
        rw [List.take_succ_eq_append_getElem hj', this, List.map_append]; rfl)
      have hlen : ((xs.take j).map (weightN P)).length = j := by simp; rw [HN.out]; omega
      have HLen := Lib.hid hlen
      have z1 : (0 : Int) ≤ (j : Int) := by omega
      have z2 : (j : Int) < (n : Int) := by omega
      have VP : Hid (row (wr.alloc (.cells s.cells 48)) gP = some P.cells) := Lib.hid (((row_past _ _ _ (Nat.lt_of_lt_of_le (row_lt HP.out) hB.out.size)).trans (row_below hB.out (row_lt HP.out))).trans HP.out)
      have VO : Hid (OwnL (wr.alloc (.cells s.cells 48)) w.heap.size u ((xs.take j).map (weightN P))) := Lib.hid (hO.out.stay ((Below.refl _ _).alloc (Nat.le_refl _) _))
      have VB : Hid (Below w.heap.size w (wr.alloc (.cells s.cells 48))) := Lib.hid (hB.out.alloc hB.out.size _)
      have HCs := Lib.hid (fun W h => HC.out s W h)
      generalize weightN P s = q at *
      clear hcell hxj hO hB hlen
      go_wp2_with fail
      refine (HCs.out _ VP.out).mono ?_
      rintro e w1 ⟨rfl, hb1⟩
      have O1 := Lib.hid (VO.out.stay hb1)
      have B1 := Lib.hid (Below.then VB.out hb1)
      clear hb1 VO VB VP
      go_wp2_with (at_builtin; refine wpList_append_u64 rfl _ _ rfl w.heap.size u ((xs.take j).map (weightN P)) rfl (O1.out.stay ((Below.refl _ _).alloc (Nat.le_refl _) _)) _ 1 q rfl (row_cell (row_at _ _ _ _ rfl) 0) j HLen.out (by rw [HLen.out]; omega) (by have := B1.out.size; simp; omega) ?_; intro A' cap w2 hO2 hg2; have HO2 := Lib.hid hO2; have HG2 := Lib.hid hg2; clear hO2 hg2)
      have B2 := Lib.hid (below_grown (B1.out.alloc B1.out.size _) (Nat.le_refl _) (O1.out.stay ((Below.refl _ _).alloc (Nat.le_refl _) _)) HG2.out)
      exact ⟨⟨j + 1, _, by go_num, rfl, by omega, by rw [HS.out]; exact HO2, B2⟩, by simp [intOf]; omega⟩
    · obtain rfl : n = j := by omega
      have hO' := hO.out
      rw [List.take_of_length_le (by rw [HN.out]; exact Nat.le_refl _)] at hO'
      obtain ⟨A', c', rfl, h⟩ := hO'.form
      clear h
      have HO' := Lib.hid hO'
      clear hO' hO HU
      go_wp2_with fail
      go_ret
      exact ⟨A', c', rfl, HO'.out, hB.out⟩
end Go.Proofs.Ytkfbnaafpikgfaa

/-
  What bullionref01.Add answers.
-/
import Derived.Test.YtnakkjgnjffkpaaRef01b
namespace Go.Proofs.Ytnakkjgnjffkpaa
open Go.RowKit
set_option linter.unusedVariables false

theorem add_end {a b n1 n2 i c : Nat} {v : Nat} (h1 : n1 = (dg a).length) (h2 : n2 = (dg b).length) (hi1 : n1 ≤ i) (hi2 : n2 ≤ i) (hc : c = 0) (h : v + c * 10 ^ i = a % 10 ^ i + b % 10 ^ i) : v = a + b := by
  subst hc
  rw [mod_of_len (by omega), mod_of_len (by omega)] at h
  omega
set_option maxHeartbeats 1000000 in
set_option maxRecDepth 100000 in
theorem add_any (A1 A2 : Option Addr) (n1 c1 n2 c2 a b : Nat) (w : World) (hN1 : NatV w A1 n1 a) (hN2 : NatV w A2 n2 b) (h1 : n1 ≤ 900) (h2 : n2 ≤ 900) :
    Calls Try.prog 153 #[.agg #[.slice A1 n1 c1], .agg #[.slice A2 n2 c2]] w (RetNat w (a + b)) := by
  have L1 := Lib.hid hN1.1
  have L2 := Lib.hid hN2.1
  have S0 : Below w.heap.size w (((w.alloc (.cells #[.slice A1 n1 c1] 190)).alloc (.cells #[.slice A2 n2 c2] 190)).alloc (.cells #[.slice none 0 0] 190)) := (by (repeat (first | exact Below.refl _ _ | assumption | (refine Below.allocT ?_ _) | refine Below.drew ?_ | refine below_drewN ?_ _ | (refine Below.then ?_ (by assumption)) | (refine Below.setRow ?_ ?_ _; rotate_left; (focus (first | exact Nat.lt_succ_self _ | ((repeat rw [World.size_alloc]); omega) | (simp; done) | (simp; omega) | omega))) | (refine Below.setCell ?_ ?_ _; rotate_left; (focus (first | exact Nat.lt_succ_self _ | ((repeat rw [World.size_alloc]); omega) | (simp; done) | (simp; omega) | omega))) | (refine Below.then' ?_ (by assumption) ?_; rotate_left; (focus (first | exact Nat.lt_succ_self _ | ((repeat rw [World.size_alloc]); omega) | (simp; done) | (simp; omega) | omega))) | fail)); (first | done | fail))
  have R1 : row (((w.alloc (.cells #[.slice A1 n1 c1] 190)).alloc (.cells #[.slice A2 n2 c2] 190)).alloc (.cells #[.slice none 0 0] 190)) w.heap.size = some #[.slice A1 n1 c1] := (by (repeat (first | assumption | (refine row_at _ _ _ _ ?_; first | rfl | (simp only [World.size_alloc]; done) | (simp only [World.size_alloc]; omega)) | (refine (row_past _ _ _ ?_).trans ?_; (focus (first | exact Nat.lt_succ_self _ | ((repeat rw [World.size_alloc]); omega) | (simp; done) | (simp; omega) | omega))) | rw [row_drewN] | rw [row_drew])); (first | done | fail))
  have R2 : row (((w.alloc (.cells #[.slice A1 n1 c1] 190)).alloc (.cells #[.slice A2 n2 c2] 190)).alloc (.cells #[.slice none 0 0] 190)) (w.heap.size + 1) = some #[.slice A2 n2 c2] := (by (repeat (first | assumption | (refine row_at _ _ _ _ ?_; first | rfl | (simp only [World.size_alloc]; done) | (simp only [World.size_alloc]; omega)) | (refine (row_past _ _ _ ?_).trans ?_; (focus (first | exact Nat.lt_succ_self _ | ((repeat rw [World.size_alloc]); omega) | (simp; done) | (simp; omega) | omega))) | rw [row_drewN] | rw [row_drew])); (first | done | fail))
  have R3 : row (((w.alloc (.cells #[.slice A1 n1 c1] 190)).alloc (.cells #[.slice A2 n2 c2] 190)).alloc (.cells #[.slice none 0 0] 190)) (w.heap.size + 2) = some #[.slice none 0 0] := (by (repeat (first | assumption | (refine row_at _ _ _ _ ?_; first | rfl | (simp only [World.size_alloc]; done) | (simp only [World.size_alloc]; omega)) | (refine (row_past _ _ _ ?_).trans ?_; (focus (first | exact Nat.lt_succ_self _ | ((repeat rw [World.size_alloc]); omega) | (simp; done) | (simp; omega) | omega))) | rw [row_drewN] | rw [row_drew])); (first | done | fail))
  go_enter Try.func153, Try.ntmps153
  go_wp2_with fail
  go_loopw [5, 6, 7] (fun v cc ii wr => ∃ (i c : Nat) (ds : List Nat), ii = .int .i64 i ∧ cc = .int .i64 c ∧ c ≤ 1 ∧ i ≤ 901 ∧ OwnI wr (w.heap.size + 3) v ds ∧ Hid (ds.length = i ∧ low ds ∧ val ds + c * 10 ^ i = a % 10 ^ i + b % 10 ^ i ∧ (n1 < i → n2 < i → c = 0)) ∧ Below w.heap.size w wr ∧ row wr w.heap.size = some #[.slice A1 n1 c1] ∧ row wr (w.heap.size + 1) = some #[.slice A2 n2 c2] ∧ row wr (w.heap.size + 2) = some #[.slice none 0 0]) (fun _ _ ii _ => 1000 - (intOf ii).toNat)
  case atStart => exact ⟨0, 0, [], rfl, rfl, by omega, by omega, OwnI.nil _ _, Lib.hid ⟨rfl, (by intro d hd; cases hd), by simp [val, Nat.mod_one], by omega⟩, S0, R1, R2, R3⟩
  case round =>
    obtain ⟨i, c, ds, rfl, rfl, hc, hi, hown, hrel, hB, r1, r2, r3⟩ := hrel
    clear S0 R1 R2 R3
    have hz := row_lt r3
    have q1 : wr.cell? ⟨w.heap.size, 0, none⟩ = some (.slice A1 n1 c1) := row_cell r1 0
    have q2 : wr.cell? ⟨w.heap.size + 1, 0, none⟩ = some (.slice A2 n2 c2) := row_cell r2 0
    have hA : ∀ nq, NatV (wr.drewN nq) A1 n1 a := fun nq => (hN1.stay hB).drewN nq
    have hA' : ∀ nq, NatV (wr.drewN nq) A2 n2 b := fun nq => (hN2.stay hB).drewN nq
    rcases Nat.lt_or_ge n1 n2 with hle | hle
    all_goals
      by_cases hgo : i < n1 ∨ i < n2 ∨ 0 < c
      · have hi' : i ≤ 900 := by
          have := hrel.out.2.2.2; omega
        have b1 := dgt_lt a i
        have b2 := dgt_lt b i
        by_cases him : i < n1 ∨ i < n2
        all_goals
          go_wp2_with fail
          have e1 : IntKind.i64.wrap ((dgt a i : Int) + (dgt b i : Int)) = (dgt a i : Int) + (dgt b i : Int) := IntWalk.i64_in _ (by omega)
          have e2 : IntKind.i64.wrap ((dgt a i : Int) + (dgt b i : Int) + (c : Int)) = (dgt a i : Int) + (dgt b i : Int) + (c : Int) := IntWalk.i64_in _ (by omega)
          go_quiet ((go_at_call 160; first | exact Calls.quiet_of_same (at_dg _ _ _ _ i _ (hA _) (by omega) (by omega)) | exact Calls.quiet_of_same (at_dg _ _ _ _ i _ (hA' _) (by omega) (by omega)) | exact calm_more (at_dg _ _ _ _ i _ (hA _) (by omega) (by omega)) | exact calm_more (at_dg _ _ _ _ i _ (hA' _) (by omega) (by omega))))
          clear e1 e2
          go_wp2_with (at_builtin; refine wpList_app rfl _ _ rfl (w.heap.size + 3) _ ds _ ((dgt a i + dgt b i + c) % 10) rfl rfl (hown.drewN _) ?_ ?_ ?_ ?_; (focus (simp; done)); (focus (have := hrel.out.1; omega)); (focus (show _ ≤ wr.heap.size; omega)); intro v' w' g1 g2)
          have hb3 : Below (w.heap.size + 3) wr w' := g2 _ _ (below_drewN (Below.refl _ _) _) (Nat.le_refl _)
          refine ⟨⟨i + 1, (dgt a i + dgt b i + c) / 10, ds ++ [(dgt a i + dgt b i + c) % 10], by go_num, congrArg (Value.int IntKind.i64) (by omega), by omega, by omega, g1, Lib.hid ⟨by simp [hrel.out.1], low_snoc hrel.out.2.1 (by omega), ?_, ?_⟩, hB.trans (hb3.mono (by omega)), (row_below hb3 (by omega)).trans r1, (row_below hb3 (by omega)).trans r2, (row_below hb3 (by omega)).trans r3⟩, by simp [intOf]; omega⟩
          · rw [val_snoc, hrel.out.1]
            exact add_step a b i c (val ds) hrel.out.2.2.1
          · intro k1 k2
            have k3 : dgt a i = 0 := dgt_of_len (by have := L1.out; omega)
            have k4 : dgt b i = 0 := dgt_of_len (by have := L2.out; omega)
            rw [k3, k4]; omega
      · have hv : val ds = a + b := add_end L1.out L2.out (i := i) (by omega) (by omega) (by omega) hrel.out.2.2.1
        obtain ⟨A, cc, rfl, hcap, hmax, hI⟩ := hown.form
        unfold maxLen at hmax
        have hhi := hown.high
        have HH := Lib.hid hhi
        clear hown
        go_wp2_with fail
        refine (trim_any A ds ds.length cc _ hrel.out.2.1 rfl hI hcap hmax).mono ?_
        rw [hv]
        rintro e w2 ⟨rfl, hb2, hN⟩
        have r3' := (row_below hb2 (g := w.heap.size + 2) (by omega)).trans r3
        have hz2 := row_lt r3'
        have q3 : w2.cell? ⟨w.heap.size + 2, 0, none⟩ = some (.slice none 0 0) := row_cell r3' 0
        have q4 : w2.frozen? ⟨w.heap.size + 2, 0, none⟩ = false := row_frozen r3' 0
        have HF := Lib.hid (hN.far hhi (p := ⟨w.heap.size + 2, 0, none⟩) (by simp) (.slice A (dg (a + b)).length cc))
        clear hN hhi hI hA hA' q1 q2 r1 r2 r3 r3' hgo hcap hmax hv
        go_wp2_with fail
        refine bodyPost_ret (v := .agg #[.slice A (dg (a + b)).length cc]) (by simp [results, Try.results153, go_sem, q3]) rfl ⟨A, cc, rfl, HF.out, ?_, fun x hx => by have := HH.out x hx; omega⟩
        exact (Below.then hB hb2).setCell (p := ⟨w.heap.size + 2, 0, none⟩) (by show w.heap.size ≤ w.heap.size + 2; omega) _
end Go.Proofs.Ytnakkjgnjffkpaa

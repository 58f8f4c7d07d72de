/-
  What bullionref01.Most, Uint and Told answer.
-/
import Derived.Test.YtnakkjgnjffkpaaRef01b
namespace Go.Proofs.Ytnakkjgnjffkpaa
open Go.RowKit
set_option linter.unusedVariables false

def mostN : Nat := 18446744073709551615
theorem mostN_eq : mostN = 18446744073709551615 := rfl
theorem mostN_len : (dg mostN).length ≤ 20 := len_u64 (by rw [mostN_eq]; omega)
theorem most_any (w : World) : Calls Try.prog 151 #[] w (RetNat w mostN) := by
  have hm : mostN < 18446744073709551616 := by rw [mostN_eq]; omega
  have H0 := fun W => ofn_any mostN hm W
  rw [show ((mostN : Nat) : Int) = 18446744073709551615 from rfl] at H0
  clear hm
  have H := Lib.hid H0
  clear H0
  go_enter Try.func151, Try.ntmps151
  go_wp2_with fail
  refine (H.out _).mono ?_
  rintro e w2 ⟨A, c, rfl, hN, hb, hh⟩
  have r3 := (row_below hb (g := w.heap.size) (by simp)).trans (row_at w _ _ _ rfl)
  have hz2 := row_lt r3
  have q3 : w2.cell? ⟨w.heap.size, 0, none⟩ = some (.slice none 0 0) := row_cell r3 0
  have q4 : w2.frozen? ⟨w.heap.size, 0, none⟩ = false := row_frozen r3 0
  have HF := Lib.hid (hN.far (B := w.heap.size + 1) (by simpa using hh) (p := ⟨w.heap.size, 0, none⟩) (by simp) (.slice A (dg mostN).length c))
  have HH := Lib.hid hh
  clear hN hh r3 H
  go_wp2_with fail
  refine bodyPost_ret (v := .agg #[.slice A (dg mostN).length c]) (by simp [results, Try.results151, go_sem, q3]) rfl ⟨A, c, rfl, HF.out, ?_, fun x hx => by have := HH.out x hx; simp at this; omega⟩
  exact Below.setCell (p := ⟨w.heap.size, 0, none⟩) (by (repeat (first | exact Below.refl _ _ | assumption | (refine Below.allocT ?_ _) | refine Below.drew ?_ | refine below_drewN ?_ _ | (refine Below.then ?_ (by assumption)) | (refine Below.setRow ?_ ?_ _; rotate_left; (focus (first | exact Nat.lt_succ_self _ | ((repeat rw [World.size_alloc]); omega) | (simp; done) | (simp; omega) | omega))) | (refine Below.setCell ?_ ?_ _; rotate_left; (focus (first | exact Nat.lt_succ_self _ | ((repeat rw [World.size_alloc]); omega) | (simp; done) | (simp; omega) | omega))) | (refine Below.then' ?_ (by assumption) ?_; rotate_left; (focus (first | exact Nat.lt_succ_self _ | ((repeat rw [World.size_alloc]); omega) | (simp; done) | (simp; omega) | omega))) | fail)); (first | done | fail)) (by show w.heap.size ≤ w.heap.size; omega) _
/-- The number of 64 bits, if it is one. -/
def fit (a : Nat) : Nat := if a ≤ mostN then a else 0
def fitB (a : Nat) : Bool := decide (a ≤ mostN)
set_option maxHeartbeats 1000000 in
theorem uint_any (A : Option Addr) (n c a : Nat) (w : World) (hN : NatV w A n a) (hn : n ≤ 1000) :
    Calls Try.prog 106 #[.agg #[.slice A n c]] w fun e w' => e = .returned (.tuple #[.int .u64 ((fit a : Nat) : Int), .bool (fitB a)]) ∧ Below w.heap.size w w' := by
  have L1 := Lib.hid hN.1
  have hM := hN.alloc (.cells #[.slice A n c] 190)
  go_enter Try.func106, Try.ntmps106
  go_wp2_with fail
  go_region_with (first | (go_at_call 151; refine (most_any _).mono ?_; rintro e w2 ⟨A2, c2, rfl, hN2, hb2, hh2⟩; have hq2 := (row_below hb2 (g := w.heap.size) (by show w.heap.size < (w.heap.push _).size; simp)).trans (row_at w _ _ _ rfl); have hc2 : w2.cell? ⟨w.heap.size, 0, none⟩ = some (.slice A n c) := row_cell hq2 0; have hz2 := row_lt hq2) | (go_at_call 145; refine (cmp_any A A2 n c _ c2 a mostN _ ((NatV.draw hM).stay hb2) hN2 hn (by have := mostN_len; omega)).mono ?_; rintro e w3 ⟨rfl, hb3⟩))
  all_goals
    have hN3 : NatV w3 A n a := NatV.stay (NatV.stay (NatV.draw hM) hb2) hb3
    have hq3 := (row_below hb3 (g := w.heap.size) (by omega)).trans hq2
    have hc3 : w3.cell? ⟨w.heap.size, 0, none⟩ = some (.slice A n c) := row_cell hq3 0
    have hB : Below w.heap.size w w3 := (by (repeat (first | exact Below.refl _ _ | assumption | (refine Below.allocT ?_ _) | refine Below.drew ?_ | refine below_drewN ?_ _ | (refine Below.then ?_ (by assumption)) | (refine Below.setRow ?_ ?_ _; rotate_left; (focus (first | exact Nat.lt_succ_self _ | ((repeat rw [World.size_alloc]); omega) | (simp; done) | (simp; omega) | omega))) | (refine Below.setCell ?_ ?_ _; rotate_left; (focus (first | exact Nat.lt_succ_self _ | ((repeat rw [World.size_alloc]); omega) | (simp; done) | (simp; omega) | omega))) | (refine Below.then' ?_ (by assumption) ?_; rotate_left; (focus (first | exact Nat.lt_succ_self _ | ((repeat rw [World.size_alloc]); omega) | (simp; done) | (simp; omega) | omega))) | fail)); (first | done | fail))
    clear hc2 hz2 hq2 hb2 hb3 hN2 hh2 hM hN hq3
    by_cases hle : a ≤ mostN
    · have hf : fit a = a := by simp [fit, hle]
      have hg : fitB a = true := by simp [fitB, hle]
      have HF := Lib.hid hf
      have HG := Lib.hid hg
      clear hf hg
      have hcm : cmpI a mostN ≤ 0 := by unfold cmpI; split <;> (try split) <;> omega
      rw [mostN_eq] at hle
      have H0 : Hid (a / 10 ^ n = 0) := Lib.hid (Nat.div_eq_of_lt (lt_of_len_le (by rw [L1.out]; exact Nat.le_refl _)))
      go_wp2_with fail
      go_loop [4, 5] (fun x y => ∃ (k : Int) (v : Nat), -1 ≤ k ∧ k < n ∧ y = .int .i64 k ∧ x = .int .u64 v ∧ Hid (v = a / 10 ^ (k + 1).toNat)) (fun _ y => (intOf y + 1).toNat)
      case atStart => exact ⟨(n : Int) - 1, 0, by omega, by omega, rfl, rfl, Lib.hid (by rw [show ((n : Int) - 1 + 1).toNat = n from by omega]; exact H0.out.symm)⟩
      case round =>
        obtain ⟨k, v, hk1, hk, rfl, rfl, hv⟩ := hrel
        clear H0
        by_cases hk0 : 0 ≤ k
        · obtain ⟨j, rfl⟩ := Int.eq_ofNat_of_zero_le hk0
          rw [show ((j : Int) + 1).toNat = j + 1 from by omega] at hv
          have hnew : Hid (10 * v + dgt a j = a / 10 ^ j) := Lib.hid (by rw [div_pow_succ a j, hv.out]; omega)
          have hle2 : 10 * v + dgt a j ≤ 18446744073709551615 := by rw [hnew.out]; exact Nat.le_trans (Nat.div_le_self _ _) hle
          obtain ⟨g, rfl, hgl, hcell⟩ := hN3.2 (by omega)
          have hcj := hcell j (by omega)
          have bd := dgt_lt a j
          clear hcell hN3
          go_wp2_with fail
          exact ⟨⟨(j : Int) - 1, 10 * v + dgt a j, by omega, by omega, rfl, by first | rfl | go_num, Lib.hid (by rw [show ((j : Int) - 1 + 1).toNat = j from by omega]; exact hnew.out)⟩, by simp [intOf]⟩
        · obtain rfl : k = -1 := by omega
          have hv' : v = a := by simpa using hv.out
          clear hv
          subst hv'
          go_wp2_with fail
          go_ret2
          exact ⟨by rw [HF.out, HG.out]; rfl, hB⟩
    · have hf : fit a = 0 := by simp [fit, hle]
      have hg : fitB a = false := by simp [fitB, hle]
      have HF := Lib.hid hf
      have HG := Lib.hid hg
      clear hf hg
      have hcm : 1 ≤ cmpI a mostN := by unfold cmpI; rw [if_neg (by omega), if_pos (by omega)]; omega
      clear hle
      go_wp2_with fail
      go_ret2
      exact ⟨by rw [HF.out, HG.out]; rfl, hB⟩
def toldE (a : Nat) : Int := if a ≤ mostN then 0 else 10
theorem fit_le {a : Nat} (h : a ≤ 18446744073709551615) : fit a = a := by unfold fit; rw [mostN_eq, if_pos h]
theorem fit_gt {a : Nat} (h : ¬ a ≤ 18446744073709551615) : fit a = 0 := by unfold fit; rw [mostN_eq, if_neg h]
theorem told_le {a : Nat} (h : a ≤ 18446744073709551615) : toldE a = 0 := by unfold toldE; rw [mostN_eq, if_pos h]
theorem told_gt {a : Nat} (h : ¬ a ≤ 18446744073709551615) : toldE a = 10 := by unfold toldE; rw [mostN_eq, if_neg h]
theorem fitB_le {a : Nat} (h : a ≤ 18446744073709551615) : fitB a = true := by unfold fitB; rw [mostN_eq]; simpa using h
theorem told_any (A : Option Addr) (n c a : Nat) (w : World) (hN : NatV w A n a) (hn : n ≤ 1000) :
    Calls Try.prog 117 #[.agg #[.slice A n c]] w fun e w' => e = .returned (.tuple #[.int .u64 ((fit a : Nat) : Int), .int .i64 (toldE a)]) ∧ Below w.heap.size w w' := by
  by_cases hle : a ≤ mostN
  all_goals
    have hf : fit a = if a ≤ mostN then a else 0 := rfl
    have ht : toldE a = if a ≤ mostN then 0 else 10 := rfl
    have hg : fitB a = decide (a ≤ mostN) := rfl
    simp only [hle, if_true, if_false, decide_true, decide_false] at hf ht hg
    have HF := Lib.hid hf
    have HT := Lib.hid ht
    have HG := Lib.hid hg
    clear hf ht hg
    go_enter Try.func117, Try.ntmps117
    go_wp2_with fail
    refine (uint_any A n c a _ (hN.alloc _) hn).mono ?_
    rw [HG.out]
    rintro e w2 ⟨rfl, hb2⟩
    go_wp2_with fail
    go_ret2
    refine ⟨?_, (by (repeat (first | exact Below.refl _ _ | assumption | (refine Below.allocT ?_ _) | refine Below.drew ?_ | refine below_drewN ?_ _ | (refine Below.then ?_ (by assumption)) | (refine Below.setRow ?_ ?_ _; rotate_left; (focus (first | exact Nat.lt_succ_self _ | ((repeat rw [World.size_alloc]); omega) | (simp; done) | (simp; omega) | omega))) | (refine Below.setCell ?_ ?_ _; rotate_left; (focus (first | exact Nat.lt_succ_self _ | ((repeat rw [World.size_alloc]); omega) | (simp; done) | (simp; omega) | omega))) | (refine Below.then' ?_ (by assumption) ?_; rotate_left; (focus (first | exact Nat.lt_succ_self _ | ((repeat rw [World.size_alloc]); omega) | (simp; done) | (simp; omega) | omega))) | fail)); (first | done | fail))⟩
    rw [HF.out, HT.out]
    rfl
end Go.Proofs.Ytnakkjgnjffkpaa

/-
  What bullionref01.at and Cmp answer.
-/
import Derived.Test.YtnakkjgnjffkpaaRef01a
namespace Go.Proofs.Ytnakkjgnjffkpaa
open Go.RowKit
set_option linter.unusedVariables false

theorem at_dg (A : Option Addr) (n c a : Nat) (i : Nat) (w : World) (hN : NatV w A n a) (hn : n ≤ 1000) (hi : i ≤ 100000) :
    Calls Try.prog 160 #[.slice A n c, .int .i64 i] w fun e w' => e = .returned (.int .i64 ((dgt a i : Nat) : Int)) ∧ w' = w := by
  obtain ⟨hl, hI⟩ := hN
  by_cases hlt : i < n
  · obtain ⟨g, rfl, hg, hcell⟩ := hI (by omega)
    have hc := hcell i hlt
    have HL := Lib.hid hl
    clear hcell hl hI
    go_enter Try.func160, Try.ntmps160
    go_wp2
    go_ret
    exact ⟨rfl, rfl⟩
  · have h0 : dgt a i = 0 := dgt_of_len (by omega)
    have HL := Lib.hid hl
    clear hl hI
    go_enter Try.func160, Try.ntmps160
    go_wp2
    go_ret
    exact ⟨ret_int (by rw [h0]; rfl), rfl⟩
theorem at_at (A : Option Addr) (n c a : Nat) (i : Int) (w : World) (hN : NatV w A n a) (hn : n ≤ 1000) (h0 : 0 ≤ i) (hi : i ≤ 100000) :
    Calls Try.prog 160 #[.slice A n c, .int .i64 i] w fun e w' => e = .returned (.int .i64 ((dgt a i.toNat : Nat) : Int)) ∧ w' = w := by
  obtain ⟨k, rfl⟩ := Int.eq_ofNat_of_zero_le h0
  exact at_dg A n c a k w hN hn (by omega)
def cmpI (a b : Nat) : Int := if a < b then -1 else if b < a then 1 else 0
theorem NatV.drewN {w : World} {A : Option Addr} {n a : Nat} (h : NatV w A n a) (k : Nat) : NatV (w.drewN k) A n a := h
theorem NatV.draw {w : World} {A : Option Addr} {n a : Nat} (h : NatV w A n a) : NatV w.drew A n a := h
theorem NatV.far {w : World} {A : Option Addr} {n a B : Nat} (h : NatV w A n a) (hA : ∀ x, A = some x → B ≤ x.block) {p : Addr} (hp : p.block < B) (u : Value) : NatV (w.setCell p u) A n a :=
  ⟨h.1, fun hn => by
    obtain ⟨g, e, hg, hc⟩ := h.2 hn
    have hb := hA _ e
    refine ⟨g, e, by simpa [World.setCell] using hg, fun i hi => ?_⟩
    rw [← hc i hi]
    refine World.cell?_of_block (w := w) ?_
    exact Below.heap_setCell w p u g (by simp at hb; omega)⟩
set_option maxHeartbeats 1000000 in
theorem cmp_any (A1 A2 : Option Addr) (n1 c1 n2 c2 a b : Nat) (w : World) (hN1 : NatV w A1 n1 a) (hN2 : NatV w A2 n2 b) (h1 : n1 ≤ 1000) (h2 : n2 ≤ 1000) :
    Calls Try.prog 145 #[.agg #[.slice A1 n1 c1], .agg #[.slice A2 n2 c2]] w fun e w' => e = .returned (.int .i64 (cmpI a b)) ∧ Below w.heap.size w w' := by
  have hM1 := (hN1.alloc (.cells #[.slice A1 n1 c1] 190)).alloc (.cells #[.slice A2 n2 c2] 190)
  have hM2 := (hN2.alloc (.cells #[.slice A1 n1 c1] 190)).alloc (.cells #[.slice A2 n2 c2] 190)
  have hs1 := hN1.1
  have hs2 := hN2.1
  have H0 : Hid (∀ k : Nat, n1 ≤ k → n2 ≤ k → a / 10 ^ k = b / 10 ^ k) := Lib.hid fun k e1 e2 => by
    rw [Nat.div_eq_of_lt (lt_of_len_le (by omega)), Nat.div_eq_of_lt (lt_of_len_le (by omega))]
  clear hN1 hN2 hs1 hs2
  go_enter Try.func145, Try.ntmps145
  go_wp2_with fail
  all_goals
    go_loopw [5] (fun t wr => ∃ (k : Int) (m : Nat), -1 ≤ k ∧ k ≤ 1000 ∧ t = .int .i64 k ∧ Hid (a / 10 ^ (k + 1).toNat = b / 10 ^ (k + 1).toNat) ∧ wr = ((w.alloc (.cells #[.slice A1 n1 c1] 190)).alloc (.cells #[.slice A2 n2 c2] 190)).drewN m) (fun t _ => (intOf t + 1).toNat)
    case atStart => exact ⟨_, 0, by omega, by omega, rfl, Lib.hid (H0.out _ (by omega) (by omega)), rfl⟩
    case round =>
      obtain ⟨k, m, hk1, hk, rfl, hq, rfl⟩ := hrel
      clear H0
      have hA : ∀ nq, NatV (((w.alloc (.cells #[.slice A1 n1 c1] 190)).alloc (.cells #[.slice A2 n2 c2] 190)).drewN nq) A1 n1 a := fun nq => hM1.drewN nq
      have hB : ∀ nq, NatV (((w.alloc (.cells #[.slice A1 n1 c1] 190)).alloc (.cells #[.slice A2 n2 c2] 190)).drewN nq) A2 n2 b := fun nq => hM2.drewN nq
      clear hM1 hM2
      by_cases hk0 : 0 ≤ k
      · obtain ⟨j, rfl⟩ := Int.eq_ofNat_of_zero_le hk0
        rw [show ((j : Int) + 1).toNat = j + 1 from by omega] at hq
        rcases Nat.lt_trichotomy (dgt a j) (dgt b j) with hd | hd | hd
        · have hlt := cmp_lt hq.out hd
          go_wp2_with fail
          go_quiet ((go_at_call 160; first | exact Calls.quiet_of_same (at_dg _ _ _ _ j _ (hA _) h1 (by omega)) | exact Calls.quiet_of_same (at_dg _ _ _ _ j _ (hB _) h2 (by omega)) | exact calm_more (at_dg _ _ _ _ j _ (hA _) h1 (by omega)) | exact calm_more (at_dg _ _ _ _ j _ (hB _) h2 (by omega))))
          go_wp2_with fail
          go_ret
          exact ⟨ret_int (by simp [cmpI, hlt]), (by (repeat (first | exact Below.refl _ _ | assumption | (refine Below.allocT ?_ _) | refine Below.drew ?_ | refine below_drewN ?_ _ | (refine Below.then ?_ (by assumption)) | (refine Below.setRow ?_ ?_ _; rotate_left; (focus (first | exact Nat.lt_succ_self _ | ((repeat rw [World.size_alloc]); omega) | (simp; done) | (simp; omega) | omega))) | (refine Below.setCell ?_ ?_ _; rotate_left; (focus (first | exact Nat.lt_succ_self _ | ((repeat rw [World.size_alloc]); omega) | (simp; done) | (simp; omega) | omega))) | (refine Below.then' ?_ (by assumption) ?_; rotate_left; (focus (first | exact Nat.lt_succ_self _ | ((repeat rw [World.size_alloc]); omega) | (simp; done) | (simp; omega) | omega))) | fail)); (first | done | fail))⟩
        · have HQ : Hid (a / 10 ^ j = b / 10 ^ j) := Lib.hid (cmp_top hq.out hd)
          have hd1 : (dgt a j) ≤ dgt b j := by omega
          have hd2 : (dgt b j) ≤ dgt a j := by omega
          clear hd hq
          go_wp2_with fail
          go_quiet ((go_at_call 160; first | exact Calls.quiet_of_same (at_dg _ _ _ _ j _ (hA _) h1 (by omega)) | exact Calls.quiet_of_same (at_dg _ _ _ _ j _ (hB _) h2 (by omega)) | exact calm_more (at_dg _ _ _ _ j _ (hA _) h1 (by omega)) | exact calm_more (at_dg _ _ _ _ j _ (hB _) h2 (by omega))))
          go_wp2_with fail
          go_quiet ((go_at_call 160; first | exact Calls.quiet_of_same (at_dg _ _ _ _ j _ (hA _) h1 (by omega)) | exact Calls.quiet_of_same (at_dg _ _ _ _ j _ (hB _) h2 (by omega)) | exact calm_more (at_dg _ _ _ _ j _ (hA _) h1 (by omega)) | exact calm_more (at_dg _ _ _ _ j _ (hB _) h2 (by omega))))
          go_wp2_with fail
          exact ⟨⟨(j : Int) - 1, _, by omega, by omega, rfl, Lib.hid (by rw [show ((j : Int) - 1 + 1).toNat = j from by omega]; exact HQ.out), rfl⟩, by simp [intOf]⟩
        · have hlt := cmp_lt hq.out.symm hd
          have hlt' : ¬ a < b := by omega
          go_wp2_with fail
          go_quiet ((go_at_call 160; first | exact Calls.quiet_of_same (at_dg _ _ _ _ j _ (hA _) h1 (by omega)) | exact Calls.quiet_of_same (at_dg _ _ _ _ j _ (hB _) h2 (by omega)) | exact calm_more (at_dg _ _ _ _ j _ (hA _) h1 (by omega)) | exact calm_more (at_dg _ _ _ _ j _ (hB _) h2 (by omega))))
          go_wp2_with fail
          go_quiet ((go_at_call 160; first | exact Calls.quiet_of_same (at_dg _ _ _ _ j _ (hA _) h1 (by omega)) | exact Calls.quiet_of_same (at_dg _ _ _ _ j _ (hB _) h2 (by omega)) | exact calm_more (at_dg _ _ _ _ j _ (hA _) h1 (by omega)) | exact calm_more (at_dg _ _ _ _ j _ (hB _) h2 (by omega))))
          go_wp2_with fail
          go_ret
          exact ⟨ret_int (by simp [cmpI, hlt, hlt']), (by (repeat (first | exact Below.refl _ _ | assumption | (refine Below.allocT ?_ _) | refine Below.drew ?_ | refine below_drewN ?_ _ | (refine Below.then ?_ (by assumption)) | (refine Below.setRow ?_ ?_ _; rotate_left; (focus (first | exact Nat.lt_succ_self _ | ((repeat rw [World.size_alloc]); omega) | (simp; done) | (simp; omega) | omega))) | (refine Below.setCell ?_ ?_ _; rotate_left; (focus (first | exact Nat.lt_succ_self _ | ((repeat rw [World.size_alloc]); omega) | (simp; done) | (simp; omega) | omega))) | (refine Below.then' ?_ (by assumption) ?_; rotate_left; (focus (first | exact Nat.lt_succ_self _ | ((repeat rw [World.size_alloc]); omega) | (simp; done) | (simp; omega) | omega))) | fail)); (first | done | fail))⟩
      · obtain rfl : k = -1 := by omega
        have hab : a = b := by simpa using hq.out
        go_wp2_with fail
        go_ret
        exact ⟨ret_int (by first | (rw [hab]; simp [cmpI]; done) | (simp [cmpI]; done)), (by (repeat (first | exact Below.refl _ _ | assumption | (refine Below.allocT ?_ _) | refine Below.drew ?_ | refine below_drewN ?_ _ | (refine Below.then ?_ (by assumption)) | (refine Below.setRow ?_ ?_ _; rotate_left; (focus (first | exact Nat.lt_succ_self _ | ((repeat rw [World.size_alloc]); omega) | (simp; done) | (simp; omega) | omega))) | (refine Below.setCell ?_ ?_ _; rotate_left; (focus (first | exact Nat.lt_succ_self _ | ((repeat rw [World.size_alloc]); omega) | (simp; done) | (simp; omega) | omega))) | (refine Below.then' ?_ (by assumption) ?_; rotate_left; (focus (first | exact Nat.lt_succ_self _ | ((repeat rw [World.size_alloc]); omega) | (simp; done) | (simp; omega) | omega))) | fail)); (first | done | fail))⟩
end Go.Proofs.Ytnakkjgnjffkpaa

/-
  The reference's weight and prizes (bullionref14).
-/
import Derived.Test.YtkfbnaafpikgfaaPrize3
namespace Go.Proofs.Ytkfbnaafpikgfaa
open Go.RowKit
set_option linter.unusedVariables false

def rwN (e b k : Nat) : Nat := 1000 * e + k * (b * e)
theorem rwN_lt {e b k : Nat} (h1 : e ≤ 1099511627776) (h2 : b ≤ 1000) (h3 : k ≤ 64) : b * e ≤ 1099511627776000 ∧ rwN e b k ≤ 72000000000000000 := by
  have h4 : b * e ≤ 1000 * 1099511627776 := Nat.mul_le_mul h2 h1
  have h5 : k * (b * e) ≤ 64 * (1000 * 1099511627776) := Nat.mul_le_mul h3 h4
  unfold rwN
  omega
theorem rwN_succ (e b k : Nat) : rwN e b (k + 1) = rwN e b k + b * e := by unfold rwN; rw [Nat.add_mul, Nat.one_mul, Nat.add_assoc]
theorem rwN_end {P : Par} {s : St} {b k : Nat} (hb : P.boost = (b : Int)) (hk : stkZ P s = (k : Int)) (he : ¬ P.maxEff < s.eff) : weightN P s = rwN s.eff b k := by
  unfold weightN rwN
  rw [if_neg he, hb, hk, show ((b : Int) * (k : Int)).toNat = b * k by rw [← Int.natCast_mul]; rfl, Nat.mul_add, Nat.mul_comm s.eff 1000, Nat.mul_comm s.eff (b * k), Nat.mul_comm b k, Nat.mul_assoc]
set_option maxHeartbeats 4000000 in
theorem rweight_any (P : Par) (s : St) (hr : rightB P = true) (w : World) : Calls Try.prog 25 #[.agg P.cells, .agg s.cells] w fun e w' => e = .returned (.int .u64 ((weightN P s : Nat) : Int)) ∧ Below w.heap.size w w' := by
  have r0 : row ((w.alloc (.cells P.cells 30)).alloc (.cells s.cells 49)) w.heap.size = some P.cells := (by (repeat (first | assumption | (refine row_at _ _ _ _ ?_; first | rfl | (simp only [World.size_alloc]; done) | (simp only [World.size_alloc]; omega)) | (refine (row_past _ _ _ ?_).trans ?_; (focus (first | exact Nat.lt_succ_self _ | ((repeat rw [World.size_alloc]); omega) | (simp; done) | (simp; omega) | omega))) | rw [row_drewN] | rw [row_drew])); (first | done | fail))
  have s0 : row ((w.alloc (.cells P.cells 30)).alloc (.cells s.cells 49)) (w.heap.size + 1) = some s.cells := (by (repeat (first | assumption | (refine row_at _ _ _ _ ?_; first | rfl | (simp only [World.size_alloc]; done) | (simp only [World.size_alloc]; omega)) | (refine (row_past _ _ _ ?_).trans ?_; (focus (first | exact Nat.lt_succ_self _ | ((repeat rw [World.size_alloc]); omega) | (simp; done) | (simp; omega) | omega))) | rw [row_drewN] | rw [row_drew])); (first | done | fail))
  have hB0 : Below w.heap.size w ((w.alloc (.cells P.cells 30)).alloc (.cells s.cells 49)) := (by (repeat (first | exact Below.refl _ _ | assumption | (refine Below.allocT ?_ _) | refine Below.drew ?_ | refine below_drewN ?_ _ | (refine Below.then ?_ (by assumption)) | (refine Below.setRow ?_ ?_ _; rotate_left; (focus (first | exact Nat.lt_succ_self _ | ((repeat rw [World.size_alloc]); omega) | (simp; done) | (simp; omega) | omega))) | (refine Below.setCell ?_ ?_ _; rotate_left; (focus (first | exact Nat.lt_succ_self _ | ((repeat rw [World.size_alloc]); omega) | (simp; done) | (simp; omega) | omega))) | (refine Below.then' ?_ (by assumption) ?_; rotate_left; (focus (first | exact Nat.lt_succ_self _ | ((repeat rw [World.size_alloc]); omega) | (simp; done) | (simp; omega) | omega))) | fail)); (first | done | fail))
  by_cases hbig : P.maxEff < s.eff
  · have HV : Hid (weightN P s = 0) := Lib.hid (by unfold weightN; rw [if_pos hbig])
    clear hr
    go_enter Try.func25, Try.ntmps25
    go_wp2_with fail
    generalize (w.alloc (.cells P.cells 30)).alloc (.cells s.cells 49) = w0 at *
    have c1 := fun i => row_cell r0 i
    have c2 := fun i => row_cell s0 i
    go_wp2_with fail
    go_ret
    exact ⟨by rw [HV.out]; rfl, hB0⟩
  · have hst := stk_bounds hr s
    have hot := others_facts (right_facts hr).2.2.1
    obtain ⟨b, hb⟩ := Int.eq_ofNat_of_zero_le (show 0 ≤ P.boost by omega)
    obtain ⟨z, hz⟩ := Int.eq_ofNat_of_zero_le hst.1
    have HV := Lib.hid (rwN_end hb hz hbig)
    have hb' : P.boost = (b : Int) := hb
    have e1 : s.eff ≤ 1099511627776 := by omega
    have e2 : b ≤ 1000 := by omega
    have e3 : z ≤ 64 := by omega
    have HK := Lib.hid (fun k (h : k ≤ 64) => rwN_lt (k := k) e1 e2 h)
    have hsk : stkZ P s = min (max s.streak 0) P.streak := rfl
    have hps : 0 ≤ P.streak := by omega
    rw [hz] at hsk
    have hsk' : (z : Int) = min (max s.streak 0) P.streak := hsk
    have C1 : IntKind.u64.wrap P.boost = (b : Int) := by rw [hb']; exact Bits.wrapN _ (by omega)
    have C2 : IntKind.u64.wrap (1000 * (s.eff : Int)) = ((rwN s.eff b 0 : Nat) : Int) := by
      rw [show (1000 * (s.eff : Int)) = ((rwN s.eff b 0 : Nat) : Int) by unfold rwN; omega]
      exact Bits.wrapN _ (by have := (HK.out 0 (by omega)).2; omega)
    obtain ⟨be, hbe⟩ : ∃ be, be = b * s.eff := ⟨_, rfl⟩
    have HBE := Lib.hid hbe
    have C3 : IntKind.u64.wrap ((b : Int) * (s.eff : Int)) = (be : Int) := by
      rw [hbe, ← Int.natCast_mul]; exact Bits.wrapN _ (by have := (HK.out 0 (by omega)).1; omega)
    have HS := Lib.hid hsk'
    have HZ := Lib.hid e3
    clear hst hot hz hb hb' hsk hsk' hr e1 e2 e3 hbe
    go_enter Try.func25, Try.ntmps25
    go_wp2_with fail
    generalize (w.alloc (.cells P.cells 30)).alloc (.cells s.cells 49) = w0 at *
    have c1 := fun i => row_cell r0 i
    have c2 := fun i => row_cell s0 i
    go_wp2_with fail
    go_loopw [6, 5] (fun x y wr => wr = w0 ∧ ∃ k : Nat, x = .int .i64 k ∧ y = .int .u64 ((rwN s.eff b k : Nat) : Int) ∧ k ≤ z) (fun x _ _ => z - (intOf x).toNat)
    case atStart => exact ⟨rfl, 0, rfl, rfl, by omega⟩
    case round =>
      obtain ⟨rfl, k, rfl, rfl, hk⟩ := hrel
      have hsx := HS.out
      have hzz := HZ.out
      by_cases hlt : k < z
      · have q1 : (k : Int) < s.streak := by omega
        have q2 : (k : Int) < P.streak := by omega
        have hm := HK.out (k + 1) (by omega)
        have hs1 := rwN_succ s.eff b k
        rw [← HBE.out] at hs1
        have C4 : IntKind.u64.wrap (((rwN s.eff b k : Nat) : Int) + (be : Int)) = ((rwN s.eff b (k + 1) : Nat) : Int) := by
          rw [show ((rwN s.eff b k : Nat) : Int) + (be : Int) = ((rwN s.eff b (k + 1) : Nat) : Int) by omega]
          exact Bits.wrapN _ (by omega)
        have HSS := Lib.hid hs1
        clear hsx hm hs1
        go_wp2_with fail
        exact ⟨⟨trivial, k + 1, by go_num, rfl, by omega⟩, by simp [intOf]; omega⟩
      · obtain rfl : k = z := by omega
        by_cases q1 : (k : Int) < s.streak
        · have q2 : ¬ (k : Int) < P.streak := by omega
          clear hsx
          go_wp2_with fail
          go_ret
          exact ⟨by rw [HV.out]; rfl, hB0⟩
        · clear hsx
          go_wp2_with fail
          go_ret
          exact ⟨by rw [HV.out]; rfl, hB0⟩
end Go.Proofs.Ytkfbnaafpikgfaa

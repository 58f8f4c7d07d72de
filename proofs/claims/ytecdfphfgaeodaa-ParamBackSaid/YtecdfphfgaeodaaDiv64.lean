/-
  What math/bits.Div64 answers, where the upper digit is below the divisor.
-/
import Derived.Test.YtecdfphfgaeodaaDiv
import Derived.Deep.DeepCutAuto
import Derived.Deep.CutBlock
namespace Go.Proofs.Ytecdfphfgaeodaa
open Go.RowKit
set_option linter.unusedVariables false

set_option maxHeartbeats 4000000 in
set_option maxRecDepth 100000 in
theorem div64_pos (hi lo y : Nat) (h0 : 0 < hi) (hlt : hi < y) (hl : lo < 18446744073709551616) (hy : y < 18446744073709551616) (w : World) :
    Calls Try.prog 97 #[.int .u64 hi, .int .u64 lo, .int .u64 y] w fun e w' => e = .returned (.tuple #[.int .u64 (((hi * 18446744073709551616 + lo) / y : Nat) : Int), .int .u64 (((hi * 18446744073709551616 + lo) % y : Nat) : Int)]) ∧ Below w.heap.size w w' := by
  obtain ⟨b1, b2⟩ := bitLen_bounds y (by omega) hy
  have b3 := Lib.bitLen_le y 64 (by omega) hy
  have b4 : 0 < Lib.bitLen y := by
    rcases Nat.eq_zero_or_pos (Lib.bitLen y) with h | h
    · rw [h] at b2; simp at b2; omega
    · exact h
  have HL := Lib.hid (fun W => lead_any y W (by omega) hy)
  obtain ⟨s, hs⟩ : ∃ s, s = 64 - Lib.bitLen y := ⟨_, rfl⟩
  rw [← hs] at HL
  have hs63 : s ≤ 63 := by omega
  have hpow : 2 ^ Lib.bitLen y * 2 ^ s = 18446744073709551616 := by
    rw [← Nat.pow_add, show Lib.bitLen y + s = 64 from by omega]
  have hY1 : 9223372036854775808 ≤ y * 2 ^ s := by
    have := Nat.mul_le_mul_right (2 ^ s) b1
    rw [hpow, Nat.mul_assoc] at this; omega
  have hY2 : y * 2 ^ s < 18446744073709551616 := by
    rw [← hpow]; exact Nat.mul_lt_mul_of_pos_right b2 (Nat.pow_pos (by omega))
  have hS0 : 0 < 2 ^ s := Nat.pow_pos (by omega)
  have hSp : 2 ^ s * 2 ^ (64 - s) = 18446744073709551616 := by rw [← Nat.pow_add, show s + (64 - s) = 64 from by omega]
  obtain ⟨S, hS⟩ : ∃ S, S = 2 ^ s := ⟨_, rfl⟩
  obtain ⟨R, hR⟩ : ∃ R, R = 2 ^ (64 - s) := ⟨_, rfl⟩
  obtain ⟨Y, hY⟩ : ∃ Y, Y = y * S := ⟨_, rfl⟩
  obtain ⟨G, hG⟩ : ∃ G, G = hi * S := ⟨_, rfl⟩
  obtain ⟨L, hLdef⟩ : ∃ L, L = lo / R := ⟨_, rfl⟩
  obtain ⟨V, hV⟩ : ∃ V, V = lo * S % 18446744073709551616 := ⟨_, rfl⟩
  rw [← hS] at hY1 hY2 hS0 hSp
  rw [← hR] at hSp
  rw [← hY] at hY1 hY2
  have hG2 : G < 18446744073709551616 := by
    rw [hG]; exact Nat.lt_of_le_of_lt (Nat.mul_le_mul_right S (Nat.le_of_lt hlt)) (by rw [← hY]; exact hY2)
  have hLS : L < S := by
    rw [hLdef, Nat.div_lt_iff_lt_mul (by rcases Nat.eq_zero_or_pos R with h | h; · rw [h] at hSp; omega
                                         · exact h), hSp]; exact hl
  have hVL : lo * S = L * 18446744073709551616 + V := by
    have h := Nat.div_add_mod (lo * S) 18446744073709551616
    have e : lo * S / 18446744073709551616 = L := by
      rw [hLdef, ← hSp, Nat.mul_comm lo S, Nat.mul_div_mul_left _ _ hS0]
    rw [e] at h; rw [hV]; omega
  have hV2 : V < 18446744073709551616 := by rw [hV]; exact Nat.mod_lt _ (by omega)
  have E1 : IntKind.u64.wrap ((y : Int) * 2 ^ s) = (Y : Int) := by
    rw [hY, hS, show ((y : Int) * 2 ^ s) = ((y * 2 ^ s : Nat) : Int) from by simp]
    exact Bits.wrapN _ (by rw [← hS, ← hY]; exact hY2)
  have E2 : IntKind.u64.wrap ((hi : Int) * 2 ^ s) = (G : Int) := by
    rw [hG, hS, show ((hi : Int) * 2 ^ s) = ((hi * 2 ^ s : Nat) : Int) from by simp]
    exact Bits.wrapN _ (by rw [← hS, ← hG]; exact hG2)
  have E3 : IntKind.u64.wrap ((lo : Int) * 2 ^ s) = (V : Int) := by
    rw [hV, hS, show ((lo : Int) * 2 ^ s) = ((lo * 2 ^ s : Nat) : Int) from by simp]
    exact Bits.wrapM _
  have E4 : (lo : Int) / 2 ^ (64 - s) = (L : Int) := by
    rw [hLdef, hR]; simp
  obtain ⟨U, hU⟩ : ∃ U, U = G + L := ⟨_, rfl⟩
  have hUY : U < Y := by
    have : (hi + 1) * S ≤ y * S := Nat.mul_le_mul_right S hlt
    rw [Nat.add_mul] at this; omega
  have E5 : bits .or .u64 (G : Int) (L : Int) = (U : Int) := by
    rw [bits_or_u64_nat G L hG2 (by omega)]
    have e := Nat.shiftLeft_add_eq_or_of_lt (i := s) (b := L) (by rw [← hS]; exact hLS) hi
    rw [Nat.shiftLeft_eq, ← hS, ← hG] at e
    rw [← e, hU]
  obtain ⟨Y1, hY1'⟩ : ∃ Y1, Y1 = Y / 4294967296 := ⟨_, rfl⟩
  obtain ⟨Y0, hY0'⟩ : ∃ Y0, Y0 = Y % 4294967296 := ⟨_, rfl⟩
  obtain ⟨V1, hV1'⟩ : ∃ V1, V1 = V / 4294967296 := ⟨_, rfl⟩
  obtain ⟨V0, hV0'⟩ : ∃ V0, V0 = V % 4294967296 := ⟨_, rfl⟩
  have E6 : bits .and .u64 (Y : Int) 4294967295 = (Y0 : Int) := by rw [Bits.maskN Y hY2, hY0']
  have E7 : (Y : Int) / 4294967296 = (Y1 : Int) := by omega
  have E8 : bits .and .u64 (V : Int) 4294967295 = (V0 : Int) := by rw [Bits.maskN V hV2, hV0']
  have E9 : (V : Int) / 4294967296 = (V1 : Int) := by omega
  have hYY : Y = Y1 * 4294967296 + Y0 := by omega
  have hVV : V = V1 * 4294967296 + V0 := by omega
  have k1 : Y0 < 4294967296 := by omega
  have k2 : V0 < 4294967296 := by omega
  have k3 : V1 < 4294967296 := by omega
  have k4 : 2147483648 ≤ Y1 := by omega
  have k5 : Y1 < 4294967296 := by omega
  clear b1 b2 b3 b4 hpow
  have HS := Lib.hid hs
  have HD := Lib.hid (And.intro hS (And.intro hR (And.intro hY (And.intro hG (And.intro hLdef hV)))))
  have HU := Lib.hid (And.intro hU (And.intro hVL (And.intro hYY hVV)))
  clear hs hS hR hY hG hLdef hV hU hVL hYY hVV hY1' hY0' hV1' hV0' hSp
  go_enter Try.func97, Try.ntmps97
  go_wp2_with fail
  refine (HL.out _).mono ?_
  rintro e w1 ⟨rfl, rfl⟩
  have hy0 : 0 < Y1 := by omega
  obtain ⟨q0, hq0⟩ : ∃ q0, q0 = U / Y1 := ⟨_, rfl⟩
  obtain ⟨p0, hp0⟩ : ∃ p0, p0 = q0 * Y1 := ⟨_, rfl⟩
  have hpU : p0 ≤ U := by rw [hp0, hq0]; exact Nat.div_mul_le_self U Y1
  have hrest : U - p0 = U % Y1 := by rw [hp0, hq0]; exact kn_rest hy0
  have hq0U : q0 ≤ U := by rw [hq0]; exact Nat.div_le_self _ _
  have hU64 : U < 18446744073709551616 := by omega
  have F1 : (U : Int) / (Y1 : Int) = (q0 : Int) := by rw [hq0]; simp
  have F2 : IntKind.u64.wrap ((q0 : Int) * (Y1 : Int)) = (p0 : Int) := by
    rw [← Int.natCast_mul, ← hp0]; exact Bits.wrapN _ (by omega)
  have HQ0 := Lib.hid (And.intro hq0 (And.intro hp0 hrest))
  clear hq0 hp0 hrest
  go_upto_block 0 with (fail)
  obtain ⟨Q, hQ⟩ : ∃ Q, Q = (U * 4294967296 + V1) / Y := ⟨_, rfl⟩
  have HQ := Lib.hid hQ
  clear hQ
  go_cut [15, 16] (fun a b w' => a = .int .u64 Q ∧ w1 = w')
  case first =>
    go_wp2_with fail
    go_loop [15, 16] (fun a b => ∃ q r : Nat, a = .int .u64 q ∧ b = .int .u64 r ∧ r < 4294967296 ∧ q ≤ 4294967297 ∧ Hid (q * Y1 + r = U ∧ Q ≤ q)) (fun a _ => (intOf a).toNat)
    case atStart =>
      obtain ⟨hq0, hp0, hrest⟩ := HQ0.out
      obtain ⟨hU, hVL, hYY, hVV⟩ := HU.out
      refine ⟨q0, U - p0, rfl, congrArg (Value.int IntKind.u64) (by omega), ?_, ?_, Lib.hid ⟨by omega, ?_⟩⟩
      · rw [hrest]; exact Nat.lt_of_lt_of_le (Nat.mod_lt _ hy0) (by omega)
      · rw [hq0]; exact kn_high (by rw [← hYY]; exact hUY) (by omega) k1 hy0
      · rw [HQ.out, hYY, hq0]; exact kn_start hy0 k3
    case round =>
      obtain ⟨q, r, rfl, rfl, hr, hq, hR⟩ := hrel
      obtain ⟨t, ht⟩ : ∃ t, t = q * Y0 := ⟨_, rfl⟩
      have htl : t ≤ 18446744073709551615 := by
        rw [ht]
        have a1 : q * Y0 ≤ 4294967297 * 4294967295 := Nat.mul_le_mul hq (by omega)
        omega
      have F3 : IntKind.u64.wrap ((q : Int) * (Y0 : Int)) = (t : Int) := by
        rw [← Int.natCast_mul, ← ht]; exact Bits.wrapN _ (by omega)
      have HT := Lib.hid ht
      have HTL := Lib.hid htl
      clear ht htl F1 F2 E1 E2 E3 E4 E5 E6 E7 E8 E9 hY1 hY2 hG2 hV2 hU64 hl hy
      by_cases c1 : 4294967296 ≤ q ∨ r * 4294967296 + V1 < t
      · have hlt : Q < q := by
          obtain ⟨hU, hVL, hYY, hVV⟩ := HU.out
          rcases c1 with c1 | c1
          · exact Nat.lt_of_lt_of_le (by rw [HQ.out]; exact kn_lt hUY k3) c1
          · rw [HQ.out, hYY]; exact kn_more hR.out.1 (by rw [← HT.out]; exact c1)
        by_cases c3 : 4294967296 ≤ r + Y1
        · have i3 : (4294967296 : Int) ≤ (r : Int) + (Y1 : Int) := by omega
          have hfin : Hid (q - 1 = Q) := Lib.hid (by
            obtain ⟨hU, hVL, hYY, hVV⟩ := HU.out
            exact kn_break (B := 4294967296) (by omega) hR.out.1 (by omega) hq k1 hy0 (by rw [HQ.out, hYY]) hlt c3)
          have hq1 : 1 ≤ q := by omega
          have C1 := Lib.hid c1
          have c4 : ¬ (4294967296 : Int) ≤ (q : Int) → (4294967296 : Int) * (r : Int) + (V1 : Int) < (t : Int) := by omega
          by_cases c2 : (4294967296 : Int) ≤ (q : Int)
          all_goals
            first | (have c5 := c4 c2; clear c4) | clear c4
            clear c1 hlt
            go_wp2_with fail
            go_meet
            case rel => exact ⟨congrArg (Value.int IntKind.u64) (by have := hfin.out; omega), rfl⟩
        · have i3 : ¬ (4294967296 : Int) ≤ (r : Int) + (Y1 : Int) := by omega
          have hq1 : 1 ≤ q := by omega
          have C1 := Lib.hid c1
          have HLT := Lib.hid hlt
          have c4 : ¬ (4294967296 : Int) ≤ (q : Int) → (4294967296 : Int) * (r : Int) + (V1 : Int) < (t : Int) := by omega
          by_cases c2 : (4294967296 : Int) ≤ (q : Int)
          all_goals
            first | (have c5 := c4 c2; clear c4) | clear c4
            clear c1 hlt
            go_wp2_with fail
            go_round
            case rel => exact ⟨q - 1, r + Y1, congrArg (Value.int IntKind.u64) (by omega), congrArg (Value.int IntKind.u64) (by omega), by omega, by omega, Lib.hid ⟨kn_step hR.out.1 (by omega), by have := HLT.out; omega⟩⟩
            case measure => simp [intOf]; omega
      · have hfin : Hid (q = Q) := Lib.hid (by
          obtain ⟨hU, hVL, hYY, hVV⟩ := HU.out
          have h1 := kn_less (B := 4294967296) (y0 := Y0) (u := V1) hR.out.1 (by omega) (by rw [← HT.out]; omega)
          rw [← hYY, ← HQ.out] at h1
          have := hR.out.2
          omega)
        have c2 : ¬ (4294967296 : Int) ≤ (q : Int) := by omega
        have c5 : ¬ (4294967296 : Int) * (r : Int) + (V1 : Int) < (t : Int) := by omega
        clear c1
        go_wp2_with fail
        go_meet
        case rel => exact ⟨congrArg (Value.int IntKind.u64) (by have := hfin.out; omega), rfl⟩
  case rest =>
    obtain ⟨rfl, rfl⟩ := hcut
    have hQ32 : Q < 4294967296 := by rw [HQ.out]; exact kn_lt hUY k3
    obtain ⟨D, hD⟩ : ∃ D, D = (U * 4294967296 + V1) % Y := ⟨_, rfl⟩
    have hY0 : 0 < Y := by omega
    have hDY : D < Y := by rw [hD]; exact Nat.mod_lt _ hY0
    obtain ⟨p1, hp1⟩ : ∃ p1, p1 = Q * Y := ⟨_, rfl⟩
    have hDp : D + p1 = U * 4294967296 + V1 := by
      rw [hD, hp1, HQ.out, Nat.mul_comm _ Y, Nat.add_comm]
      exact Nat.div_add_mod _ _
    have F4 : IntKind.u64.wrap ((U : Int) * 4294967296) = ((U * 4294967296 % 18446744073709551616 : Nat) : Int) := by
      rw [IntKind.wrap_u64]; omega
    obtain ⟨a1, ha1⟩ : ∃ a1, a1 = U * 4294967296 % 18446744073709551616 := ⟨_, rfl⟩
    rw [← ha1] at F4
    obtain ⟨a2, ha2⟩ : ∃ a2, a2 = (a1 + V1) % 18446744073709551616 := ⟨_, rfl⟩
    have F5 : IntKind.u64.wrap ((a1 : Int) + (V1 : Int)) = (a2 : Int) := by
      rw [IntKind.wrap_u64]; omega
    obtain ⟨a3, ha3⟩ : ∃ a3, a3 = p1 % 18446744073709551616 := ⟨_, rfl⟩
    have F6 : IntKind.u64.wrap ((Q : Int) * (Y : Int)) = (a3 : Int) := by
      rw [← Int.natCast_mul, ← hp1, IntKind.wrap_u64]; omega
    have F7 : IntKind.u64.wrap ((a2 : Int) - (a3 : Int)) = (D : Int) := by
      rw [IntKind.wrap_u64]; omega
    obtain ⟨q2, hq2⟩ : ∃ q2, q2 = D / Y1 := ⟨_, rfl⟩
    obtain ⟨p2, hp2⟩ : ∃ p2, p2 = q2 * Y1 := ⟨_, rfl⟩
    have hpD : p2 ≤ D := by rw [hp2, hq2]; exact Nat.div_mul_le_self D Y1
    have hrest : D - p2 = D % Y1 := by rw [hp2, hq2]; exact kn_rest hy0
    have hq2D : q2 ≤ D := by rw [hq2]; exact Nat.div_le_self _ _
    have hD64 : D < 18446744073709551616 := by omega
    have F8 : (D : Int) / (Y1 : Int) = (q2 : Int) := by rw [hq2]; simp
    have F9 : IntKind.u64.wrap ((q2 : Int) * (Y1 : Int)) = (p2 : Int) := by
      rw [← Int.natCast_mul, ← hp2]; exact Bits.wrapN _ (by omega)
    obtain ⟨Q2, hQ2⟩ : ∃ Q2, Q2 = (D * 4294967296 + V0) / Y := ⟨_, rfl⟩
    obtain ⟨D2, hD2⟩ : ∃ D2, D2 = (D * 4294967296 + V0) % Y := ⟨_, rfl⟩
    obtain ⟨p3, hp3⟩ : ∃ p3, p3 = Q2 * Y := ⟨_, rfl⟩
    have hQ232 : Q2 < 4294967296 := by rw [hQ2]; exact kn_lt hDY k2
    have hD2Y : D2 < Y := by rw [hD2]; exact Nat.mod_lt _ hY0
    have hDp3 : D2 + p3 = D * 4294967296 + V0 := by
      rw [hD2, hp3, hQ2, Nat.mul_comm _ Y, Nat.add_comm]
      exact Nat.div_add_mod _ _
    obtain ⟨a4, ha4⟩ : ∃ a4, a4 = D * 4294967296 % 18446744073709551616 := ⟨_, rfl⟩
    have G4 : IntKind.u64.wrap ((D : Int) * 4294967296) = (a4 : Int) := by
      rw [IntKind.wrap_u64]; omega
    obtain ⟨a5, ha5⟩ : ∃ a5, a5 = (a4 + V0) % 18446744073709551616 := ⟨_, rfl⟩
    have G5 : IntKind.u64.wrap ((a4 : Int) + (V0 : Int)) = (a5 : Int) := by
      rw [IntKind.wrap_u64]; omega
    obtain ⟨a6, ha6⟩ : ∃ a6, a6 = p3 % 18446744073709551616 := ⟨_, rfl⟩
    have G6 : IntKind.u64.wrap ((Q2 : Int) * (Y : Int)) = (a6 : Int) := by
      rw [← Int.natCast_mul, ← hp3, IntKind.wrap_u64]; omega
    have G7 : IntKind.u64.wrap ((a5 : Int) - (a6 : Int)) = (D2 : Int) := by
      rw [IntKind.wrap_u64]; omega
    have E10 : (D2 : Int) / 2 ^ s = ((D2 / S : Nat) : Int) := by
      rw [HD.out.1]; simp
    have G8 : IntKind.u64.wrap ((Q : Int) * 4294967296) = (Q : Int) * 4294967296 := by
      rw [IntKind.wrap_u64]; omega
    have G9 : IntKind.u64.wrap ((Q : Int) * 4294967296 + (Q2 : Int)) = ((Q * 4294967296 + Q2 : Nat) : Int) := by
      rw [IntKind.wrap_u64]; omega
    have hfinal : Q * 4294967296 + Q2 = (hi * 18446744073709551616 + lo) / y ∧ D2 / S = (hi * 18446744073709551616 + lo) % y := by
      obtain ⟨h1, h2⟩ := kn_two (H := U) (u1 := V1) (u0 := V0) (B := 4294967296) hY0
      obtain ⟨h3, h4⟩ := kn_shift (N := hi * 18446744073709551616 + lo) (y := y) hS0
      obtain ⟨hU, hVL, hYY, hVV⟩ := HU.out
      obtain ⟨_, _, hYS, hGS, _, _⟩ := HD.out
      have hN : (hi * 18446744073709551616 + lo) * S = (U * 4294967296 + V1) * 4294967296 + V0 := by
        have e1 : hi * 18446744073709551616 * S = G * 18446744073709551616 := by rw [hGS, Nat.mul_right_comm]
        rw [Nat.add_mul, e1, hVL]
        omega
      rw [hN, ← hYS] at h3 h4
      constructor
      · rw [← h3, h1, ← HQ.out, ← hD, ← hQ2]
      · rw [← h4, h2, ← hD, ← hD2]
    have HQ2 := Lib.hid (And.intro hq2 (And.intro hp2 hrest))
    have HQ3 := Lib.hid hQ2
    have HF := Lib.hid hfinal
    have HW := Lib.hid (And.intro G4 (And.intro G5 (And.intro G6 (And.intro G7 (And.intro G8 (And.intro G9 E10))))))
    clear hfinal hq2 hp2 hrest hQ2 hD hp1 hDp ha1 ha2 ha3 hD2 hp3 hDp3 ha4 ha5 ha6 G4 G5 G6 G7 G8 G9 E10 E1 E2 E3 E4 E5 E6 E7 E8 E9 F1 F2
    go_upto_block 2 with (fail)
    clear F4 F5 F6 F7
    go_cut [18, 16] (fun a b w' => a = .int .u64 Q2 ∧ w1 = w')
    case first =>
      go_wp2_with fail
      go_loop [18, 16] (fun a b => ∃ q r : Nat, a = .int .u64 q ∧ b = .int .u64 r ∧ r < 4294967296 ∧ q ≤ 4294967297 ∧ Hid (q * Y1 + r = D ∧ Q2 ≤ q)) (fun a _ => (intOf a).toNat)
      case atStart =>
        obtain ⟨hq2, hp2, hrest⟩ := HQ2.out
        obtain ⟨hU, hVL, hYY, hVV⟩ := HU.out
        refine ⟨q2, D - p2, rfl, congrArg (Value.int IntKind.u64) (by omega), ?_, ?_, Lib.hid ⟨by omega, ?_⟩⟩
        · rw [hrest]; exact Nat.lt_of_lt_of_le (Nat.mod_lt _ hy0) (by omega)
        · rw [hq2]; exact kn_high (by rw [← hYY]; exact hDY) (by omega) k1 hy0
        · rw [HQ3.out, hYY, hq2]; exact kn_start hy0 k2
      case round =>
        obtain ⟨q, r, rfl, rfl, hr, hq, hR⟩ := hrel
        obtain ⟨t, ht⟩ : ∃ t, t = q * Y0 := ⟨_, rfl⟩
        have htl : t ≤ 18446744073709551615 := by
          rw [ht]
          have a1 : q * Y0 ≤ 4294967297 * 4294967295 := Nat.mul_le_mul hq (by omega)
          omega
        have F3 : IntKind.u64.wrap ((q : Int) * (Y0 : Int)) = (t : Int) := by
          rw [← Int.natCast_mul, ← ht]; exact Bits.wrapN _ (by omega)
        have HT := Lib.hid ht
        have HTL := Lib.hid htl
        clear ht htl F8 F9 hD64
        by_cases c1 : 4294967296 ≤ q ∨ r * 4294967296 + V0 < t
        · have hlt : Q2 < q := by
            obtain ⟨hU, hVL, hYY, hVV⟩ := HU.out
            rcases c1 with c1 | c1
            · exact Nat.lt_of_lt_of_le (by rw [HQ3.out]; exact kn_lt hDY k2) c1
            · rw [HQ3.out, hYY]; exact kn_more hR.out.1 (by rw [← HT.out]; exact c1)
          by_cases c3 : 4294967296 ≤ r + Y1
          · have i3 : (4294967296 : Int) ≤ (r : Int) + (Y1 : Int) := by omega
            have hfin : Hid (q - 1 = Q2) := Lib.hid (by
              obtain ⟨hU, hVL, hYY, hVV⟩ := HU.out
              exact kn_break (B := 4294967296) (by omega) hR.out.1 (by omega) hq k1 hy0 (by rw [HQ3.out, hYY]) hlt c3)
            have hq1 : 1 ≤ q := by omega
            have C1 := Lib.hid c1
            have c4 : ¬ (4294967296 : Int) ≤ (q : Int) → (4294967296 : Int) * (r : Int) + (V0 : Int) < (t : Int) := by omega
            by_cases c2 : (4294967296 : Int) ≤ (q : Int)
            all_goals
              first | (have c5 := c4 c2; clear c4) | clear c4
              clear c1 hlt
              go_wp2_with fail
              go_meet
              case rel => exact ⟨congrArg (Value.int IntKind.u64) (by have := hfin.out; omega), rfl⟩
          · have i3 : ¬ (4294967296 : Int) ≤ (r : Int) + (Y1 : Int) := by omega
            have hq1 : 1 ≤ q := by omega
            have C1 := Lib.hid c1
            have HLT := Lib.hid hlt
            have c4 : ¬ (4294967296 : Int) ≤ (q : Int) → (4294967296 : Int) * (r : Int) + (V0 : Int) < (t : Int) := by omega
            by_cases c2 : (4294967296 : Int) ≤ (q : Int)
            all_goals
              first | (have c5 := c4 c2; clear c4) | clear c4
              clear c1 hlt
              go_wp2_with fail
              go_round
              case rel => exact ⟨q - 1, r + Y1, congrArg (Value.int IntKind.u64) (by omega), congrArg (Value.int IntKind.u64) (by omega), by omega, by omega, Lib.hid ⟨kn_step hR.out.1 (by omega), by have := HLT.out; omega⟩⟩
              case measure => simp [intOf]; omega
        · have hfin : Hid (q = Q2) := Lib.hid (by
            obtain ⟨hU, hVL, hYY, hVV⟩ := HU.out
            have h1 := kn_less (B := 4294967296) (y0 := Y0) (u := V0) hR.out.1 (by omega) (by rw [← HT.out]; omega)
            rw [← hYY, ← HQ3.out] at h1
            have := hR.out.2
            omega)
          have c2 : ¬ (4294967296 : Int) ≤ (q : Int) := by omega
          have c5 : ¬ (4294967296 : Int) * (r : Int) + (V0 : Int) < (t : Int) := by omega
          clear c1
          go_wp2_with fail
          go_meet
          case rel => exact ⟨congrArg (Value.int IntKind.u64) (by have := hfin.out; omega), rfl⟩
    case rest =>
      obtain ⟨rfl, rfl⟩ := hcut
      obtain ⟨G4, G5, G6, G7, G8, G9, E10⟩ := HW.out
      go_wp2_with fail
      go_ret2
      exact ⟨ret_ii (by have := HF.out.1; omega) (by have := HF.out.2; omega), Below.refl _ _⟩
end Go.Proofs.Ytecdfphfgaeodaa

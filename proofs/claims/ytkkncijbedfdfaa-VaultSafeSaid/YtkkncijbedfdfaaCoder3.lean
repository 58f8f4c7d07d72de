/-
  What package coder's reader does.
-/
import Derived.Test.YtkkncijbedfdfaaCoder2
import Derived.Laws.ShiftsVar
namespace Go.Proofs.Ytkkncijbedfdfaa
open Go.RowKit
set_option linter.unusedVariables false

theorem drop_cons {xs : List Nat} {i : Nat} (h : i < xs.length) : xs.drop i = xs.getD i 0 :: xs.drop (i + 1) := by
  rw [List.drop_eq_getElem_cons h, List.getD_eq_getElem?_getD, List.getElem?_eq_getElem h]; rfl
def nextV (xs : List Nat) (at_ : Nat) : Nat := if (scanL (xs.drop at_) 0 0).2.2 = 0 then at_ + (scanL (xs.drop at_) 0 0).2.1 else 0
/-- What scan answers. -/
def ScanPost (w : World) (xs : List Nat) (at_ : Nat) (e : Ending) (w' : World) : Prop := e = .returned (.tuple #[.int .u64 (((scanL (xs.drop at_) 0 0).1 : Nat) : Int), .int .i64 ((nextV xs at_ : Nat) : Int), .int .i64 (scanL (xs.drop at_) 0 0).2.2]) ∧ w = w'
theorem scanPost_of {w : World} {xs : List Nat} {at_ n k : Nat} {er : Int} {e : Ending} (h : scanL (xs.drop at_) 0 0 = (n, k, er)) (nx : Nat) (hn : nx = if er = 0 then at_ + k else 0) (he : e = .returned (.tuple #[.int .u64 ((n : Nat) : Int), .int .i64 ((nx : Nat) : Int), .int .i64 er])) : ScanPost w xs at_ e w := by
  subst hn he
  unfold ScanPost nextV
  rw [h]
  exact ⟨rfl, rfl⟩
set_option maxRecDepth 100000 in
set_option maxHeartbeats 2000000 in
theorem scan_any (g : Nat) (A : Option Addr) (n c : Nat) (xs : List Nat) (at_ : Nat) (hn : xs.length = n) (hm : n ≤ 9223372036854775000) (hx : bytesOk xs) (hat : at_ ≤ n) (w : World) (hB : Bys w A xs) (c0 : w.cell? ⟨g, 0, none⟩ = some (.slice A n c)) :
    Calls Try.prog 56 #[.pointer (some ⟨g, 0, none⟩), .int .i64 at_] w (ScanPost w xs at_) := by
  have HN := Lib.hid hn
  have HX := Lib.hid hx
  have HB := Lib.hid hB
  clear hn hx hB
  go_enter Try.func56, Try.ntmps56
  go_wp2_with fail
  go_loop [4, 7] (fun v i => ∃ k acc : Nat, i = .int .i64 k ∧ v = .int .u64 acc ∧ k ≤ 9 ∧ Hid (acc < 128 ^ k) ∧ acc < 18446744073709551616 ∧ at_ + k ≤ n ∧ Hid (scanL (xs.drop at_) 0 0 = scanL (xs.drop (at_ + k)) k acc)) (fun _ i => n - (intOf i).toNat)
  case atStart => exact ⟨0, 0, rfl, rfl, by omega, Lib.hid (by omega), by omega, by omega, Lib.hid rfl⟩
  case round =>
    obtain ⟨k, acc, rfl, rfl, hk, ha, hac, hle, hS⟩ := hrel
    by_cases hlt : at_ + k < n
    · obtain ⟨b0, off, rfl, hb0, hcell⟩ := HB.out (by rw [HN.out]; omega)
      have hc := hcell (at_ + k) (by rw [HN.out]; exact hlt)
      have hbx := HX.out (at_ + k)
      have hd := drop_cons (xs := xs) (i := at_ + k) (by rw [HN.out]; exact hlt)
      have hS2 := hS.out
      rw [hd] at hS2
      generalize xs.getD (at_ + k) 0 = b at *
      have HS := Lib.hid hS2
      have z1 : (at_ : Int) + (k : Int) < (n : Int) := by omega
      have z2 : (0 : Int) ≤ (at_ : Int) + (k : Int) := by omega
      have z3 : ((at_ : Int) + (k : Int)).toNat = at_ + k := by omega
      clear hcell hd hS2 hS HX HB
      by_cases hbad : (k = 9 ∧ 1 < b) ∨ (b = 0 ∧ 0 < k)
      · have HR := Lib.hid (HS.out.trans (scanL_bad hbad))
        have z4 : (at_ : Int) + 9 < (n : Int) ∨ True := .inr trivial
        clear HS ha
        rcases hbad with ⟨rfl, hb1⟩ | ⟨rfl, hk0⟩
        · have y1 : (1 : Int) < (b : Int) := by omega
          clear hb1
          go_wp2_with fail
          go_ret3
          exact scanPost_of HR.out 0 rfl rfl
        · by_cases h9 : k = 9
          · subst h9
            go_wp2_with fail
            go_ret3
            exact scanPost_of HR.out 0 rfl rfl
          · have k1 : ((k : Int) == 9) = false := beq_eq_false_iff_ne.2 (by omega)
            have k2 : (0 : Int) < (k : Int) := by omega
            clear h9 hk0
            go_wp2_with fail
            go_ret3
            exact scanPost_of HR.out 0 rfl rfl
      · have hp := pow128_bound hk ha.out (b := b) (fun h => hbad (.inl h))
        have A1 := Cd.and127_u8 b hbx
        have O1 := Cd.or_u64 acc (b % 128) k ha.out hp.2
        have S1 : IntKind.u64.wrap (((b % 128 : Nat) : Int) * 2 ^ (7 * k)) = ((b % 128 * 128 ^ k : Nat) : Int) := by
          have e7 : (128 : Nat) ^ k = 2 ^ (7 * k) := by rw [Nat.pow_mul]
          rw [e7, show (((b % 128 : Nat) : Int) * 2 ^ (7 * k)) = ((b % 128 * 2 ^ (7 * k) : Nat) : Int) by rw [Int.natCast_mul, Int.natCast_pow]; rfl, IntKind.wrap_u64]
          have := hp.2
          rw [e7] at this
          omega
        by_cases h9 : k = 9
        · subst h9
          obtain rfl : b = 1 := by omega
          have HR := Lib.hid (HS.out.trans (scanL_end hbad (by omega)))
          have HP := Lib.hid hp.2
          have e9 : (1 % 128 * 128 ^ 9 : Nat) = 9223372036854775808 := by decide
          rw [e9] at *
          have A9 : bits .and .u8 1 127 = 1 := Cd.and127_u8 1 (by omega)
          have O9 : bits .or .u64 (acc : Int) 9223372036854775808 = ((acc + 9223372036854775808 : Nat) : Int) := O1
          have W9 : IntKind.u64.wrap 1 = 1 := by decide
          have S9 : IntKind.u64.wrap 9223372036854775808 = 9223372036854775808 := by decide
          clear hp HS hbad A1 S1 e9 O1
          go_wp2_with fail
          go_ret3
          exact scanPost_of HR.out (at_ + 10) rfl rfl
        · have k1 : ((k : Int) == 9) = false := beq_eq_false_iff_ne.2 (by omega)
          by_cases hb0 : b = 0
          · subst hb0
            obtain rfl : k = 0 := by omega
            have hac0 := ha.out
            obtain rfl : acc = 0 := by omega
            have HR := Lib.hid (HS.out.trans (scanL_end hbad (by omega)))
            have A9 : bits .and .u8 0 127 = 0 := Cd.and127_u8 0 (by omega)
            have O9 : bits .or .u64 0 0 = 0 := bits_or_u64_nat 0 0 (by omega) (by omega)
            have hc' : w.cell? ⟨b0, off + at_, none⟩ = some (.int .u8 0) := hc
            have z1' : (at_ : Int) < (n : Int) := by omega
            clear hp HS hbad A1 S1 O1 k1 h9 hac0 ha hc z1 z2 z3
            go_wp2_with fail
            go_ret3
            exact scanPost_of HR.out (at_ + 1) rfl rfl
          · have k2 : ((b : Int) == 0) = false := beq_eq_false_iff_ne.2 (by omega)
            by_cases hb8 : b < 128
            · have HR := Lib.hid (HS.out.trans (scanL_end hbad hb8))
              have z4 : (b : Int) < 128 := by omega
              have hp2 := hp.2
              have hz : b % 128 < 128 := by omega
              generalize b % 128 = z at *
              generalize z * 128 ^ k = q at *
              clear hp hbad hb0 hb8 h9 HS
              go_wp2_with fail
              go_ret3
              exact scanPost_of HR.out (at_ + (k + 1)) rfl (by first | rfl | (simp; omega))
            · have HR := Lib.hid (HS.out.trans (scanL_more hbad hb8))
              have z4 : ¬ (b : Int) < 128 := by omega
              have HP := Lib.hid hp.1
              have hp2 := hp.2
              have hk9 : k + 1 ≤ 9 := by omega
              have hz : b % 128 < 128 := by omega
              generalize b % 128 = z at *
              generalize z * 128 ^ k = q at *
              clear hp hbad hb0 hb8 h9 HS
              go_wp2_with fail
              exact ⟨⟨k + 1, acc + q, by go_num, by first | rfl | go_num, hk9, Lib.hid HP.out, hp2, by omega, Lib.hid (by rw [HR.out, Nat.add_assoc])⟩, by simp [intOf]; omega⟩
    · have HR := Lib.hid (hS.out.trans (by rw [List.drop_eq_nil_of_le (by rw [HN.out]; omega), scanL_nil]))
      have z1 : ¬ (at_ : Int) + (k : Int) < (n : Int) := by omega
      go_wp2_with fail
      go_ret3
      exact scanPost_of HR.out 0 rfl rfl
end Go.Proofs.Ytkkncijbedfdfaa

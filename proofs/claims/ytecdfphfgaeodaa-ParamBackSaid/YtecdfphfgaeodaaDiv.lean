/-
  What math/bits.Len64, LeadingZeros64 and Div64 answer.
-/
import Derived.Test.YtecdfphfgaeodaaBits
import Derived.Test.YtecdfphfgaeodaaMem
import Derived.Test.YtecdfphfgaeodaaKn
import Derived.Lib.Strings
import Derived.Lib.Slices
import Derived.Lib.Small
import Derived.Lib.Walk
import Derived.Lib.BitFns
namespace Go.Proofs.Ytecdfphfgaeodaa
open Go.RowKit
set_option linter.unusedVariables false

theorem bitLen_bounds : ∀ (x : Nat), 0 < x → x < 2 ^ 64 → 2 ^ Lib.bitLen x ≤ 2 * x ∧ x < 2 ^ Lib.bitLen x := by
  intro x
  induction x using Nat.strongRecOn with
  | ind x ih =>
    intro h0 h
    rw [Lib.bitLen_half x (by omega) h, Nat.add_comm, Nat.pow_succ]
    by_cases h1 : x = 1
    · subst h1; decide
    · have := ih (x / 2) (by omega) (by omega) (by omega)
      omega
theorem tab_val (z : Int) (h : z.toNat < Lib.len8tab.size) (h0 : 0 ≤ z) (h1 : z ≤ 255) : ((Lib.len8tab[z.toNat].toNat : Nat) : Int) = (Lib.bitLen z.toNat : Int) := by
  rw [← Lib.len8_of z h0 h1]
  unfold Lib.len8
  rw [getElem?_pos Lib.len8tab z.toNat h]
  rfl
set_option maxHeartbeats 1000000 in
set_option maxRecDepth 100000 in
theorem len64_0 (x : Int) (w : World) (h0 : 0 ≤ x) (h1 : x ≤ 18446744073709551615) (hc : x < 256) :
    Calls Try.prog 101 #[.int .u64 x] w fun e w' => e = .returned (.int .i64 (Lib.bitLen x.toNat)) ∧ w' = w := by
  have hsz : Lib.len8tab.size = 256 := Lib.len8tab_size
  go_enter Try.func101, Try.ntmps101
  go_wp2
  go_ret
  refine ⟨ret_int ?_, rfl⟩
  rw [tab_val (x) _ (by omega) (by omega)]
  have l := Lib.bitLen_le8' (x) (by omega) (by omega)
  generalize Lib.bitLen x.toNat = q at *
  unfold wrap64
  omega
set_option maxHeartbeats 1000000 in
set_option maxRecDepth 100000 in
theorem len64_1 (x : Int) (w : World) (h0 : 0 ≤ x) (h1 : x ≤ 18446744073709551615) (hc : 256 ≤ x ∧ x < 65536) :
    Calls Try.prog 101 #[.int .u64 x] w fun e w' => e = .returned (.int .i64 (Lib.bitLen x.toNat)) ∧ w' = w := by
  have hsz : Lib.len8tab.size = 256 := Lib.len8tab_size
  obtain ⟨hc1, hc2⟩ := hc
  go_enter Try.func101, Try.ntmps101
  go_wp2
  go_ret
  refine ⟨ret_int ?_, rfl⟩
  rw [tab_val (x / 256) _ (by omega) (by omega)]
  have l := Lib.bitLen_le8' (x / 256) (by omega) (by omega)
  have e : (x / 256).toNat = x.toNat / 256 := by omega
  have s := Lib.bitLen_shift8 x.toNat (by omega) (by omega)
  rw [e] at l ⊢
  rw [s]
  generalize Lib.bitLen (x.toNat / 256) = q at *
  clear s e
  unfold wrap64
  omega
set_option maxHeartbeats 1000000 in
set_option maxRecDepth 100000 in
theorem len64_2 (x : Int) (w : World) (h0 : 0 ≤ x) (h1 : x ≤ 18446744073709551615) (hc : 65536 ≤ x ∧ x < 16777216) :
    Calls Try.prog 101 #[.int .u64 x] w fun e w' => e = .returned (.int .i64 (Lib.bitLen x.toNat)) ∧ w' = w := by
  have hsz : Lib.len8tab.size = 256 := Lib.len8tab_size
  obtain ⟨hc1, hc2⟩ := hc
  go_enter Try.func101, Try.ntmps101
  go_wp2
  go_ret
  refine ⟨ret_int ?_, rfl⟩
  rw [tab_val (x / 65536) _ (by omega) (by omega)]
  have l := Lib.bitLen_le8' (x / 65536) (by omega) (by omega)
  have e : (x / 65536).toNat = x.toNat / 65536 := by omega
  have s := Lib.bitLen_shift16 x.toNat (by omega) (by omega)
  rw [e] at l ⊢
  rw [s]
  generalize Lib.bitLen (x.toNat / 65536) = q at *
  clear s e
  unfold wrap64
  omega
set_option maxHeartbeats 1000000 in
set_option maxRecDepth 100000 in
theorem len64_3 (x : Int) (w : World) (h0 : 0 ≤ x) (h1 : x ≤ 18446744073709551615) (hc : 16777216 ≤ x ∧ x < 4294967296) :
    Calls Try.prog 101 #[.int .u64 x] w fun e w' => e = .returned (.int .i64 (Lib.bitLen x.toNat)) ∧ w' = w := by
  have hsz : Lib.len8tab.size = 256 := Lib.len8tab_size
  obtain ⟨hc1, hc2⟩ := hc
  go_enter Try.func101, Try.ntmps101
  go_wp2
  go_ret
  refine ⟨ret_int ?_, rfl⟩
  rw [tab_val (x / 65536 / 256) _ (by omega) (by omega)]
  have l := Lib.bitLen_le8' (x / 65536 / 256) (by omega) (by omega)
  have e : (x / 65536 / 256).toNat = x.toNat / 16777216 := by omega
  have s := Lib.bitLen_shift24 x.toNat (by omega) (by omega)
  rw [e] at l ⊢
  rw [s]
  generalize Lib.bitLen (x.toNat / 16777216) = q at *
  clear s e
  unfold wrap64
  omega
set_option maxHeartbeats 1000000 in
set_option maxRecDepth 100000 in
theorem len64_4 (x : Int) (w : World) (h0 : 0 ≤ x) (h1 : x ≤ 18446744073709551615) (hc : 4294967296 ≤ x ∧ x < 1099511627776) :
    Calls Try.prog 101 #[.int .u64 x] w fun e w' => e = .returned (.int .i64 (Lib.bitLen x.toNat)) ∧ w' = w := by
  have hsz : Lib.len8tab.size = 256 := Lib.len8tab_size
  obtain ⟨hc1, hc2⟩ := hc
  go_enter Try.func101, Try.ntmps101
  go_wp2
  go_ret
  refine ⟨ret_int ?_, rfl⟩
  rw [tab_val (x / 4294967296) _ (by omega) (by omega)]
  have l := Lib.bitLen_le8' (x / 4294967296) (by omega) (by omega)
  have e : (x / 4294967296).toNat = x.toNat / 4294967296 := by omega
  have s := Lib.bitLen_shift32 x.toNat (by omega) (by omega)
  rw [e] at l ⊢
  rw [s]
  generalize Lib.bitLen (x.toNat / 4294967296) = q at *
  clear s e
  unfold wrap64
  omega
set_option maxHeartbeats 1000000 in
set_option maxRecDepth 100000 in
theorem len64_5 (x : Int) (w : World) (h0 : 0 ≤ x) (h1 : x ≤ 18446744073709551615) (hc : 1099511627776 ≤ x ∧ x < 281474976710656) :
    Calls Try.prog 101 #[.int .u64 x] w fun e w' => e = .returned (.int .i64 (Lib.bitLen x.toNat)) ∧ w' = w := by
  have hsz : Lib.len8tab.size = 256 := Lib.len8tab_size
  obtain ⟨hc1, hc2⟩ := hc
  go_enter Try.func101, Try.ntmps101
  go_wp2
  go_ret
  refine ⟨ret_int ?_, rfl⟩
  rw [tab_val (x / 4294967296 / 256) _ (by omega) (by omega)]
  have l := Lib.bitLen_le8' (x / 4294967296 / 256) (by omega) (by omega)
  have e : (x / 4294967296 / 256).toNat = x.toNat / 1099511627776 := by omega
  have s := Lib.bitLen_shift40 x.toNat (by omega) (by omega)
  rw [e] at l ⊢
  rw [s]
  generalize Lib.bitLen (x.toNat / 1099511627776) = q at *
  clear s e
  unfold wrap64
  omega
set_option maxHeartbeats 1000000 in
set_option maxRecDepth 100000 in
theorem len64_6 (x : Int) (w : World) (h0 : 0 ≤ x) (h1 : x ≤ 18446744073709551615) (hc : 281474976710656 ≤ x ∧ x < 72057594037927936) :
    Calls Try.prog 101 #[.int .u64 x] w fun e w' => e = .returned (.int .i64 (Lib.bitLen x.toNat)) ∧ w' = w := by
  have hsz : Lib.len8tab.size = 256 := Lib.len8tab_size
  obtain ⟨hc1, hc2⟩ := hc
  go_enter Try.func101, Try.ntmps101
  go_wp2
  go_ret
  refine ⟨ret_int ?_, rfl⟩
  rw [tab_val (x / 4294967296 / 65536) _ (by omega) (by omega)]
  have l := Lib.bitLen_le8' (x / 4294967296 / 65536) (by omega) (by omega)
  have e : (x / 4294967296 / 65536).toNat = x.toNat / 281474976710656 := by omega
  have s := Lib.bitLen_shift48 x.toNat (by omega) (by omega)
  rw [e] at l ⊢
  rw [s]
  generalize Lib.bitLen (x.toNat / 281474976710656) = q at *
  clear s e
  unfold wrap64
  omega
set_option maxHeartbeats 1000000 in
set_option maxRecDepth 100000 in
theorem len64_7 (x : Int) (w : World) (h0 : 0 ≤ x) (h1 : x ≤ 18446744073709551615) (hc : 72057594037927936 ≤ x) :
    Calls Try.prog 101 #[.int .u64 x] w fun e w' => e = .returned (.int .i64 (Lib.bitLen x.toNat)) ∧ w' = w := by
  have hsz : Lib.len8tab.size = 256 := Lib.len8tab_size
  go_enter Try.func101, Try.ntmps101
  go_wp2
  go_ret
  refine ⟨ret_int ?_, rfl⟩
  rw [tab_val (x / 4294967296 / 65536 / 256) _ (by omega) (by omega)]
  have l := Lib.bitLen_le8' (x / 4294967296 / 65536 / 256) (by omega) (by omega)
  have e : (x / 4294967296 / 65536 / 256).toNat = x.toNat / 72057594037927936 := by omega
  have s := Lib.bitLen_shift56 x.toNat (by omega) (by omega)
  rw [e] at l ⊢
  rw [s]
  generalize Lib.bitLen (x.toNat / 72057594037927936) = q at *
  clear s e
  unfold wrap64
  omega
theorem len64_any (x : Int) (w : World) (h0 : 0 ≤ x) (h1 : x ≤ 18446744073709551615) :
    Calls Try.prog 101 #[.int .u64 x] w fun e w' => e = .returned (.int .i64 (Lib.bitLen x.toNat)) ∧ w' = w := by
  rcases (by omega : x < 256 ∨ (256 ≤ x ∧ x < 65536) ∨ (65536 ≤ x ∧ x < 16777216) ∨ (16777216 ≤ x ∧ x < 4294967296) ∨ (4294967296 ≤ x ∧ x < 1099511627776) ∨ (1099511627776 ≤ x ∧ x < 281474976710656) ∨ (281474976710656 ≤ x ∧ x < 72057594037927936) ∨ 72057594037927936 ≤ x) with h | h | h | h | h | h | h | h
  · exact len64_0 x w h0 h1 h
  · exact len64_1 x w h0 h1 h
  · exact len64_2 x w h0 h1 h
  · exact len64_3 x w h0 h1 h
  · exact len64_4 x w h0 h1 h
  · exact len64_5 x w h0 h1 h
  · exact len64_6 x w h0 h1 h
  · exact len64_7 x w h0 h1 h
theorem lead_any (y : Nat) (w : World) (h0 : 0 < y) (h1 : y < 18446744073709551616) :
    Calls Try.prog 100 #[.int .u64 y] w fun e w' => e = .returned (.int .i64 ((64 - Lib.bitLen y : Nat) : Int)) ∧ w' = w := by
  have hl := Lib.bitLen_le y 64 (by omega) h1
  have H := Lib.hid (fun W => len64_any (y : Int) W (by omega) (by omega))
  rw [Int.toNat_natCast] at H
  go_enter Try.func100, Try.ntmps100
  go_wp2_with fail
  refine (H.out _).mono ?_
  rintro e w1 ⟨rfl, rfl⟩
  go_wp2_with fail
  go_ret
  exact ⟨ret_int (by omega), rfl⟩
set_option maxHeartbeats 4000000 in
set_option maxRecDepth 100000 in
theorem div64_zero (lo y : Nat) (hl : lo < 18446744073709551616) (hy : y < 18446744073709551616) (h0 : 0 < y) (w : World) :
    Calls Try.prog 97 #[.int .u64 0, .int .u64 lo, .int .u64 y] w fun e w' => e = .returned (.tuple #[.int .u64 ((lo / y : Nat) : Int), .int .u64 ((lo % y : Nat) : Int)]) ∧ Below w.heap.size w w' := by
  have h1 : ((y : Int) == 0) = false := by simp; omega
  have e1 : IntKind.u64.wrap ((lo : Int) / (y : Int)) = (lo : Int) / (y : Int) := by
    rw [← Int.natCast_ediv]
    exact Bits.wrapN _ (Nat.lt_of_le_of_lt (Nat.div_le_self _ _) hl)
  go_enter Try.func97, Try.ntmps97
  go_wp2_with fail
  go_quiet (fail)
  go_wp2_with fail
  go_ret2
  exact ⟨ret_ii (by simp) (by simp), below_drewN (Below.refl _ _) _⟩
end Go.Proofs.Ytecdfphfgaeodaa

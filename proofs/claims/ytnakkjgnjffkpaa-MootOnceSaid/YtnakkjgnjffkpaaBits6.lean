/-
  A bit of bytes: bits.Get, and the reference's Get (bullionref06).
-/
import Derived.Test.YtnakkjgnjffkpaaBytes
import Derived.Laws.BitsLemmas
import Derived.Laws.ShiftsVarLaws
import Derived.IntWalk
namespace Go.Proofs.Ytnakkjgnjffkpaa
open Go.RowKit
set_option linter.unusedVariables false

/-- Is a bit 1? -/
def getB (bs : List Nat) (i : Int) : Bool := decide (0 ≤ i) && (bs.getD (i.toNat / 8) 0).testBit (i.toNat % 8)
theorem getB_neg (bs : List Nat) {i : Int} (h : i < 0) : getB bs i = false := by unfold getB; rw [decide_eq_false (by omega)]; rfl
theorem getB_nat (bs : List Nat) (k : Nat) : getB bs (k : Int) = (bs.getD (k / 8) 0).testBit (k % 8) := by
  unfold getB; rw [decide_eq_true (by omega)]; simp
theorem getB_past {bs : List Nat} {k : Nat} (h : ¬ k / 8 < bs.length) : getB bs (k : Int) = false := by
  rw [getB_nat, List.getD_eq_getElem?_getD, List.getElem?_eq_none (by omega)]; simp
theorem and_bit_all : ∀ x < 256, ∀ j < 8, x &&& 2 ^ j = (x.testBit j).toNat * 2 ^ j := by decide +kernel
theorem and_bit (x j : Nat) (hx : x < 256) (hj : j < 8) : bits .and .u8 (x : Int) (((2 ^ j : Nat)) : Int) = (((x.testBit j).toNat * 2 ^ j : Nat) : Int) := by
  rw [(bits_nat .u8 8 (by decide) wraps_u8 x (2 ^ j) (by omega) (Nat.pow_lt_pow_right (by decide) hj)).1, and_bit_all x hx j hj]
theorem and_bit_ne (x j p : Nat) (hp : p = 2 ^ j) (hx : x < 256) (hj : j < 8) : ((bits .and .u8 (x : Int) (p : Int)) != 0) = x.testBit j := by
  subst hp
  rw [and_bit x j hx hj]
  have hpos : 0 < 2 ^ j := Nat.two_pow_pos j
  cases x.testBit j
  · simp
  · simp only [Bool.toNat_true, Nat.one_mul]
    rw [bne_iff_ne]
    omega
theorem shl_bit (j : Nat) (hj : j < 8) : (2 : Int) ^ j % 256 = ((2 ^ j : Nat) : Int) := by
  have : j = 0 ∨ j = 1 ∨ j = 2 ∨ j = 3 ∨ j = 4 ∨ j = 5 ∨ j = 6 ∨ j = 7 := by omega
  rcases this with rfl | rfl | rfl | rfl | rfl | rfl | rfl | rfl <;> decide
set_option maxRecDepth 100000 in
theorem spot_no (A : Option Addr) (n c : Nat) (i : Int) (hm : i ≤ 9223372036854775807) (h : i < 0 ∨ (n : Int) ≤ i / 8) (w : World) : Calls Try.prog 140 #[.slice A n c, .int .i64 i] w fun e w' => e = .returned (.tuple #[.int .i64 0, .int .u8 0, .bool false]) ∧ Below w.heap.size w w' := by
  by_cases hi : i < 0
  · clear h
    go_enter Try.func140, Try.ntmps140
    go_wp2_with fail
    go_ret3
    exact ⟨rfl, Below.refl _ _⟩
  · obtain ⟨k, rfl⟩ := Int.eq_ofNat_of_zero_le (show 0 ≤ i by omega)
    have h2 : (n : Int) ≤ (k : Int) / 8 := by omega
    have h1 : ¬ (k : Int) < 0 := by omega
    have h0 : (0 : Int) ≤ (k : Int) := by omega
    clear h hi
    go_enter Try.func140, Try.ntmps140
    go_wp2_with fail
    go_ret3
    exact ⟨rfl, Below.refl _ _⟩
set_option maxRecDepth 100000 in
set_option maxHeartbeats 1000000 in
theorem spot_yes (A : Option Addr) (n c k : Nat) (hk : k ≤ 9223372036854775807) (h : k / 8 < n) (w : World) : Calls Try.prog 140 #[.slice A n c, .int .i64 (k : Int)] w fun e w' => e = .returned (.tuple #[.int .i64 ((k / 8 : Nat) : Int), .int .u8 ((2 ^ (k % 8) : Nat) : Int), .bool true]) ∧ Below w.heap.size w w' := by
  have h2 : ¬ (n : Int) ≤ (k : Int) / 8 := by omega
  have h1 : ¬ (k : Int) < 0 := by omega
  have h0 : (0 : Int) ≤ (k : Int) := by omega
  have E1 : Hid ((k : Int) / 8 = ((k / 8 : Nat) : Int)) := Lib.hid (by omega)
  have E2 : Hid ((k : Int) % 8 = ((k % 8 : Nat) : Int)) := Lib.hid (by omega)
  have hk' : (k : Int) ≤ 9223372036854775807 := by omega
  have HS := Lib.hid (shl_bit (k % 8) (Nat.mod_lt _ (by omega)))
  go_enter Try.func140, Try.ntmps140
  go_wp2_with fail
  go_quiet (fail)
  go_wp2_with fail
  go_ret3
  exact ⟨by show Ending.returned (.tuple #[.int .i64 ((k : Int) / 8), .int .u8 ((2 : Int) ^ (k % 8) % 256), .bool true]) = _; rw [HS.out, E1.out], (by (repeat (first | exact Below.refl _ _ | assumption | (refine Below.allocT ?_ _) | refine Below.drew ?_ | refine below_drewN ?_ _ | (refine Below.then ?_ (by assumption)) | (refine Below.setRow ?_ ?_ _; rotate_left; (focus (first | exact Nat.lt_succ_self _ | ((repeat rw [World.size_alloc]); omega) | (simp; done) | (simp; omega) | omega))) | (refine Below.setCell ?_ ?_ _; rotate_left; (focus (first | exact Nat.lt_succ_self _ | ((repeat rw [World.size_alloc]); omega) | (simp; done) | (simp; omega) | omega))) | (refine Below.then' ?_ (by assumption) ?_; rotate_left; (focus (first | exact Nat.lt_succ_self _ | ((repeat rw [World.size_alloc]); omega) | (simp; done) | (simp; omega) | omega))) | fail)); (first | done | fail))⟩
set_option maxRecDepth 100000 in
set_option maxHeartbeats 1000000 in
theorem get_any (A : Option Addr) (n c : Nat) (bs : List Nat) (i : Int) (hn : bs.length = n) (hb : bytesOk bs) (hi : i ≤ 9223372036854775807) (w : World) (hU : Bys w A bs) :
    Calls Try.prog 96 #[.slice A n c, .int .i64 i] w fun e w' => e = .returned (.bool (getB bs i)) ∧ Below w.heap.size w w' := by
  by_cases h : i < 0 ∨ (n : Int) ≤ i / 8
  · have HV : Hid (getB bs i = false) := Lib.hid (by
      rcases h with h | h
      · exact getB_neg bs h
      · by_cases h0 : i < 0
        · exact getB_neg bs h0
        · obtain ⟨k, rfl⟩ := Int.eq_ofNat_of_zero_le (show 0 ≤ i by omega)
          exact getB_past (by omega))
    have HS := Lib.hid (fun W => spot_no A n c i hi h W)
    clear h hn hb hU hi
    go_enter Try.func96, Try.ntmps96
    go_wp2_with fail
    refine (HS.out _).mono ?_
    rintro e w1 ⟨rfl, hb1⟩
    go_wp2_with fail
    go_ret
    exact ⟨by rw [HV.out]; rfl, hb1⟩
  · obtain ⟨k, rfl⟩ := Int.eq_ofNat_of_zero_le (show 0 ≤ i by omega)
    have hkn : k / 8 < n := by omega
    obtain ⟨b, off, rfl, hbb, hcell⟩ := hU (by omega)
    have hc := hcell (k / 8) (by omega)
    have hx := hb (k / 8)
    have hr : k % 8 < 8 := Nat.mod_lt _ (by omega)
    have HS := Lib.hid (fun W => spot_yes (some ⟨b, off, none⟩) n c k (by omega) hkn W)
    have HV : Hid (getB bs (k : Int) = (bs.getD (k / 8) 0).testBit (k % 8)) := Lib.hid (getB_nat bs k)
    generalize bs.getD (k / 8) 0 = x at *
    have HN : Hid (∀ p : Nat, p = 2 ^ (k % 8) → ((bits .and .u8 (x : Int) (p : Int)) != 0) = x.testBit (k % 8)) := Lib.hid (fun p hp => and_bit_ne x (k % 8) p hp hx hr)
    obtain ⟨p, hp⟩ : ∃ p : Nat, p = 2 ^ (k % 8) := ⟨_, rfl⟩
    have HNp := Lib.hid (HN.out p hp)
    rw [← hp] at HS
    have hp2 : p < 256 := by rw [hp]; exact Nat.lt_of_lt_of_le (Nat.pow_lt_pow_right (by decide) hr) (by decide)
    have z0 : (0 : Int) ≤ ((k / 8 : Nat) : Int) := by omega
    have z1 : ((k / 8 : Nat) : Int) < (n : Int) := by omega
    generalize k / 8 = q at *
    generalize x.testBit (k % 8) = tb at *
    clear h hkn hcell hn hb hU hi hr HN hp
    go_enter Try.func96, Try.ntmps96
    go_wp2_with fail
    refine (HS.out _).mono ?_
    rintro e w1 ⟨rfl, hb1⟩
    have hc1 := (hb1.cell (p := ⟨b, off + q, none⟩) hbb).trans hc
    clear hc HS
    go_wp2_with fail
    go_ret
    exact ⟨ret_bool (HNp.out.trans HV.out.symm), hb1⟩
set_option maxRecDepth 100000 in
set_option maxHeartbeats 1000000 in
theorem rget_any (A : Option Addr) (n c : Nat) (bs : List Nat) (i : Int) (hn : bs.length = n) (hm : n ≤ 9223372036854775807) (hb : bytesOk bs) (hi : i ≤ 9223372036854775807) (w : World) (hU : Bys w A bs) :
    Calls Try.prog 97 #[.slice A n c, .int .i64 i] w fun e w' => e = .returned (.bool (getB bs i)) ∧ Below w.heap.size w w' := by
  by_cases h0 : i < 0
  · have HV := Lib.hid (getB_neg bs h0)
    clear hn hb hU
    go_enter Try.func97, Try.ntmps97
    go_wp2_with fail
    go_ret
    exact ⟨by rw [HV.out]; rfl, Below.refl _ _⟩
  · obtain ⟨k, rfl⟩ := Int.eq_ofNat_of_zero_le (show 0 ≤ i by omega)
    by_cases h1 : k / 8 < n
    · obtain ⟨b, off, rfl, hbb, hcell⟩ := hU (by omega)
      have hc := hcell (k / 8) (by omega)
      have hx := hb (k / 8)
      have HV : Hid (getB bs (k : Int) = decide (bs.getD (k / 8) 0 / 2 ^ (k % 8) % 2 = 1)) := Lib.hid (by rw [getB_nat, Nat.testBit_eq_decide_div_mod_eq])
      generalize bs.getD (k / 8) 0 = x at *
      have h0' : ¬ (k : Int) < 0 := by omega
      have h1' : ¬ (n : Int) ≤ (k : Int) / 8 := by omega
      have h00 : (0 : Int) ≤ (k : Int) := by omega
      have z0 : (0 : Int) ≤ (k : Int) / 8 := by omega
      have z1 : (k : Int) / 8 < (n : Int) := by omega
      have E1 : ((k : Int) / 8).toNat = k / 8 := by omega
      have HK := Lib.hid (show (k : Int) % 8 = ((k % 8 : Nat) : Int) by omega)
      have hr : k % 8 < 8 := Nat.mod_lt _ (by omega)
      clear hcell hn hU hb
      go_enter Try.func97, Try.ntmps97
      go_wp2_with fail
      go_loop [6, 5] (fun a b => ∃ j : Nat, a = .int .i64 j ∧ j ≤ k % 8 ∧ b = .int .i64 ((x / 2 ^ j : Nat) : Int)) (fun a _ => 8 - (intOf a).toNat)
      case atStart => exact ⟨0, rfl, by omega, by simp⟩
      case round =>
        obtain ⟨j, rfl, hj, rfl⟩ := hrel
        by_cases hjl : j < k % 8
        · have t1 : (j : Int) < (k : Int) % 8 := by have := HK.out; omega
          have hd : x / 2 ^ (j + 1) = x / 2 ^ j / 2 := by rw [Nat.pow_succ, Nat.div_div_eq_div_mul]
          have hle : x / 2 ^ j ≤ x := Nat.div_le_self _ _
          have HD := Lib.hid hd
          clear hd
          generalize x / 2 ^ j = y at *
          go_wp2_with fail
          go_round
          case rel => exact ⟨j + 1, by go_num, by omega, by rw [HD.out]; go_num⟩
          case measure => simp [intOf]; omega
        · have hjk : j = k % 8 := by omega
          rw [← hjk] at HV HK
          have t1 : ¬ (j : Int) < (k : Int) % 8 := by have := HK.out; omega
          have hle : x / 2 ^ j ≤ x := Nat.div_le_self _ _
          clear hjk
          generalize x / 2 ^ j = y at *
          have t2 : Hid ((((y : Int) % 2) == 1) = decide (y % 2 = 1)) := Lib.hid (by rw [Bool.eq_iff_iff]; simp; omega)
          go_wp2_with fail
          go_ret
          exact ⟨ret_bool (t2.out.trans HV.out.symm), Below.refl _ _⟩
    · have HV := Lib.hid (getB_past (bs := bs) (k := k) (by omega))
      have h0' : ¬ (k : Int) < 0 := by omega
      have h1' : (n : Int) ≤ (k : Int) / 8 := by omega
      have h00 : (0 : Int) ≤ (k : Int) := by omega
      clear hn hb hU
      go_enter Try.func97, Try.ntmps97
      go_wp2_with fail
      go_ret
      exact ⟨by rw [HV.out]; rfl, Below.refl _ _⟩
end Go.Proofs.Ytnakkjgnjffkpaa

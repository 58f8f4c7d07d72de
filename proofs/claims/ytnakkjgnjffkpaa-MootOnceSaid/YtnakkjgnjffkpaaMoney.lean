/-
  What package money's functions answer, of numbers of 64 bits.
-/
import Derived.Test.YtnakkjgnjffkpaaBits
import Derived.Test.YtnakkjgnjffkpaaRef01a
namespace Go.Proofs.Ytnakkjgnjffkpaa
open Go.RowKit
set_option linter.unusedVariables false

def fitS (a b : Nat) : Nat := if b ≤ a then a - b else 0
def subE (a b : Nat) : Int := if b ≤ a then 0 else 11
theorem run_Add64_0 (x y : Nat) (w : World) :
    (callFunc 154 #[.int .u64 x, .int .u64 y, .int .u64 0]).run Try.prog w =
      .ok (.value (.tuple #[.int .u64 (((x + y) % 18446744073709551616 : Nat) : Int), .int .u64 (((x + y) / 18446744073709551616 : Nat) : Int)])) w := run_Add64 x y 0 (by omega) w
theorem madd_any (a b : Nat) (ha : a < 18446744073709551616) (hb : b < 18446744073709551616) (w : World) :
    Calls Try.prog 113 #[.int .u64 a, .int .u64 b] w fun e w' => e = .returned (.tuple #[.int .u64 ((fit (a + b) : Nat) : Int), .int .i64 (toldE (a + b))]) ∧ w = w' := by
  by_cases h : a + b ≤ 18446744073709551615
  · have hf : fit (a + b) = a + b := by unfold fit; rw [mostN_eq, if_pos h]
    have ht : toldE (a + b) = 0 := by unfold toldE; rw [mostN_eq, if_pos h]
    have h1 : (a + b) % 18446744073709551616 = a + b := Nat.mod_eq_of_lt (by omega)
    have h2 : (a + b) / 18446744073709551616 = 0 := Nat.div_eq_of_lt (by omega)
    have hr := fun w => run_Add64_0 a b w
    simp only [h1, h2] at hr
    rw [hf, ht]
    clear hf ht h1 h2
    go_enter Try.func113, Try.ntmps113
    go_wp2
    go_ret2
    exact ⟨by simp, rfl⟩
  · have hf : fit (a + b) = 0 := by unfold fit; rw [mostN_eq, if_neg h]
    have ht : toldE (a + b) = 10 := by unfold toldE; rw [mostN_eq, if_neg h]
    have h2 : (a + b) / 18446744073709551616 = 1 := by omega
    have hr := fun w => run_Add64_0 a b w
    simp only [h2] at hr
    rw [hf, ht]
    clear hf ht h2
    go_enter Try.func113, Try.ntmps113
    go_wp2
    go_ret2
    exact ⟨by simp, rfl⟩
/-- A slice that reads as these numbers of 64 bits. -/
def U64s (w : World) (A : Option Addr) (xs : List Nat) : Prop :=
  0 < xs.length → ∃ b off, A = some ⟨b, off, none⟩ ∧ b < w.heap.size ∧ ∀ i, i < xs.length → w.cell? ⟨b, off + i, none⟩ = some (.int .u64 ((xs.getD i 0 : Nat) : Int))
theorem U64s.below {w w' : World} {A : Option Addr} {xs : List Nat} {B : Nat} (h : U64s w A xs) (hb : Below B w w') (hB : w.heap.size ≤ B) : U64s w' A xs := fun hn => by
  obtain ⟨b, off, e, hg, hc⟩ := h hn
  refine ⟨b, off, e, Nat.lt_of_lt_of_le hg hb.size, fun i hi => ?_⟩
  rw [hb.cell (p := ⟨b, off + i, none⟩) (Nat.lt_of_lt_of_le hg hB)]
  exact hc i hi
def total (xs : List Nat) : Nat := xs.foldl (· + ·) 0
theorem foldl_add (xs : List Nat) : ∀ s, xs.foldl (· + ·) s = s + xs.foldl (· + ·) 0 := by
  induction xs with
  | nil => intro s; simp
  | cons x r ih => intro s; simp only [List.foldl_cons]; rw [ih (s + x), ih (0 + x)]; omega
theorem total_snoc (xs : List Nat) (x : Nat) : total (xs ++ [x]) = total xs + x := by simp [total]
theorem total_append (xs ys : List Nat) : total (xs ++ ys) = total xs + total ys := by unfold total; rw [List.foldl_append, foldl_add]
theorem total_take_succ (xs : List Nat) (i : Nat) (h : i < xs.length) : total (xs.take (i + 1)) = total (xs.take i) + xs.getD i 0 := by
  rw [List.take_succ_eq_append_getElem h, total_snoc]
  rw [List.getD_eq_getElem?_getD, List.getElem?_eq_getElem h]; rfl
theorem total_take_le (xs : List Nat) (i : Nat) : total (xs.take i) ≤ total xs := by
  conv => rhs; rw [← List.take_append_drop i xs]
  rw [total_append]; omega
set_option maxHeartbeats 400000 in
theorem msum_any (A : Option Addr) (xs : List Nat) (n c : Nat) (hn : xs.length = n) (hx : ∀ i, xs.getD i 0 < 18446744073709551616) (hm : n ≤ 9223372036854775807) (w : World) (hU : U64s w A xs) :
    Calls Try.prog 146 #[.slice A n c] w fun e w' => e = .returned (.tuple #[.int .u64 ((fit (total xs) : Nat) : Int), .int .i64 (toldE (total xs))]) ∧ w = w' := by
  have HN := Lib.hid hn
  clear hn
  go_enter Try.func146, Try.ntmps146
  go_wp2_with fail
  go_loop [4, 11] (fun s k => ∃ i t : Nat, i ≤ n ∧ k = .int .i64 i ∧ s = .int .u64 t ∧ t ≤ 18446744073709551615 ∧ Hid (t = total (xs.take i))) (fun _ k => n - (intOf k).toNat)
  case atStart => exact ⟨0, 0, by omega, rfl, rfl, by omega, Lib.hid rfl⟩
  case round =>
    obtain ⟨i, t, hi, rfl, rfl, ht, hT⟩ := hrel
    by_cases hlt : i < n
    · obtain ⟨b, off, rfl, hb, hcell⟩ := hU (by rw [HN.out]; omega)
      have hci := hcell i (by rw [HN.out]; omega)
      have hxi := hx i
      have hsucc := total_take_succ xs i (by rw [HN.out]; omega)
      have hle := total_take_le xs (i + 1)
      rw [hsucc, ← hT.out] at hle
      rw [← hT.out] at hsucc
      generalize xs.getD i 0 = x at *
      have HS := Lib.hid hsucc
      have HL := Lib.hid hle
      clear hcell hU hx hsucc hle
      have HA := Lib.hid (fun W => madd_any t x (by omega) hxi W)
      by_cases hov : t + x ≤ 18446744073709551615
      · have hf : fit (t + x) = t + x := by unfold fit; rw [mostN_eq, if_pos hov]
        have he : toldE (t + x) = 0 := by unfold toldE; rw [mostN_eq, if_pos hov]
        rw [hf, he] at HA
        clear hf he
        go_wp2_with (go_at_call 113; refine (HA.out _).mono ?_; rintro e w' ⟨rfl, rfl⟩)
        go_round
        case rel => exact ⟨i + 1, t + x, by omega, by go_num, by first | rfl | go_num, hov, Lib.hid HS.out.symm⟩
        case measure => simp [intOf]; omega
      · have hf : fit (t + x) = 0 := by unfold fit; rw [mostN_eq, if_neg hov]
        have he : toldE (t + x) = 10 := by unfold toldE; rw [mostN_eq, if_neg hov]
        have hf' : fit (total xs) = 0 := by unfold fit; rw [mostN_eq, if_neg (by have := HL.out; omega)]
        have he' : toldE (total xs) = 10 := by unfold toldE; rw [mostN_eq, if_neg (by have := HL.out; omega)]
        rw [hf, he] at HA
        have HF := Lib.hid hf'
        have HE := Lib.hid he'
        clear hf he hf' he'
        go_wp2_with (go_at_call 113; refine (HA.out _).mono ?_; rintro e w' ⟨rfl, rfl⟩)
        go_ret2
        exact ⟨by rw [HF.out, HE.out]; rfl, rfl⟩
    · obtain rfl : i = n := by omega
      have hT' := hT.out
      rw [← HN.out, List.take_length] at hT'
      have HF : Hid (fit (total xs) = t) := Lib.hid (by rw [← hT']; unfold fit; rw [mostN_eq, if_pos ht])
      have HE : Hid (toldE (total xs) = 0) := Lib.hid (by rw [← hT']; unfold toldE; rw [mostN_eq, if_pos ht])
      clear hT'
      go_wp2_with fail
      go_ret2
      exact ⟨by rw [HF.out, HE.out]; rfl, rfl⟩
end Go.Proofs.Ytnakkjgnjffkpaa

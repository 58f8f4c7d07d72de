/-
  A vault's small functions: sectors, little, number.
-/
import Derived.Test.YtkkncijbedfdfaaVaultL
import Derived.Test.YtkkncijbedfdfaaCoder2
namespace Go.Proofs.Ytkkncijbedfdfaa
open Go.RowKit
set_option linter.unusedVariables false

theorem sectors_any (n : Nat) (hn : n ≤ 1000000000) (w : World) : Calls Try.prog 28 #[.int .i64 (n : Int)] w fun e w' => e = .returned (.int .i64 ((secs n : Nat) : Int)) ∧ w = w' := by
  have e1 : IntKind.i64.wrap ((n : Int) + 64) = (n : Int) + 64 := IntWalk.i64_in _ (by omega)
  have e2 : IntKind.i64.wrap ((n : Int) + 64 - 1) = (n : Int) + 64 - 1 := IntWalk.i64_in _ (by omega)
  have HS : Hid (((n : Int) + 64 - 1) / 64 = ((secs n : Nat) : Int)) := Lib.hid (by unfold secs; omega)
  go_enter Try.func28, Try.ntmps28
  go_wp2_with fail
  go_ret
  exact ⟨by rw [← HS.out]; rfl, rfl⟩
set_option maxHeartbeats 1000000 in
theorem little_any (n k : Nat) (hn : n < 18446744073709551616) (hk8 : k ≤ 8) (w : World) : Calls Try.prog 52 #[.int .u64 (n : Int), .int .i64 (k : Int)] w (RetB w (lit n k)) := by
  go_enter Try.func52, Try.ntmps52
  go_wp2_with fail
  go_loopw [0, 5, 7] (fun x v i wr => ∃ (y j : Nat) (ds : List Nat), y ≤ n ∧ x = .int .u64 y ∧ i = .int .i64 j ∧ j ≤ k ∧ OwnB wr v ds ∧ Hid (∀ k, v.ownBlock = some k → w.heap.size ≤ k) ∧ Hid (lit n k = ds ++ lit y (k - j) ∧ ds.length = j) ∧ Below w.heap.size w wr) (fun _ _ i _ => k - (intOf i).toNat)
  case atStart => exact ⟨n, 0, [], by omega, rfl, rfl, by omega, OwnB.nil _, Lib.hid (fun k hk => by cases hk), Lib.hid ⟨by simp, rfl⟩, Below.refl _ _⟩
  case round =>
    obtain ⟨y, j, ds, hy, rfl, rfl, hj, hown, hk, hds, hB⟩ := hrel
    have hlt := hB.size
    by_cases hjk : j < k
    · obtain ⟨r, hr⟩ : ∃ r, k - j = r + 1 := ⟨k - j - 1, by omega⟩
      have HF : Hid (lit n k = (ds ++ [y % 256]) ++ lit (y / 256) (k - (j + 1)) ∧ (ds ++ [y % 256]).length = j + 1) := Lib.hid ⟨by rw [hds.out.1, hr, lit, show k - (j + 1) = r by omega]; simp, by rw [List.length_append, hds.out.2]; rfl⟩
      have hlen : ds.length ≤ 8 := by rw [hds.out.2]; omega
      have E1 : IntKind.u8.wrap (y : Int) = ((y % 256 : Nat) : Int) := by rw [IntKind.wrap_u8]; omega
      have z2 : (j : Int) < (k : Int) := by omega
      clear hds hr
      go_wp2_with (at_builtin; refine wpList_app1 rfl _ _ rfl _ ds _ (y % 256) hown rfl rfl ?_ ?_ ?_; (focus (first | rfl | (simp; done) | omega)); (focus omega); intro v' w' a1 a2 a3)
      refine ⟨⟨y / 256, j + 1, ds ++ [y % 256], by omega, by go_num, by go_num, by omega, a1, Lib.hid (fun k e => ?_), HF, hB.trans ((Chg.toBelow a2 (fun k e => hk.out k e) hlt))⟩, by simp [intOf]; omega⟩
      rcases a3 with a3 | a3
      · exact hk.out k (a3 ▸ e)
      · rw [a3] at e; cases e; omega
    · obtain rfl : j = k := by omega
      have HF : Hid (lit n j = ds) := Lib.hid (by rw [hds.out.1, Nat.sub_self, lit, List.append_nil])
      clear hds
      go_wp2_with fail
      go_ret
      exact retB_of rfl (by rw [HF.out]; exact hown) (fun k e => hk.out k e) hB
theorem numB_lt : ∀ (bs : List Nat), (∀ x ∈ bs, x < 256) → numB bs < 256 ^ bs.length
  | [], _ => by rw [numB]; exact Nat.one_pos
  | x :: r, h => by
    have h1 := numB_lt r (fun y hy => h y (List.mem_cons_of_mem _ hy))
    have h2 := h x (List.mem_cons_self ..)
    rw [numB, List.length_cons, Nat.pow_succ]
    omega
theorem or_low8 (a b : Nat) (hb : b < 256) (hs : a * 256 + b < 18446744073709551616) : bits .or .u64 ((a * 256 : Nat) : Int) (b : Int) = ((b + 256 * a : Nat) : Int) := by
  obtain ⟨c, hc⟩ : ∃ c, c = a * 256 := ⟨_, rfl⟩
  have h := bits_or_u64_nat c b (by omega) (by omega)
  have e : c ||| b = b + 256 * a := by
    have h0 := Nat.two_pow_add_eq_or_of_lt (i := 8) (b := b) hb a
    have e8 : (2 : Nat) ^ 8 = 256 := rfl
    rw [e8] at h0
    rw [hc, Nat.mul_comm a 256, ← h0, Nat.add_comm]
  rw [e] at h
  rw [← hc]
  exact h
set_option maxHeartbeats 1000000 in
set_option maxRecDepth 100000 in
theorem number_any (A : Option Addr) (n c : Nat) (bs : List Nat) (hn : bs.length = n) (hm : n ≤ 8) (hok : bytesOk bs) (w : World) (hB : Bys w A bs) : Calls Try.prog 44 #[.slice A n c] w fun e w' => e = .returned (.int .u64 ((numB bs : Nat) : Int)) ∧ w = w' := by
  have HB := Lib.hid hB
  have HN := Lib.hid hn
  have HOk := Lib.hid hok
  clear hB hn hok
  have e0 : IntKind.i64.wrap ((n : Int) - 1) = (n : Int) - 1 := IntWalk.i64_in _ (by omega)
  obtain ⟨N0, hN0⟩ : ∃ N0, N0 = numB bs := ⟨_, rfl⟩
  rw [← hN0]
  have HN0 := Lib.hid hN0
  clear hN0
  go_enter Try.func44, Try.ntmps44
  go_wp2_with fail
  go_loopw [3, 4] (fun x i wr => ∃ (j : Nat) (z : Int), i = .int .i64 z ∧ z = (j : Int) - 1 ∧ x = .int .u64 ((numB (bs.drop j) : Nat) : Int) ∧ j ≤ n ∧ w = wr) (fun _ i _ => (intOf i + 1).toNat)
  case atStart =>
    refine ⟨n, _, rfl, rfl, ?_, Nat.le_refl _, by first | rfl | trivial⟩
    rw [List.drop_eq_nil_of_le (by rw [HN.out]; exact Nat.le_refl _)]; rfl
  case round =>
    obtain ⟨j, z, rfl, hz, rfl, hj, rfl⟩ := hrel
    cases j with
    | zero =>
      have hz2 : ¬ (0 : Int) ≤ z := by omega
      rw [List.drop_zero, ← HN0.out]
      clear hz
      go_wp2_with fail
      go_ret
      exact ⟨rfl, rfl⟩
    | succ k =>
      obtain rfl : z = (k : Int) := by omega
      have hkn : k < n := by omega
      obtain ⟨b, off, rfl, hcell⟩ := HB.out (by rw [HN.out]; omega)
      have hkl : k < bs.length := by rw [HN.out]; exact hkn
      have hd : numB (bs.drop k) = bs.getD k 0 + 256 * numB (bs.drop (k + 1)) := by
        rw [List.drop_eq_getElem_cons hkl, numB, List.getD_eq_getElem?_getD, List.getElem?_eq_getElem hkl]; rfl
      have hb1 := HOk.out k
      have hlt := numB_lt (bs.drop (k + 1)) (fun y hy => (HOk.out.drop _).mem y hy)
      rw [List.length_drop, HN.out] at hlt
      have hp : 256 ^ (n - (k + 1)) ≤ 256 ^ 7 := Nat.pow_le_pow_right (by decide) (by omega)
      have hp7 : (256 : Nat) ^ 7 = 72057594037927936 := by decide
      generalize hNe : numB (bs.drop (k + 1)) = N at *
      generalize hbe : bs.getD k 0 = x at *
      have hN : N < 72057594037927936 := by omega
      have kc : w.cell? ⟨b, off + k, none⟩ = some (.int .u8 (x : Int)) := by rw [hcell.2 k hkl, hbe]
      have eo := or_low8 N x hb1 (by omega)
      have e8 : IntKind.i64.wrap ((k : Int) - 1) = (k : Int) - 1 := IntWalk.i64_in _ (by omega)
      have es : IntKind.u64.wrap ((N : Int) * 256) = ((N * 256 : Nat) : Int) := by rw [show (N : Int) * 256 = ((N * 256 : Nat) : Int) by omega]; rw [IntKind.wrap_u64]; omega
      have ex : IntKind.u64.wrap (x : Int) = (x : Int) := by rw [IntKind.wrap_u64]; omega
      have HD := Lib.hid hd
      have eo2 : bits .or .u64 ((N : Int) * 256) (x : Int) = ((x + 256 * N : Nat) : Int) := by rw [show (N : Int) * 256 = ((N * 256 : Nat) : Int) by omega]; exact eo
      have HEo := Lib.hid eo2
      have z1 : (0 : Int) ≤ (k : Int) := by omega
      have z2 : (k : Int) < (n : Int) := by omega
      clear hd hlt hp hp7 hcell hz eo eo2
      go_wp2_with fail
      exact ⟨⟨k, (k : Int) - 1, rfl, rfl, by rw [HD.out]; exact congrArg _ HEo.out, by omega, by first | rfl | trivial⟩, by first | (simp [intOf]; done) | (simp [intOf]; omega)⟩
end Go.Proofs.Ytkkncijbedfdfaa

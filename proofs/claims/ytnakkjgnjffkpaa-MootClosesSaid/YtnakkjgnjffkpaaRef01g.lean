/-
  What bullionref01.Sum answers, of at most 300 numbers.
-/
import Derived.Test.YtnakkjgnjffkpaaRef01a
import Derived.Test.YtnakkjgnjffkpaaMoney
namespace Go.Proofs.Ytnakkjgnjffkpaa
open Go.RowKit
set_option linter.unusedVariables false

theorem total_le (xs : List Nat) (M : Nat) (h : ∀ i, xs.getD i 0 ≤ M) : ∀ i, i ≤ xs.length → total (xs.take i) ≤ i * M
  | 0, _ => by simp [total]
  | i + 1, hi => by
    rw [total_take_succ xs i (by omega)]
    have := total_le xs M h i (by omega)
    have := h i
    rw [Nat.add_mul]; omega
theorem total_len (xs : List Nat) (h : ∀ i, xs.getD i 0 < 18446744073709551616) (hn : xs.length ≤ 1000) (i : Nat) (hi : i ≤ xs.length) : (dg (total (xs.take i))).length ≤ 30 := by
  apply len_le_of_lt
  have h1 := total_le xs 18446744073709551615 (fun i => by have := h i; omega) i hi
  have h2 : i * 18446744073709551615 ≤ 1000 * 18446744073709551615 := Nat.mul_le_mul_right _ (by omega)
  exact Nat.lt_of_le_of_lt (Nat.le_trans h1 h2) (by decide)
set_option maxHeartbeats 1000000 in
set_option maxRecDepth 100000 in
theorem rsum_any (A : Option Addr) (xs : List Nat) (n c : Nat) (hn : xs.length = n) (hx : ∀ i, xs.getD i 0 < 18446744073709551616) (hm : n ≤ 1000) (w : World) (hU : U64s w A xs) :
    Calls Try.prog 118 #[.slice A n c] w (RetNat w (total xs)) := by
  have HN := Lib.hid hn
  clear hn
  have S0 : Below w.heap.size w ((w.alloc (.cells #[.slice none 0 0] 190)).alloc (.cells #[.slice none 0 0] 190)) := (by (repeat (first | exact Below.refl _ _ | assumption | (refine Below.allocT ?_ _) | refine Below.drew ?_ | refine below_drewN ?_ _ | (refine Below.then ?_ (by assumption)) | (refine Below.setRow ?_ ?_ _; rotate_left; (focus (first | exact Nat.lt_succ_self _ | ((repeat rw [World.size_alloc]); omega) | (simp; done) | (simp; omega) | omega))) | (refine Below.setCell ?_ ?_ _; rotate_left; (focus (first | exact Nat.lt_succ_self _ | ((repeat rw [World.size_alloc]); omega) | (simp; done) | (simp; omega) | omega))) | (refine Below.then' ?_ (by assumption) ?_; rotate_left; (focus (first | exact Nat.lt_succ_self _ | ((repeat rw [World.size_alloc]); omega) | (simp; done) | (simp; omega) | omega))) | fail)); (first | done | fail))
  have R1 : row ((w.alloc (.cells #[.slice none 0 0] 190)).alloc (.cells #[.slice none 0 0] 190)) w.heap.size = some #[.slice none 0 0] := (by (repeat (first | assumption | (refine row_at _ _ _ _ ?_; first | rfl | (simp only [World.size_alloc]; done) | (simp only [World.size_alloc]; omega)) | (refine (row_past _ _ _ ?_).trans ?_; (focus (first | exact Nat.lt_succ_self _ | ((repeat rw [World.size_alloc]); omega) | (simp; done) | (simp; omega) | omega))) | rw [row_drewN] | rw [row_drew])); (first | done | fail))
  have R2 : row ((w.alloc (.cells #[.slice none 0 0] 190)).alloc (.cells #[.slice none 0 0] 190)) (w.heap.size + 1) = some #[.slice none 0 0] := (by (repeat (first | assumption | (refine row_at _ _ _ _ ?_; first | rfl | (simp only [World.size_alloc]; done) | (simp only [World.size_alloc]; omega)) | (refine (row_past _ _ _ ?_).trans ?_; (focus (first | exact Nat.lt_succ_self _ | ((repeat rw [World.size_alloc]); omega) | (simp; done) | (simp; omega) | omega))) | rw [row_drewN] | rw [row_drew])); (first | done | fail))
  go_enter Try.func118, Try.ntmps118
  go_wp2_with fail
  go_loopw [4] (fun k wr => ∃ (i : Nat) (As : Option Addr) (ns cs : Nat), i ≤ n ∧ k = .int .i64 i ∧ Below w.heap.size w wr ∧ row wr w.heap.size = some #[.slice none 0 0] ∧ row wr (w.heap.size + 1) = some #[.slice As ns cs] ∧ Hid (NatV wr As ns (total (xs.take i)) ∧ ∀ x, As = some x → w.heap.size + 2 ≤ x.block)) (fun k _ => n - (intOf k).toNat)
  case atStart => exact ⟨0, none, 0, 0, by omega, rfl, S0, R1, R2, Lib.hid ⟨NatV.zero _ _, by simp⟩⟩
  case round =>
    obtain ⟨i, As, ns, cs, hi, rfl, hB, r1, r2, hN⟩ := hrel
    clear S0 R1 R2
    have hz := row_lt r2
    by_cases hlt : i < n
    · obtain ⟨b, off, rfl, hb, hcell⟩ := (hU.below hB (Nat.le_refl _)) (by rw [HN.out]; omega)
      have hci := hcell i (by rw [HN.out]; omega)
      have hxi := hx i
      have hsucc := total_take_succ xs i (by rw [HN.out]; omega)
      have lt1 := total_len xs hx (by rw [HN.out]; omega) i (by rw [HN.out]; omega)
      have hns := hN.out.1.1
      generalize xs.getD i 0 = x at *
      have lx := len_u64 hxi
      have HS := Lib.hid hsucc
      have hNs : ∀ W, Below wr.heap.size wr W → NatV W As ns (total (xs.take i)) := fun W h => hN.out.1.stay h
      have HNS := Lib.hid hNs
      have hns1 : ns ≤ 30 := by omega
      have q2 : wr.cell? ⟨w.heap.size + 1, 0, none⟩ = some (.slice As ns cs) := row_cell r2 0
      have f1 : (i : Int) < (n : Int) := by omega
      clear hcell hsucc hNs hns
      go_wp2_with fail
      go_region_with (first | (go_at_call 144; refine (ofn_any x hxi _).mono ?_; rintro e w2 ⟨A2, c2, rfl, hN2, hb2, hh2⟩; have hr2 := (row_below hb2 (g := w.heap.size + 1) (by first | exact row_lt r2 | (show _ < wr.heap.size; omega))).trans r2; have hq2 : w2.cell? ⟨w.heap.size + 1, 0, none⟩ = some (.slice As ns cs) := row_cell hr2 0; have hci2 := (hb2.cell (p := ⟨b, off + i, none⟩) hb).trans hci) | (go_at_call 153; refine (add_any As A2 ns cs _ c2 (total (xs.take i)) x _ (HNS.out _ (Below.then (by first | exact Below.refl _ _ | exact (Below.refl _ _).drew) hb2)) hN2 (by omega) (by omega)).mono ?_; rintro e w3 ⟨A3, c3, rfl, hN3, hb3, hh3⟩; have hr3 := (row_below hb3 (row_lt hr2)).trans hr2; have hq3 : w3.cell? ⟨w.heap.size + 1, 0, none⟩ = some (.slice As ns cs) := row_cell hr3 0; have hf3 : w3.frozen? ⟨w.heap.size + 1, 0, none⟩ = false := row_frozen hr3 0))
      all_goals
        have hz2 := row_lt hr2
        have hz3 := row_lt hr3
        have hr1 : row w3 w.heap.size = some #[.slice none 0 0] := (row_below hb3 (by omega)).trans ((row_below hb2 (by first | exact row_lt r1 | (show _ < wr.heap.size; omega))).trans r1)
        have hBB : Below w.heap.size w w3 := (by (repeat (first | exact Below.refl _ _ | assumption | (refine Below.allocT ?_ _) | refine Below.drew ?_ | refine below_drewN ?_ _ | (refine Below.then ?_ (by assumption)) | (refine Below.setRow ?_ ?_ _; rotate_left; (focus (first | exact Nat.lt_succ_self _ | ((repeat rw [World.size_alloc]); omega) | (simp; done) | (simp; omega) | omega))) | (refine Below.setCell ?_ ?_ _; rotate_left; (focus (first | exact Nat.lt_succ_self _ | ((repeat rw [World.size_alloc]); omega) | (simp; done) | (simp; omega) | omega))) | (refine Below.then' ?_ (by assumption) ?_; rotate_left; (focus (first | exact Nat.lt_succ_self _ | ((repeat rw [World.size_alloc]); omega) | (simp; done) | (simp; omega) | omega))) | fail)); (first | done | fail))
        have hN4 := Lib.hid (hN3.far (B := w.heap.size + 2) (fun x hx => by have := hh3 x hx; omega) (p := ⟨w.heap.size + 1, 0, none⟩) (by show w.heap.size + 1 < w.heap.size + 2; omega) (.slice A3 (dg (total (xs.take i) + x)).length c3))
        have HH := Lib.hid hh3
        clear hN3 hh3 hN2 hh2 hci hci2 hq2 q2 hq3 hf3
        go_wp2_with fail
        refine ⟨⟨i + 1, A3, (dg (total (xs.take i) + x)).length, c3, by omega, by go_num, ?_, ?_, ?_, Lib.hid ⟨?_, fun y hy => by have := HH.out y hy; omega⟩⟩, by simp [intOf]; omega⟩
        · exact Below.setCell hBB (p := ⟨w.heap.size + 1, 0, none⟩) (by show w.heap.size ≤ w.heap.size + 1; omega) _
        · exact (row_far w3 ⟨w.heap.size + 1, 0, none⟩ _ _ (by show w.heap.size ≠ w.heap.size + 1; omega)).trans hr1
        · exact row_set hr3 0 _
        · rw [HS.out]; exact hN4.out
    · obtain rfl : i = n := by omega
      have hNN := hN.out.1
      have hhi := hN.out.2
      rw [show xs.take i = xs by rw [← HN.out, List.take_length]] at hNN
      have q1 : wr.cell? ⟨w.heap.size, 0, none⟩ = some (.slice none 0 0) := row_cell r1 0
      have f1 : wr.frozen? ⟨w.heap.size, 0, none⟩ = false := row_frozen r1 0
      have q2 : wr.cell? ⟨w.heap.size + 1, 0, none⟩ = some (.slice As ns cs) := row_cell r2 0
      obtain ⟨hlen, hI⟩ := hNN
      subst hlen
      have HF := Lib.hid (NatV.far (B := w.heap.size + 2) ⟨rfl, hI⟩ hhi (p := ⟨w.heap.size, 0, none⟩) (by show w.heap.size < w.heap.size + 2; omega) (.slice As (dg (total xs)).length cs))
      have HH := Lib.hid hhi
      have hz1 := row_lt r1
      clear hhi hI hU
      go_wp2_with fail
      refine bodyPost_ret (v := .agg #[.slice As (dg (total xs)).length cs]) (by simp [results, Try.results118, go_sem, q1]) rfl ⟨_, _, rfl, HF.out, ?_, fun x hx => by have := HH.out x hx; omega⟩
      exact Below.setCell hB (p := ⟨w.heap.size, 0, none⟩) (by show w.heap.size ≤ w.heap.size; omega) _
end Go.Proofs.Ytnakkjgnjffkpaa

/-
  What bullionref01.Mul answers.
-/
import Derived.Test.YtnakkjgnjffkpaaRef01b
import Derived.Laws.MakeOwn
namespace Go.Proofs.Ytnakkjgnjffkpaa
open Go.RowKit
set_option linter.unusedVariables false

def rowI (l : List Nat) : Array Value := (l.map fun d => Value.int .i64 ((d : Nat) : Int)).toArray
theorem rowI_size (l : List Nat) : (rowI l).size = l.length := by simp [rowI]
theorem rowI_get (l : List Nat) (i : Nat) (h : i < l.length) : (rowI l)[i]? = some (.int .i64 ((l.getD i 0 : Nat) : Int)) := by
  simp [rowI, h]
theorem rowI_set (l : List Nat) (i x : Nat) : (rowI l).setIfInBounds i (.int .i64 ((x : Nat) : Int)) = rowI (l.set i x) := by
  simp [rowI, List.map_set]
theorem rowI_noughts (n : Nat) : madeCells #[.int .i64 0] (n * 1) = rowI (List.replicate n 0) := by
  apply Array.ext
  · simp [rowI, madeCells]
  · intro i h1 h2
    simp [rowI, madeCells, Nat.mod_one]
theorem rowI_ints {w : World} {g : Nat} {l : List Nat} (h : row w g = some (rowI l)) : Ints w (some ⟨g, 0, none⟩) l.length (fun i => l.getD i 0) := fun _ =>
  ⟨g, rfl, row_lt h, fun i hi => by rw [row_cell h i, rowI_get l i hi]⟩
theorem run_make_ints (z : Int) (K : Nat) (hz : z = (K : Int)) (hK : K ≤ 100000) (W : World) :
    (Instr.makeSlice 34 (.int .i64 z) (.int .i64 z)).run Try.prog W = .ok (.slice (some ⟨W.heap.size, 0, none⟩) K K) (W.alloc (.cells (rowI (List.replicate K 0)) 3)) := by
  subst hz
  obtain ⟨i0, hi, hz0, hz1, hz2⟩ := info_parts int_info
  have h := run_make (P := Try.prog) W 34 3 i0 (.int .i64 0) ints_under hi hz0 .i64 .i64 (K : Int) (K : Int) (by omega) (by omega) (by rw [hz2]; omega) (by omega)
  have e : (Value.int .i64 0).cells = #[.int .i64 0] := rfl
  rw [Int.toNat_natCast, hz1, e, rowI_noughts] at h
  exact h
set_option maxHeartbeats 2000000 in
set_option maxRecDepth 100000 in
theorem muln_any (A1 A2 : Option Addr) (n1 c1 n2 c2 a b : Nat) (w : World) (hN1 : NatV w A1 n1 a) (hN2 : NatV w A2 n2 b) (h1 : n1 ≤ 400) (h2 : n2 ≤ 400) :
    Calls Try.prog 143 #[.agg #[.slice A1 n1 c1], .agg #[.slice A2 n2 c2]] w (RetNat w (a * b)) := by
  have L1 := Lib.hid hN1.1
  have L2 := Lib.hid hN2.1
  have hmk := run_make_ints ((n1 : Int) + (n2 : Int) + 1) (n1 + n2 + 1) (by omega) (by omega)
  go_enter Try.func143, Try.ntmps143
  go_wp2_with fail
  clear hmk
  have S0 : Below w.heap.size w ((((w.alloc (.cells #[.slice A1 n1 c1] 190)).alloc (.cells #[.slice A2 n2 c2] 190)).alloc (.cells #[.slice none 0 0] 190)).alloc (.cells (rowI (List.replicate (n1 + n2 + 1) 0)) 3)) := (by (repeat (first | exact Below.refl _ _ | assumption | (refine Below.allocT ?_ _) | refine Below.drew ?_ | refine below_drewN ?_ _ | (refine Below.then ?_ (by assumption)) | (refine Below.setRow ?_ ?_ _; rotate_left; (focus (first | exact Nat.lt_succ_self _ | ((repeat rw [World.size_alloc]); omega) | (simp; done) | (simp; omega) | omega))) | (refine Below.setCell ?_ ?_ _; rotate_left; (focus (first | exact Nat.lt_succ_self _ | ((repeat rw [World.size_alloc]); omega) | (simp; done) | (simp; omega) | omega))) | (refine Below.then' ?_ (by assumption) ?_; rotate_left; (focus (first | exact Nat.lt_succ_self _ | ((repeat rw [World.size_alloc]); omega) | (simp; done) | (simp; omega) | omega))) | fail)); (first | done | fail))
  have R1 : row ((((w.alloc (.cells #[.slice A1 n1 c1] 190)).alloc (.cells #[.slice A2 n2 c2] 190)).alloc (.cells #[.slice none 0 0] 190)).alloc (.cells (rowI (List.replicate (n1 + n2 + 1) 0)) 3)) w.heap.size = some #[.slice A1 n1 c1] := (by (repeat (first | assumption | (refine row_at _ _ _ _ ?_; first | rfl | (simp only [World.size_alloc]; done) | (simp only [World.size_alloc]; omega)) | (refine (row_past _ _ _ ?_).trans ?_; (focus (first | exact Nat.lt_succ_self _ | ((repeat rw [World.size_alloc]); omega) | (simp; done) | (simp; omega) | omega))) | rw [row_drewN] | rw [row_drew])); (first | done | fail))
  have R2 : row ((((w.alloc (.cells #[.slice A1 n1 c1] 190)).alloc (.cells #[.slice A2 n2 c2] 190)).alloc (.cells #[.slice none 0 0] 190)).alloc (.cells (rowI (List.replicate (n1 + n2 + 1) 0)) 3)) (w.heap.size + 1) = some #[.slice A2 n2 c2] := (by (repeat (first | assumption | (refine row_at _ _ _ _ ?_; first | rfl | (simp only [World.size_alloc]; done) | (simp only [World.size_alloc]; omega)) | (refine (row_past _ _ _ ?_).trans ?_; (focus (first | exact Nat.lt_succ_self _ | ((repeat rw [World.size_alloc]); omega) | (simp; done) | (simp; omega) | omega))) | rw [row_drewN] | rw [row_drew])); (first | done | fail))
  have R3 : row ((((w.alloc (.cells #[.slice A1 n1 c1] 190)).alloc (.cells #[.slice A2 n2 c2] 190)).alloc (.cells #[.slice none 0 0] 190)).alloc (.cells (rowI (List.replicate (n1 + n2 + 1) 0)) 3)) (w.heap.size + 2) = some #[.slice none 0 0] := (by (repeat (first | assumption | (refine row_at _ _ _ _ ?_; first | rfl | (simp only [World.size_alloc]; done) | (simp only [World.size_alloc]; omega)) | (refine (row_past _ _ _ ?_).trans ?_; (focus (first | exact Nat.lt_succ_self _ | ((repeat rw [World.size_alloc]); omega) | (simp; done) | (simp; omega) | omega))) | rw [row_drewN] | rw [row_drew])); (first | done | fail))
  have R4 : row ((((w.alloc (.cells #[.slice A1 n1 c1] 190)).alloc (.cells #[.slice A2 n2 c2] 190)).alloc (.cells #[.slice none 0 0] 190)).alloc (.cells (rowI (List.replicate (n1 + n2 + 1) 0)) 3)) (w.heap.size + 3) = some (rowI (List.replicate (n1 + n2 + 1) 0)) := (by (repeat (first | assumption | (refine row_at _ _ _ _ ?_; first | rfl | (simp only [World.size_alloc]; done) | (simp only [World.size_alloc]; omega)) | (refine (row_past _ _ _ ?_).trans ?_; (focus (first | exact Nat.lt_succ_self _ | ((repeat rw [World.size_alloc]); omega) | (simp; done) | (simp; omega) | omega))) | rw [row_drewN] | rw [row_drew])); (first | done | fail))
  go_loopw [6, 7, 8, 9] (fun ii _ _ _ wr => ∃ (i : Nat) (l : List Nat), ii = .int .i64 i ∧ i ≤ n1 ∧ Hid (l.length = n1 + n2 + 1 ∧ low l ∧ val l = a % 10 ^ i * b) ∧ Below w.heap.size w wr ∧ row wr w.heap.size = some #[.slice A1 n1 c1] ∧ row wr (w.heap.size + 1) = some #[.slice A2 n2 c2] ∧ row wr (w.heap.size + 2) = some #[.slice none 0 0] ∧ row wr (w.heap.size + 3) = some (rowI l)) (fun ii _ _ _ _ => n1 - (intOf ii).toNat)
  case atStart => exact ⟨0, List.replicate (n1 + n2 + 1) 0, rfl, by omega, Lib.hid ⟨by simp, low_noughts _, by rw [val_noughts]; simp [Nat.mod_one]⟩, S0, R1, R2, R3, R4⟩
  case round =>
    obtain ⟨i, l, rfl, hi, hl, hB, r1, r2, r3, r4⟩ := hrel
    clear S0 R1 R2 R3 R4
    have hz := row_lt r4
    have q1 : wr.cell? ⟨w.heap.size, 0, none⟩ = some (.slice A1 n1 c1) := row_cell r1 0
    by_cases hgo : i < n1
    · go_wp2_with fail
      obtain ⟨wo, rfl⟩ : ∃ wo : World, wo = wr := ⟨_, rfl⟩
      go_loopw [7, 8, 9] (fun cc kk _ wr => ∃ (k c : Nat) (l : List Nat), kk = .int .i64 k ∧ cc = .int .i64 c ∧ k ≤ n2 + 1 ∧ c ≤ 9 ∧ (n2 < k → c ≤ 0) ∧ Hid (l.length = n1 + n2 + 1 ∧ low l ∧ val l + c * 10 ^ (i + k) = a % 10 ^ i * b + dgt a i * (b % 10 ^ k) * 10 ^ i ∧ ∀ j, i + k ≤ j → l.getD j 0 = dgt (a % 10 ^ i * b) j) ∧ Below w.heap.size w wr ∧ row wr w.heap.size = some #[.slice A1 n1 c1] ∧ row wr (w.heap.size + 1) = some #[.slice A2 n2 c2] ∧ row wr (w.heap.size + 2) = some #[.slice none 0 0] ∧ row wr (w.heap.size + 3) = some (rowI l)) (fun _ kk _ _ => 1000 - (intOf kk).toNat)
      case atStart => exact ⟨0, 0, l, rfl, rfl, by omega, by omega, by omega, Lib.hid ⟨hl.out.1, hl.out.2.1, by rw [hl.out.2.2]; simp [Nat.mod_one], fun j _ => by rw [← hl.out.2.2, dgt_val hl.out.2.1]⟩, hB, r1, r2, r3, r4⟩
      case round =>
        obtain ⟨k, c, l', rfl, rfl, hk, hc, hkc, hl', hB', r1', r2', r3', r4'⟩ := hrel
        clear hl hB r1 r2 r3 r4 hz q1
        have hz := row_lt r4'
        have q1 : wr.cell? ⟨w.heap.size, 0, none⟩ = some (.slice A1 n1 c1) := row_cell r1' 0
        have q2 : wr.cell? ⟨w.heap.size + 1, 0, none⟩ = some (.slice A2 n2 c2) := row_cell r2' 0
        by_cases hgo2 : k < n2 ∨ 0 < c
        · have hk2 : k ≤ n2 := by omega
          obtain ⟨g, rfl, hg, hcell⟩ := (hN1.stay hB').2 (by omega)
          have hci := hcell i hgo
          have hA' : ∀ nq, NatV (wr.drewN nq) A2 n2 b := fun nq => (hN2.stay hB').drewN nq
          have b1 := dgt_lt a i
          have b2 := dgt_lt b k
          have b3 := low_getD hl'.out.2.1 (i + k)
          have b4 := pq_le b1 b2
          have hlen : i + k < l'.length := by have := hl'.out.1; omega
          have hck : wr.cell? ⟨w.heap.size + 3, i + k, none⟩ = some (.int .i64 ((l'.getD (i + k) 0 : Nat) : Int)) := (row_cell r4' _).trans (rowI_get l' (i + k) hlen)
          have hfk : wr.frozen? ⟨w.heap.size + 3, i + k, none⟩ = false := row_frozen r4' _
          generalize hx : l'.getD (i + k) 0 = x at *
          have HX := Lib.hid hx
          clear hx hcell
          obtain ⟨p, hp⟩ : ∃ p, p = dgt a i * dgt b k := ⟨_, rfl⟩
          rw [← hp] at b4
          have e0 : IntKind.i64.wrap ((i : Int) + (k : Int)) = (i : Int) + (k : Int) := IntWalk.i64_in _ (by omega)
          have e1 : IntKind.i64.wrap ((dgt a i : Int) * (dgt b k : Int)) = (p : Int) := by
            rw [hp, Int.natCast_mul]; exact IntWalk.i64_in _ (by rw [← Int.natCast_mul, ← hp]; omega)
          have HP := Lib.hid hp
          clear hp
          have e2 : IntKind.i64.wrap ((x : Int) + (p : Int)) = (x : Int) + (p : Int) := IntWalk.i64_in _ (by omega)
          have e3 : IntKind.i64.wrap ((x : Int) + (p : Int) + (c : Int)) = (x : Int) + (p : Int) + (c : Int) := IntWalk.i64_in _ (by omega)
          have e4 : ((i : Int) + (k : Int)).toNat = i + k := by omega
          have f1 : (i : Int) < (n1 : Int) := by omega
          have f2 : (i : Int) + (k : Int) < ((n1 + n2 + 1 : Nat) : Int) := by omega
          have f3 : 0 ≤ (i : Int) + (k : Int) := by omega
          have f4 : (i : Int) + (k : Int) < (n1 : Int) + (n2 : Int) + 1 := by omega
          clear hN1 hN2
          by_cases hk3 : k < n2
          all_goals
            go_wp2_with fail
            go_quiet ((go_at_call 160; exact Calls.quiet_of_same (at_dg _ _ _ _ k _ (hA' _) (by omega) (by omega))))
            clear e0 e1 e2 e3
            go_wp2_with fail
            have hzz : ((x : Int) + (p : Int) + (c : Int)) % 10 = (((x + p + c) % 10 : Nat) : Int) := by omega
            have s4 : row ((wr.drewN nq).setCell ⟨w.heap.size + 3, i + k, none⟩ (.int .i64 (((x : Int) + (p : Int) + (c : Int)) % 10))) (w.heap.size + 3) = some (rowI (l'.set (i + k) ((x + p + c) % 10))) := by
              rw [hzz]
              exact (row_set (w := wr.drewN nq) r4' (i + k) _).trans (congrArg some (rowI_set _ _ _))
            refine ⟨⟨k + 1, (x + p + c) / 10, l'.set (i + k) ((x + p + c) % 10), by go_num, congrArg (Value.int IntKind.i64) (by omega), by omega, by omega, ?_, Lib.hid ⟨by simp [hl'.out.1], low_set hl'.out.2.1 (by omega), ?_, ?_⟩, ?_, ?_, ?_, ?_, s4⟩, by simp [intOf]; omega⟩
            · intro hn
              have hb0 : dgt b k = 0 := dgt_of_len (by have := L2.out; omega)
              have hp0 := HP.out
              rw [hb0] at hp0
              have hx0 := hl'.out.2.2.2 (i + k) (Nat.le_refl _)
              rw [dgt_mul_high (n2 := n2) L2.out.symm (by omega), HX.out] at hx0
              simp at hp0
              omega
            · exact mul_step (x := x) (c := c) (p := dgt a i) (q := dgt b k) (s := x + p + c) (by rw [HP.out]) (by have := val_set l' (i + k) ((x + p + c) % 10) hlen; rw [HX.out] at this; exact this) (b % 10 ^ k) (b % 10 ^ (k + 1)) (mod_pow_succ b k) hl'.out.2.2.1
            · intro j hj
              rw [← hl'.out.2.2.2 j (by omega)]
              simp [List.getD_eq_getElem?_getD, List.getElem?_set_ne (show i + k ≠ j by omega)]
            · exact Below.setCell (below_drewN hB' nq) (p := ⟨w.heap.size + 3, i + k, none⟩) (by show w.heap.size ≤ w.heap.size + 3; omega) _
            · exact (row_far (wr.drewN nq) ⟨w.heap.size + 3, i + k, none⟩ _ _ (by show w.heap.size ≠ w.heap.size + 3; omega)).trans r1'
            · exact (row_far (wr.drewN nq) ⟨w.heap.size + 3, i + k, none⟩ _ _ (by show w.heap.size + 1 ≠ w.heap.size + 3; omega)).trans r2'
            · exact (row_far (wr.drewN nq) ⟨w.heap.size + 3, i + k, none⟩ _ _ (by show w.heap.size + 2 ≠ w.heap.size + 3; omega)).trans r3'
        · obtain rfl : c = 0 := by omega
          have hk3 : ¬ k < n2 := by omega
          go_wp2_with fail
          refine ⟨⟨i + 1, l', by go_num, by omega, Lib.hid ⟨hl'.out.1, hl'.out.2.1, ?_⟩, hB', r1', r2', r3', r4'⟩, by simp [intOf]; omega⟩
          have h0 := hl'.out.2.2.1
          rw [mod_of_len (n := b) (i := k) (by have := L2.out; omega), Nat.zero_mul, Nat.add_zero, mul_round] at h0
          exact h0
    · obtain rfl : i = n1 := by omega
      have hv : val l = a * b := by
        have := hl.out.2.2
        rw [mod_of_len (n := a) (i := i) (by have := L1.out; omega)] at this
        exact this
      have hI := rowI_ints r4
      have hlen := hl.out.1
      rw [hlen] at hI
      go_wp2_with fail
      refine (trim_any (some ⟨w.heap.size + 3, 0, none⟩) l (i + n2 + 1) (i + n2 + 1) _ hl.out.2.1 hlen hI (Nat.le_refl _) (by omega)).mono ?_
      rw [hv]
      rintro e w2 ⟨rfl, hb2, hN⟩
      have r3' := (row_below hb2 (g := w.heap.size + 2) (by omega)).trans r3
      have hz2 := row_lt r3'
      have q3 : w2.cell? ⟨w.heap.size + 2, 0, none⟩ = some (.slice none 0 0) := row_cell r3' 0
      have q4 : w2.frozen? ⟨w.heap.size + 2, 0, none⟩ = false := row_frozen r3' 0
      have HF := Lib.hid (hN.far (B := w.heap.size + 3) (by rintro x hx; cases hx; exact Nat.le_refl _) (p := ⟨w.heap.size + 2, 0, none⟩) (by simp) (.slice (some ⟨w.heap.size + 3, 0, none⟩) (dg (a * b)).length (i + n2 + 1)))
      clear hN hI q1 r1 r2 r3 r3' r4 hgo hv hlen
      go_wp2_with fail
      refine bodyPost_ret (v := .agg #[.slice (some ⟨w.heap.size + 3, 0, none⟩) (dg (a * b)).length (i + n2 + 1)]) (by simp [results, Try.results143, go_sem, q3]) rfl ⟨_, _, rfl, HF.out, ?_, fun x hx => by cases hx; show w.heap.size ≤ w.heap.size + 3; omega⟩
      exact (Below.then hB hb2).setCell (p := ⟨w.heap.size + 2, 0, none⟩) (by show w.heap.size ≤ w.heap.size + 2; omega) _
end Go.Proofs.Ytnakkjgnjffkpaa

/-
  The whole root: package root's function, and bullionref03's.
-/
import Derived.Test.YtkfbnaafpikgfaaRef01f
import Derived.Test.YtkfbnaafpikgfaaBits
import Derived.WalkMore
import Derived.Deep.LoopGhost
namespace Go.Proofs.Ytkfbnaafpikgfaa
open Go.RowKit
set_option linter.unusedVariables false

def rootN : Nat → Nat
  | 0 => 0
  | n + 1 => if (rootN n + 1) * (rootN n + 1) ≤ n + 1 then rootN n + 1 else rootN n
theorem sq_succ (r : Nat) : (r + 1) * (r + 1) = r * r + 2 * r + 1 := by rw [Nat.add_mul, Nat.mul_add]; omega
theorem rootN_spec (n : Nat) : rootN n * rootN n ≤ n ∧ n < (rootN n + 1) * (rootN n + 1) := by
  induction n with
  | zero => simp [rootN]
  | succ n ih =>
    simp only [rootN]
    split
    · rename_i h
      refine ⟨h, ?_⟩
      have h1 := sq_succ (rootN n)
      have h2 := sq_succ (rootN n + 1)
      omega
    · rename_i h
      omega
theorem sq_le {a b : Nat} (h : a ≤ b) : a * a ≤ b * b := Nat.mul_le_mul h h
theorem root_unique {n r : Nat} (h1 : r * r ≤ n) (h2 : n < (r + 1) * (r + 1)) : rootN n = r := by
  obtain ⟨g1, g2⟩ := rootN_spec n
  rcases Nat.lt_trichotomy (rootN n) r with h | h | h
  · have := sq_le (show rootN n + 1 ≤ r from h); omega
  · exact h
  · have := sq_le (show r + 1 ≤ rootN n from h); omega
theorem root_lt {n : Nat} (h : n < 18446744073709551616) : rootN n < 4294967296 := by
  rcases Nat.lt_or_ge (rootN n) 4294967296 with hl | hg
  · exact hl
  · have := sq_le hg
    have := (rootN_spec n).1
    omega
theorem root_pos {n : Nat} (h : 0 < n) : 0 < rootN n := by
  rcases Nat.eq_zero_or_pos (rootN n) with hz | hp
  · have := (rootN_spec n).2
    rw [hz] at this
    omega
  · exact hp
/-- r is the root as far as the bits from b on are settled. -/
def RootInv (n r b : Nat) : Prop := r * r ≤ n ∧ r + 2 * b ≤ 4294967296 ∧ n < (r + max (2 * b) 1) * (r + max (2 * b) 1) ∧ (b = 0 ∨ ∃ k, b = 2 ^ k)
theorem rootInv_start {n : Nat} (hn : n < 18446744073709551616) : RootInv n 0 2147483648 := ⟨by omega, by omega, by show n < (0 + max (2 * 2147483648) 1) * (0 + max (2 * 2147483648) 1); rw [show 0 + max (2 * 2147483648) 1 = 4294967296 from rfl]; omega, .inr ⟨31, rfl⟩⟩
theorem half_pow {b : Nat} (h : ∃ k, b = 2 ^ k) : (b = 1 ∧ b / 2 = 0) ∨ (b = 2 * (b / 2) ∧ ∃ k, b / 2 = 2 ^ k) := by
  obtain ⟨k, rfl⟩ := h
  cases k with
  | zero => exact .inl ⟨rfl, rfl⟩
  | succ k =>
    have : 2 ^ (k + 1) / 2 = 2 ^ k := by rw [Nat.pow_succ]; omega
    rw [this]
    exact .inr ⟨by rw [Nat.pow_succ]; omega, k, rfl⟩
theorem rootInv_step {n r b : Nat} (h : RootInv n r b) (hb : 0 < b) : RootInv n (if (r + b) * (r + b) ≤ n then r + b else r) (b / 2) := by
  obtain ⟨h1, h2, h3, h4⟩ := h
  rw [show max (2 * b) 1 = 2 * b by omega] at h3
  have hp : ∃ k, b = 2 ^ k := by rcases h4 with h | h; omega; exact h
  have key : ∀ r', (r' + b) * (r' + b) ≤ n ∨ n < (r' + b) * (r' + b) → True := fun _ _ => trivial
  have hr : ∃ r', r' = (if (r + b) * (r + b) ≤ n then r + b else r) ∧ r' * r' ≤ n ∧ r' + b ≤ 4294967296 ∧ n < (r' + b) * (r' + b) := by
    by_cases hc : (r + b) * (r + b) ≤ n
    · exact ⟨r + b, by rw [if_pos hc], hc, by omega, by rw [show r + b + b = r + 2 * b by omega]; exact h3⟩
    · exact ⟨r, by rw [if_neg hc], h1, by omega, by omega⟩
  obtain ⟨r', he, g1, g2, g3⟩ := hr
  rw [← he]
  rcases half_pow hp with ⟨e1, e2⟩ | ⟨e1, e2⟩
  · rw [e2]
    rw [e1] at g3
    exact ⟨g1, by omega, by rw [show max (2 * 0) 1 = 1 from rfl]; exact g3, .inl rfl⟩
  · exact ⟨g1, by omega, by rw [show max (2 * (b / 2)) 1 = b by omega]; exact g3, .inr e2⟩
theorem rootInv_end {n r : Nat} (h : RootInv n r 0) : rootN n = r := root_unique h.1 h.2.2.1
set_option maxHeartbeats 2000000 in
theorem root_any (n : Nat) (hn : n < 18446744073709551616) (w : World) : Calls Try.prog 42 #[.int .u64 n] w fun e w' => e = .returned (.int .u64 ((rootN n : Nat) : Int)) ∧ w = w' := by
  have HS := Lib.hid (rootInv_start hn)
  go_enter Try.func42, Try.ntmps42
  go_wp2_with fail
  go_step3
  go_wp2_with fail
  go_step3
  go_wp2_with fail
  go_loop [3, 4] (fun x y => ∃ r b : Nat, x = .int .u64 r ∧ y = .int .u64 b ∧ b ≤ 2147483648 ∧ Hid (RootInv n r b)) (fun _ y => (intOf y).toNat)
  case atStart => exact ⟨0, 2147483648, rfl, rfl, by omega, HS⟩
  case round =>
    obtain ⟨r, b, rfl, rfl, hb, hI⟩ := hrel
    clear HS
    by_cases h0 : b = 0
    · subst h0
      have HE := Lib.hid (rootInv_end hI.out)
      go_wp2_with fail
      go_ret
      exact ⟨by rw [HE.out]; rfl, rfl⟩
    · have hz : ((b : Int) == 0) = false := beq_eq_false_iff_ne.2 (by omega)
      have HN := Lib.hid (rootInv_step hI.out (by omega))
      obtain ⟨t, ht⟩ : ∃ t, t = r + b := ⟨_, rfl⟩
      have hr2 := hI.out.2.1
      have htt : t * t ≤ 4294967295 * 4294967295 := sq_le (by omega)
      obtain ⟨T, hT⟩ : ∃ T, T = t * t := ⟨_, rfl⟩
      have E1 : IntKind.u64.wrap ((r : Int) + (b : Int)) = (t : Int) := by rw [show (r : Int) + (b : Int) = ((t : Nat) : Int) by omega]; exact Bits.wrapN _ (by omega)
      have E2 : IntKind.u64.wrap ((t : Int) * (t : Int)) = (T : Int) := by rw [← Int.natCast_mul, ← hT]; exact Bits.wrapN _ (by omega)
      rw [← ht, ← hT] at HN
      clear ht htt hT hr2 hI
      by_cases hc : T ≤ n
      all_goals
        first | rw [if_pos hc] at HN | rw [if_neg hc] at HN | fail
        go_wp2_with fail
        exact ⟨⟨_, b / 2, rfl, by rw [show ((b / 2 : Nat) : Int) = (b : Int) / 2 by omega], by omega, HN⟩, by simp [intOf]; omega⟩
theorem below_cell0 {w w1 : World} (h : Below w.heap.size w w1) (v : Value) : Below w.heap.size w (w1.setCell ⟨w.heap.size, 0, none⟩ v) := Below.setCell (p := ⟨w.heap.size, 0, none⟩) h (Nat.le_refl _) v
theorem natb_under : Try.prog.underlying 94 = some (.struct (Try.prog.fieldsOf 94)) := by kernel_rfl
theorem natb_info : (Try.prog.info? 94).map (·.size) = some 1 := by kernel_rfl
set_option maxHeartbeats 1000000 in
theorem square_any (n : Nat) (hn : n < 18446744073709551616) (w : World) : Calls Try.prog 78 #[.int .u64 n] w (RetNat w (n * n)) := by
  have hl := len_u64 hn
  go_enter Try.func78, Try.ntmps78
  go_wp2_with fail
  refine (ofn_any n hn _).mono ?_
  rintro e w1 ⟨A1, x1, rfl, hN1, hb1, _⟩
  have r0 : row (w.alloc (.cells #[.slice none 0 0] 94)) w.heap.size = some #[.slice none 0 0] := (by (repeat (first | assumption | (refine row_at _ _ _ _ ?_; first | rfl | (simp only [World.size_alloc]; done) | (simp only [World.size_alloc]; omega)) | (refine (row_past _ _ _ ?_).trans ?_; (focus (first | exact Nat.lt_succ_self _ | ((repeat rw [World.size_alloc]); omega) | (simp; done) | (simp; omega) | omega))) | rw [row_drewN] | rw [row_drew])); (first | done | fail))
  have hB0 : Below w.heap.size w (w.alloc (.cells #[.slice none 0 0] 94)) := (by (repeat (first | exact Below.refl _ _ | assumption | (refine Below.allocT ?_ _) | refine Below.drew ?_ | refine below_drewN ?_ _ | (refine Below.then ?_ (by assumption)) | (refine Below.setRow ?_ ?_ _; rotate_left; (focus (first | exact Nat.lt_succ_self _ | ((repeat rw [World.size_alloc]); omega) | (simp; done) | (simp; omega) | omega))) | (refine Below.setCell ?_ ?_ _; rotate_left; (focus (first | exact Nat.lt_succ_self _ | ((repeat rw [World.size_alloc]); omega) | (simp; done) | (simp; omega) | omega))) | (refine Below.then' ?_ (by assumption) ?_; rotate_left; (focus (first | exact Nat.lt_succ_self _ | ((repeat rw [World.size_alloc]); omega) | (simp; done) | (simp; omega) | omega))) | fail)); (first | done | fail))
  have r1 := (row_below hb1 (row_lt r0)).trans r0
  have hB1 := hB0.trans (hb1.mono (by simp))
  have z1 := row_lt r1
  clear r0 hB0
  go_wp2_with fail
  refine (ofn_any n hn _).mono ?_
  rintro e w2 ⟨A2, x2, rfl, hN2, hb2, _⟩
  have r2 := (row_below hb2 z1).trans r1
  have hB2 := Below.then hB1 hb2
  have z2 := row_lt r2
  have hN1' := hN1.stay hb2
  clear r1 hB1 hb1 hb2 hN1
  go_wp2_with fail
  refine (muln_any A1 A2 _ x1 _ x2 n n _ hN1' hN2 (by omega) (by omega)).mono ?_
  rintro e w3 ⟨A3, x3, rfl, hN3, hb3, hh3⟩
  have r3 := (row_below hb3 z2).trans r2
  have hB3 := Below.then hB2 hb3
  have q3 : w3.cell? ⟨w.heap.size, 0, none⟩ = some (.slice none 0 0) := row_cell r3 0
  have f3 : w3.frozen? ⟨w.heap.size, 0, none⟩ = false := row_frozen r3 0
  have hNF := Lib.hid (hN3.far (B := w2.heap.size) hh3 (p := ⟨w.heap.size, 0, none⟩) z2 (.slice A3 (dg (n * n)).length x3))
  have HH : Hid (∀ x, A3 = some x → w.heap.size ≤ x.block) := Lib.hid fun x h => by have := hh3 x h; omega
  have R4 := Lib.hid (row_set r3 0 (.slice A3 (dg (n * n)).length x3))
  clear hN3 hh3 hb3 hN1' hN2 r2 r3 z1 z2
  go_wp2_with fail
  obtain ⟨t, ht⟩ := row_heap R4.out
  exact bodyPost_ret (v := .agg #[.slice A3 (dg (n * n)).length x3]) (results_cell_row Try.results78 _ _ w.heap.size t _ (0, 0) _ rfl ht natb_under rfl natb_info) rfl ⟨A3, x3, rfl, hNF.out, below_cell0 hB3 _, HH.out⟩
theorem cmp_le0 {x y : Nat} (h : x ≤ y) : cmpI x y ≤ 0 := by unfold cmpI; split <;> (try split) <;> omega
theorem cmp_gt0 {x y : Nat} (h : ¬ x ≤ y) : 0 < cmpI x y := by unfold cmpI; rw [if_neg (by omega), if_pos (by omega)]; omega
set_option maxHeartbeats 2000000 in
set_option maxRecDepth 100000 in
theorem rroot_any (n : Nat) (hn : n < 18446744073709551616) (w : World) : Calls Try.prog 49 #[.int .u64 n] w fun e w' => e = .returned (.int .u64 ((rootN n : Nat) : Int)) ∧ Below w.heap.size w w' := by
  have hln := len_u64 hn
  have hroot := Lib.hid (rootN_spec n)
  go_enter Try.func49, Try.ntmps49
  go_wp2_with fail
  go_loopw [3, 4] (fun x y wr => ∃ l h : Nat, x = .int .u64 l ∧ y = .int .u64 h ∧ l < h ∧ h ≤ 4294967296 ∧ Hid (l * l ≤ n ∧ n < h * h) ∧ Below w.heap.size w wr) (fun x y _ => (intOf y - intOf x).toNat)
  case atStart => exact ⟨0, 4294967296, rfl, rfl, by omega, by omega, Lib.hid ⟨by omega, by omega⟩, Below.refl _ _⟩
  case round =>
    obtain ⟨l, h, rfl, rfl, hlh, hh, hI, hB⟩ := hrel
    obtain ⟨d, hd⟩ : ∃ d, d = h - l := ⟨_, rfl⟩
    have E1 : IntKind.u64.wrap ((h : Int) - (l : Int)) = (d : Int) := by rw [show (h : Int) - (l : Int) = ((d : Nat) : Int) by omega]; exact Bits.wrapN _ (by omega)
    by_cases hgo : 1 < d
    · obtain ⟨d2, hd2⟩ : ∃ d2, d2 = d / 2 := ⟨_, rfl⟩
      obtain ⟨m, hm⟩ : ∃ m, m = l + d2 := ⟨_, rfl⟩
      have E3 : IntKind.u64.wrap ((d : Int) / 2) = (d2 : Int) := by rw [show (d : Int) / 2 = ((d2 : Nat) : Int) by omega]; exact Bits.wrapN _ (by omega)
      have E2 : IntKind.u64.wrap ((l : Int) + (d2 : Int)) = (m : Int) := by rw [show (l : Int) + (d2 : Int) = ((m : Nat) : Int) by omega]; exact Bits.wrapN _ (by omega)
      have hml : l < m ∧ m < h := by omega
      have hmm : m * m ≤ 4294967296 * 4294967296 := sq_le (by omega)
      have lmm := len_mul m m
      have lm := len_u64 (n := m) (by omega)
      have HSQ := Lib.hid (fun W => square_any m (by omega) W)
      have HD := Lib.hid hd
      have HM := Lib.hid hm
      clear hd hm hmm hd2
      by_cases hc : m * m ≤ n
      all_goals
        first | have hq := cmp_le0 hc | have hq := cmp_gt0 hc | fail
        have HQ := Lib.hid hc
        clear hc
        go_wp2_with fail
        refine (HSQ.out _).mono ?_
        rintro e w1 ⟨A1, x1, rfl, hN1, hb1, _⟩
        go_wp2_with fail
        refine (ofn_any n hn _).mono ?_
        rintro e w2 ⟨A2, x2, rfl, hN2, hb2, _⟩
        go_wp2_with fail
        refine (cmp_any A1 A2 _ x1 _ x2 (m * m) n _ (hN1.stay hb2) hN2 (by omega) (by omega)).mono ?_
        rintro e w3 ⟨rfl, hb3⟩
        have hBB : Below w.heap.size w w3 := hB.trans ((Below.then (Below.then hb1 hb2) hb3).mono hB.size)
        clear hN1 hN2 hb1 hb2 hb3 hB
        go_wp2_with fail
        first
          | exact ⟨⟨m, h, rfl, rfl, by omega, by omega, Lib.hid ⟨HQ.out, hI.out.2⟩, hBB⟩, by simp [intOf]; omega⟩
          | exact ⟨⟨l, m, rfl, rfl, by omega, by omega, Lib.hid ⟨hI.out.1, by have := HQ.out; omega⟩, hBB⟩, by simp [intOf]; omega⟩
          | fail
    · have HR : Hid (rootN n = l) := Lib.hid (root_unique hI.out.1 (by have := hI.out.2; rwa [show h = l + 1 by omega] at this))
      clear hd
      go_wp2_with fail
      go_ret
      exact ⟨by rw [HR.out]; rfl, hB⟩
end Go.Proofs.Ytkfbnaafpikgfaa

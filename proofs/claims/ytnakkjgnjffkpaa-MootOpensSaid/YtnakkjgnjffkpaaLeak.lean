/-
  How long a leak takes: plain arithmetic; what sort.Search answers of a function that says no up to a place and yes from there on.
-/
import Derived.Test.YtnakkjgnjffkpaaParam2
import Derived.Test.YtnakkjgnjffkpaaRatio
import Derived.Deep.LoopGhost
namespace Go.Proofs.Ytnakkjgnjffkpaa
open Go.RowKit
set_option linter.unusedVariables false

def leakN : Nat := 1048576
theorem leakN_eq : leakN = 1048576 := rfl
def leakF (K A : Nat) : Nat → Nat → Nat
  | 0, t => t
  | n + 1, t => if A ≤ K * (t * (t + 1)) then t else leakF K A n (t + 1)
theorem leakF_spec (K A : Nat) : ∀ n t, t ≤ leakF K A n t ∧ leakF K A n t ≤ t + n ∧ (∀ s, t ≤ s → s < leakF K A n t → K * (s * (s + 1)) < A) ∧ (leakF K A n t < t + n → A ≤ K * (leakF K A n t * (leakF K A n t + 1)))
  | 0, t => by
    simp only [leakF]
    exact ⟨Nat.le_refl _, by omega, fun s h1 h2 => by omega, fun h => by omega⟩
  | n + 1, t => by
    simp only [leakF]
    split
    · rename_i h
      exact ⟨Nat.le_refl _, by omega, fun s h1 h2 => by omega, fun _ => h⟩
    · rename_i h
      obtain ⟨h1, h2, h3, h4⟩ := leakF_spec K A n (t + 1)
      refine ⟨by omega, by omega, fun s h5 h6 => ?_, fun h5 => h4 (by omega)⟩
      by_cases hs : s = t
      · subst hs; omega
      · exact h3 s (by omega) h6
theorem leak_mono (K : Nat) {s t : Nat} (h : s ≤ t) : K * (s * (s + 1)) ≤ K * (t * (t + 1)) := Nat.mul_le_mul_left K (Nat.mul_le_mul h (by omega))
theorem leakF_unique {K A h : Nat} (h1 : 1 ≤ h) (h2 : h ≤ 1048577) (h3 : ∀ s, 1 ≤ s → s < h → K * (s * (s + 1)) < A) (h4 : h < 1048577 → A ≤ K * (h * (h + 1))) : h = leakF K A leakN 1 := by
  have en := leakN_eq
  obtain ⟨a1, a2, a3, a4⟩ := leakF_spec K A leakN 1
  generalize leakF K A leakN 1 = t at *
  rcases Nat.lt_trichotomy h t with hlt | he | hgt
  · have := a3 h h1 hlt
    have := h4 (by omega)
    omega
  · exact he
  · have := h3 t a1 hgt
    have := a4 (by omega)
    omega
def leakK (P : Par) : Nat := P.inc * P.bias
def leakA (P : Par) : Nat := 2 * P.quot * (P.cap - P.floor)
def leakT (P : Par) : Nat := leakF (leakK P) (leakA P) leakN 1
def leakP (K A : Nat) (i : Nat) : Bool := decide (A ≤ K * ((i + 1) * (i + 2)))
theorem leakT_le (P : Par) : 1 ≤ leakT P ∧ leakT P ≤ 1048577 := by
  have en := leakN_eq
  obtain ⟨a1, a2, _, _⟩ := leakF_spec (leakK P) (leakA P) leakN 1
  exact ⟨a1, by unfold leakT; omega⟩
theorem leakP_no (P : Par) (i : Nat) (h : i < leakT P - 1) : leakP (leakK P) (leakA P) i = false := by
  have en := leakN_eq
  obtain ⟨a1, a2, a3, a4⟩ := leakF_spec (leakK P) (leakA P) leakN 1
  have := a3 (i + 1) (by omega) (by unfold leakT at h; omega)
  simp only [leakP, decide_eq_false_iff_not]
  rw [show i + 1 + 1 = i + 2 from rfl] at this; omega
theorem leakP_yes (P : Par) (i : Nat) (h : leakT P - 1 ≤ i) (hi : i < 1048576) : leakP (leakK P) (leakA P) i = true := by
  have en := leakN_eq
  obtain ⟨a1, a2, a3, a4⟩ := leakF_spec (leakK P) (leakA P) leakN 1
  have h2 := leak_mono (leakK P) (s := leakT P) (t := i + 1) (by omega)
  have h3 : leakA P ≤ leakK P * (leakT P * (leakT P + 1)) := a4 (by unfold leakT at h; omega)
  simp only [leakP, decide_eq_true_eq]
  rw [show i + 1 + 1 = i + 2 from rfl] at h2; omega

set_option maxHeartbeats 2000000 in
set_option maxRecDepth 100000 in
theorem search_any (gb : Nat) (n : Nat) (p : Nat → Bool) (w : World) (hsz : n ≤ 1048576)
    (hf : ∀ (W : World) (i : Nat), Below w.heap.size w W → i < n → Calls Try.prog 158 #[.int .i64 i, .pointer (some ⟨gb, 0, none⟩)] W fun e w' => e = .returned (.bool (p i)) ∧ Below W.heap.size W w')
    (k : Nat) (hk : k ≤ n) (h1 : ∀ i, i < k → p i = false) (h2 : ∀ i, k ≤ i → i < n → p i = true) :
    Calls Try.prog 159 #[.int .i64 n, .func (.func 158) #[] #[.pointer (some ⟨gb, 0, none⟩)]] w fun e w' => e = .returned (.int .i64 k) ∧ Below w.heap.size w w' := by
  have HF := Lib.hid hf
  have H1 := Lib.hid h1
  have H2 := Lib.hid h2
  clear hf h1 h2
  go_enter Try.func159, Try.ntmps159
  go_wp2
  go_loopg [5, 6] n (fun kx s5 s6 wr => ∃ (lo hi : Nat), s5 = .int .i64 lo ∧ s6 = .int .i64 hi ∧ lo ≤ k ∧ k ≤ hi ∧ hi ≤ n ∧ hi - lo ≤ kx ∧ Below w.heap.size w wr)
  case atStart => exact ⟨0, n, rfl, rfl, Nat.zero_le _, hk, Nat.le_refl _, by omega, Below.refl _ _⟩
  case round =>
    obtain ⟨lo, hi, rfl, rfl, hlk, hkh, hin, hg, hB⟩ := hrel
    by_cases hlt : lo < hi
    · have hc := HF.out wr ((lo + hi) / 2) hB (by omega)
      rw [show (((lo + hi) / 2 : Nat) : Int) = ((lo : Int) + (hi : Int)) / 2 by omega] at hc
      by_cases hm : (lo + hi) / 2 < k
      · rw [H1.out _ hm] at hc
        go_wp2_with (go_at_call 158; refine hc.mono ?_; rintro e w' ⟨rfl, hb'⟩)
        go_roundg (hi - ((lo + hi) / 2 + 1))
        case measure => omega
        case rel => exact ⟨(lo + hi) / 2 + 1, hi, by rw [show ((lo : Int) + (hi : Int)) / 2 + 1 = (((lo + hi) / 2 + 1 : Nat) : Int) by omega], rfl, by omega, hkh, hin, Nat.le_refl _, Below.then hB hb'⟩
      · rw [H2.out _ (by omega) (by omega)] at hc
        go_wp2_with (go_at_call 158; refine hc.mono ?_; rintro e w' ⟨rfl, hb'⟩)
        go_roundg ((lo + hi) / 2 - lo)
        case measure => omega
        case rel => exact ⟨lo, (lo + hi) / 2, rfl, by rw [show ((lo : Int) + (hi : Int)) / 2 = (((lo + hi) / 2 : Nat) : Int) by omega], hlk, by omega, by omega, Nat.le_refl _, Below.then hB hb'⟩
    · obtain rfl : hi = k := by omega
      obtain rfl : lo = hi := by omega
      go_wp2
      go_ret
      exact ⟨rfl, hB⟩
/-- What of parameters bounds the leak's numbers. -/
def LeakOk (P : Par) : Prop := 1 ≤ P.inc ∧ P.inc ≤ 2147483648 ∧ 1 ≤ P.bias ∧ P.bias ≤ 4294967296 ∧ 1 ≤ P.quot ∧ P.quot ≤ 1099511627776 ∧ P.floor < P.cap ∧ P.cap ≤ 1099511627776
set_option maxHeartbeats 1000000 in
theorem leak1_any (P : Par) (hP : LeakOk P) (i g : Nat) (hi : i < 1048576) (w : World) (hr : row w g = some P.cells) :
    Calls Try.prog 158 #[.int .i64 i, .pointer (some ⟨g, 0, none⟩)] w fun e w' => e = .returned (.bool (leakP (leakK P) (leakA P) i)) ∧ Below w.heap.size w w' := by
  obtain ⟨h1, h2, h3, h4, h5, h6, h7, h8⟩ := hP
  have c0 : w.cell? ⟨g, 0, none⟩ = some (.int .u64 P.inc) := row_cell hr 0
  have c2 : w.cell? ⟨g, 2, none⟩ = some (.int .u64 P.floor) := row_cell hr 2
  have c3 : w.cell? ⟨g, 3, none⟩ = some (.int .u64 P.cap) := row_cell hr 3
  have c6 : w.cell? ⟨g, 6, none⟩ = some (.int .u64 P.bias) := row_cell hr 6
  have c7 : w.cell? ⟨g, 7, none⟩ = some (.int .u64 P.quot) := row_cell hr 7
  have hK : P.inc * P.bias ≤ 2147483648 * 4294967296 := Nat.mul_le_mul h2 h4
  obtain ⟨K, hKd⟩ : ∃ K, K = P.inc * P.bias := ⟨_, rfl⟩
  obtain ⟨T, hT⟩ : ∃ T, T = (i + 1) * (i + 2) := ⟨_, rfl⟩
  obtain ⟨Q, hQ⟩ : ∃ Q, Q = 2 * P.quot := ⟨_, rfl⟩
  obtain ⟨D, hD⟩ : ∃ D, D = P.cap - P.floor := ⟨_, rfl⟩
  have hTl : T ≤ 1048576 * 1048577 := by rw [hT]; exact Nat.mul_le_mul (by omega) (by omega)
  have F1 : IntKind.u64.wrap ((P.inc : Int) * (P.bias : Int)) = (K : Int) := by
    rw [hKd, ← Int.natCast_mul]; exact Bits.wrapN _ (by omega)
  have F2 : IntKind.u64.wrap (((i : Int) + 1) * ((i : Int) + 1 + 1)) = (T : Int) := by
    rw [show ((i : Int) + 1) * ((i : Int) + 1 + 1) = ((T : Nat) : Int) by rw [hT, Int.natCast_mul]; rfl]
    exact Bits.wrapN _ (by omega)
  have F3 : IntKind.u64.wrap (2 * (P.quot : Int)) = (Q : Int) := by
    rw [show (2 * (P.quot : Int)) = ((Q : Nat) : Int) by omega]; exact Bits.wrapN _ (by omega)
  have F3' : 2 * (P.quot : Int) = (Q : Int) := by omega
  have F4 : IntKind.u64.wrap ((P.cap : Int) - (P.floor : Int)) = (D : Int) := by
    rw [show ((P.cap : Int) - (P.floor : Int)) = ((D : Nat) : Int) by omega]; exact Bits.wrapN _ (by omega)
  have F4' : (P.cap : Int) - (P.floor : Int) = (D : Int) := by omega
  have HE : Hid (leakP (leakK P) (leakA P) i = !(lessB K T Q D)) := Lib.hid (by
    unfold leakP leakK leakA lessB
    rw [hKd, hT, hQ, hD, Bool.eq_iff_iff]; simp)
  have HL := Lib.hid (fun W => less_any K T Q D (by omega) (by omega) (by omega) (by omega) W)
  have HB := Lib.hid (And.intro hKd (And.intro hT (And.intro hQ hD)))
  clear hKd hT hQ hD hK
  generalize lessB K T Q D = b at *
  cases b
  all_goals
    go_enter Try.func158, Try.ntmps158
    go_wp2_with fail
    refine (HL.out _).mono ?_
    rintro e w1 ⟨rfl, hb1⟩
    go_wp2_with fail
    go_ret
    exact ⟨ret_bool (by rw [HE.out]; rfl), (by (repeat (first | exact Below.refl _ _ | assumption | (refine Below.allocT ?_ _) | refine Below.drew ?_ | refine below_drewN ?_ _ | (refine Below.then ?_ (by assumption)) | (refine Below.setRow ?_ ?_ _; rotate_left; (focus (first | exact Nat.lt_succ_self _ | ((repeat rw [World.size_alloc]); omega) | (simp; done) | (simp; omega) | omega))) | (refine Below.setCell ?_ ?_ _; rotate_left; (focus (first | exact Nat.lt_succ_self _ | ((repeat rw [World.size_alloc]); omega) | (simp; done) | (simp; omega) | omega))) | (refine Below.then' ?_ (by assumption) ?_; rotate_left; (focus (first | exact Nat.lt_succ_self _ | ((repeat rw [World.size_alloc]); omega) | (simp; done) | (simp; omega) | omega))) | fail)); (first | done | fail))⟩
set_option maxHeartbeats 1000000 in
theorem leak_any (P : Par) (hP : LeakOk P) (w : World) :
    Calls Try.prog 131 #[.agg P.cells] w fun e w' => e = .returned (.int .i64 ((leakT P : Nat) : Int)) ∧ Below w.heap.size w w' := by
  have hmf : ∀ (fn : Fn) (first cap : Array Value) (w : World), (Instr.makeFunc fn first cap).run Try.prog w = .ok (.func fn first cap) w := fun _ _ _ _ => rfl
  have r1 : row (w.alloc (.cells P.cells 76)) w.heap.size = some P.cells := (by (repeat (first | assumption | (refine row_at _ _ _ _ ?_; first | rfl | (simp only [World.size_alloc]; done) | (simp only [World.size_alloc]; omega)) | (refine (row_past _ _ _ ?_).trans ?_; (focus (first | exact Nat.lt_succ_self _ | ((repeat rw [World.size_alloc]); omega) | (simp; done) | (simp; omega) | omega))) | rw [row_drewN] | rw [row_drew])); (first | done | fail))
  have hl := leakT_le P
  have HS := Lib.hid (search_any w.heap.size 1048576 (leakP (leakK P) (leakA P)) (w.alloc (.cells P.cells 76)) (by omega)
    (fun W i hb hi => leak1_any P hP i w.heap.size hi W ((row_below hb (by simp)).trans r1)) (leakT P - 1) (by omega) (fun i h => leakP_no P i h) (fun i h hi => leakP_yes P i h hi))
  go_enter Try.func131, Try.ntmps131
  go_wp2_with fail
  refine HS.out.mono ?_
  rintro e w1 ⟨rfl, hb1⟩
  go_wp2_with fail
  go_ret
  exact ⟨ret_int (by omega), (by (repeat (first | exact Below.refl _ _ | assumption | (refine Below.allocT ?_ _) | refine Below.drew ?_ | refine below_drewN ?_ _ | (refine Below.then ?_ (by assumption)) | (refine Below.setRow ?_ ?_ _; rotate_left; (focus (first | exact Nat.lt_succ_self _ | ((repeat rw [World.size_alloc]); omega) | (simp; done) | (simp; omega) | omega))) | (refine Below.setCell ?_ ?_ _; rotate_left; (focus (first | exact Nat.lt_succ_self _ | ((repeat rw [World.size_alloc]); omega) | (simp; done) | (simp; omega) | omega))) | (refine Below.then' ?_ (by assumption) ?_; rotate_left; (focus (first | exact Nat.lt_succ_self _ | ((repeat rw [World.size_alloc]); omega) | (simp; done) | (simp; omega) | omega))) | fail)); (first | done | fail))⟩
end Go.Proofs.Ytnakkjgnjffkpaa

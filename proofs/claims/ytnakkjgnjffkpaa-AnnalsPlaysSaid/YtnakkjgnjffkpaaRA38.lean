/-
  The reference's annals: First, Find, Part.
-/
import Derived.Test.YtnakkjgnjffkpaaR38b
import Derived.Test.YtnakkjgnjffkpaaLaw38
namespace Go.Proofs.Ytnakkjgnjffkpaa
open Go.RowKit
set_option linter.unusedVariables false
set_option linter.unusedSimpArgs false

def rfC (most : Nat) (v : Value) : Array Value := #[.int .i64 (most : Int), v]
/-- The reference's annals in memory. -/
structure RfA (W : World) (gw most : Nat) (A : Option Addr) (c : Nat) (xs : List (Rep × RepA)) : Prop where
  row : row W gw = some (rfC most (.slice A xs.length c))
  list : SliceOf 14 repC W A xs
  ok : ∀ x ∈ xs, x.1.Ok
  right : ∀ x ∈ xs, rightA x.1 = true
  reps : ∀ x ∈ xs, RepAt W x
  len : xs.length ≤ 300
  cap : xs.length ≤ c
  ap : ∀ x ∈ xs, ∀ k, RepB x k → k ≠ gw
  al : xs ≠ [] → ∀ x, A = some x → x.block ≠ gw
  top : most ≤ 64
theorem RfA.stay {W W' : World} {gw most : Nat} {A : Option Addr} {c : Nat} {xs : List (Rep × RepA)} (h : RfA W gw most A c xs) (hb : Below W.heap.size W W') : RfA W' gw most A c xs :=
  ⟨(row_below hb (row_lt h.row)).trans h.row, h.list.below hb (Nat.le_refl _), h.ok, h.right, fun x hx => (h.reps x hx).stay hb, h.len, h.cap, h.ap, h.al, h.top⟩
theorem rfirst_any (gw most : Nat) (A : Option Addr) (c : Nat) (xs : List (Rep × RepA)) (W : World) (h : RfA W gw most A c xs) :
    Calls Try.prog 60 #[.pointer (some ⟨gw, 0, none⟩)] W fun e W' => e = .returned (.int .i64 ((xs.length - most : Nat) : Int)) ∧ Below W.heap.size W W' := by
  have k0 : W.cell? ⟨gw, 0, none⟩ = some (.int .i64 (most : Int)) := row_cell h.row 0
  have k1 : W.cell? ⟨gw, 1, none⟩ = some (.slice A xs.length c) := row_cell h.row 1
  have hl := h.len
  have ht := h.top
  have zz : IntKind.i64.wrap ((xs.length : Int) - (most : Int)) = (xs.length : Int) - (most : Int) := by rw [IntKind.wrap_i64]; omega
  clear h
  generalize xs.length = n at *
  have hmx : Hid (∀ z : Int, (z = (n : Int) - (most : Int) ∧ most ≤ n) ∨ (z = 0 ∧ n ≤ most) → z = ((n - most : Nat) : Int)) := Lib.hid fun z hz => by omega
  by_cases hle : n ≤ most
  · have t1 : (n : Int) - (most : Int) ≤ 0 := by omega
    go_enter Try.func60, Try.ntmps60
    go_upto_region 1 with fail
    go_quiet (fail)
    go_wp2_with fail
    all_goals
      go_ret
      exact ⟨congrArg (fun z : Int => Ending.returned (Value.int .i64 z)) (hmx.out 0 (.inr ⟨rfl, hle⟩)), below_drewN (Below.refl _ _) _⟩
  · have t1 : (0 : Int) < (n : Int) - (most : Int) := by omega
    go_enter Try.func60, Try.ntmps60
    go_upto_region 1 with fail
    go_quiet (fail)
    go_wp2_with fail
    all_goals
      go_ret
      exact ⟨congrArg (fun z : Int => Ending.returned (Value.int .i64 z)) (hmx.out _ (.inl ⟨rfl, by omega⟩)), below_drewN (Below.refl _ _) _⟩
/-- Where Find finds. -/
def rfndI (most : Nat) (L : List Rep) (ep : Int) : Int := match fndR ep (L.drop (L.length - most)) with
  | some k => ((L.length - most + k : Nat) : Int)
  | none => -1
theorem fndR_at' {ep : Int} : ∀ (l : List Rep) (j : Nat) (x : Rep), (∀ k, k < j → ∀ y : Rep, l[k]? = some y → y.epoch ≠ ep) → l[j]? = some x → x.epoch = ep → fndR ep l = some j
  | [], j, x, _, h, _ => by simp at h
  | y :: r, 0, x, _, h, he => by simp at h; subst h; simp [fndR, he]
  | y :: r, j + 1, x, ha, h, he => by
    have h0 : y.epoch ≠ ep := ha 0 (by omega) y rfl
    have := fndR_at' r j x (fun k hk z hz => ha (k + 1) (by omega) z (by simpa using hz)) (by simpa using h) he
    simp [fndR, h0, this]
theorem fndR_none' {ep : Int} : ∀ (l : List Rep), (∀ (k : Nat) (y : Rep), l[k]? = some y → y.epoch ≠ ep) → fndR ep l = none
  | [], _ => rfl
  | y :: r, ha => by
    have h0 : y.epoch ≠ ep := ha 0 y rfl
    simp [fndR, h0, fndR_none' r (fun k z hz => ha (k + 1) z (by simpa using hz))]
theorem rfnd_at {most n f j : Nat} {xs : List (Rep × RepA)} {x : Rep × RepA} {ep : Int} (hn : n = xs.length) (hf : f = xs.length - most) (hfj : f ≤ j) (hx : xs[j]? = some x) (he : x.1.epoch = ep) (hI : ∀ k, f ≤ k → k < j → ∀ x, xs[k]? = some x → x.1.epoch ≠ ep) : rfndI most (xs.map (·.1)) ep = (j : Int) := by
  unfold rfndI
  rw [List.length_map, ← hf, fndR_at' _ (j - f) x.1 (fun k hk y hy => ?_) ?_ he]
  · simp only; omega
  · rw [List.getElem?_drop, List.getElem?_map, show f + (j - f) = j by omega, hx]; rfl
  · rw [List.getElem?_drop, List.getElem?_map] at hy
    obtain ⟨z, hz, rfl⟩ := Option.map_eq_some_iff.1 hy
    exact hI (f + k) (by omega) (by omega) z hz
theorem rfnd_none {most n f : Nat} {xs : List (Rep × RepA)} {ep : Int} (hn : n = xs.length) (hf : f = xs.length - most) (hI : ∀ k, f ≤ k → k < n → ∀ x, xs[k]? = some x → x.1.epoch ≠ ep) : rfndI most (xs.map (·.1)) ep = -1 := by
  unfold rfndI
  rw [List.length_map, ← hf, fndR_none' _ (fun k y hy => ?_)]
  rw [List.getElem?_drop, List.getElem?_map] at hy
  obtain ⟨z, hz, rfl⟩ := Option.map_eq_some_iff.1 hy
  exact hI (f + k) (by omega) (by rw [hn]; exact (List.getElem?_eq_some_iff.1 hz).1) z hz
theorem rfind_any (gw most : Nat) (A : Option Addr) (c : Nat) (xs : List (Rep × RepA)) (ep : Int) (w : World) (h : RfA w gw most A c xs) :
    Calls Try.prog 21 #[.pointer (some ⟨gw, 0, none⟩), .int .i64 ep] w fun e W' => e = .returned (.int .i64 (rfndI most (xs.map (·.1)) ep)) ∧ Below w.heap.size w W' := by
  have H := Lib.hid h
  have HF := Lib.hid (rfirst_any gw most A c xs w h)
  have hl := h.len
  have ht := h.top
  obtain ⟨f, hf⟩ : ∃ f, f = xs.length - most := ⟨_, rfl⟩
  have HFf := Lib.hid hf
  rw [← hf] at HF
  have hfl : f ≤ xs.length := by omega
  obtain ⟨n, hn⟩ : ∃ n, n = xs.length := ⟨_, rfl⟩
  have HN := Lib.hid hn
  rw [← hn] at hl hfl
  clear h hf hn
  go_enter Try.func21, Try.ntmps21
  go_wp2_with fail
  refine HF.out.mono ?_
  rintro e w1 ⟨rfl, hb1⟩
  have HB1 := Lib.hid hb1
  clear hb1
  go_wp2_with fail
  go_loopw [5] (fun i wr => ∃ j : Nat, i = .int .i64 j ∧ f ≤ j ∧ j ≤ n ∧ Hid (∀ k, f ≤ k → k < j → ∀ x, xs[k]? = some x → x.1.epoch ≠ ep) ∧ Hid (Below w.heap.size w wr)) (fun i _ => n - (intOf i).toNat)
  case atStart => exact ⟨f, rfl, Nat.le_refl _, by omega, Lib.hid (fun k h1 h2 => by omega), Lib.hid HB1.out⟩
  case round =>
    obtain ⟨j, rfl, hfj, hj, hI, hBw⟩ := hrel
    have HR := Lib.hid (H.out.stay hBw.out)
    have k1 : wr.cell? ⟨gw, 1, none⟩ = some (.slice A n c) := by rw [HN.out]; exact row_cell HR.out.row 1
    by_cases hlt : j < n
    · obtain ⟨x, hx⟩ : ∃ x, xs[j]? = some x := ⟨_, List.getElem?_eq_getElem (by rw [← HN.out]; exact hlt)⟩
      obtain ⟨b, off, rfl, hbb, hcell⟩ := HR.out.list (by rw [← HN.out]; omega)
      have kx : wr.cell? ⟨b, off + j * 14, none⟩ = some (.int .i64 x.1.epoch) := by have := hcell j x hx 0 _ rfl; simpa using this
      have HX := Lib.hid hx
      have z1 : (0 : Int) ≤ (j : Int) := by omega
      have z2 : (j : Int) < (n : Int) := by omega
      clear hx hcell
      obtain ⟨z, hz⟩ : ∃ z, z = x.1.epoch := ⟨_, rfl⟩
      have HZ := Lib.hid hz
      rw [← hz] at kx
      clear hz
      by_cases he : z = ep
      · have HV : Hid (rfndI most (xs.map (·.1)) ep = (j : Int)) := Lib.hid (rfnd_at HN.out HFf.out hfj HX.out (by rw [← HZ.out]; exact he) hI.out)
        subst he
        go_wp2_with fail
        go_ret
        exact ⟨by rw [HV.out]; rfl, hBw.out⟩
      · have e1 : (z == ep) = false := beq_eq_false_iff_ne.2 he
        have HI2 : Hid (∀ k, f ≤ k → k < j + 1 → ∀ x, xs[k]? = some x → x.1.epoch ≠ ep) := Lib.hid fun k h1 h2 y hy => by
          by_cases hkj : k < j
          · exact hI.out k h1 hkj y hy
          · obtain rfl : k = j := by omega
            rw [HX.out] at hy; cases hy
            rw [← HZ.out]; exact he
        go_wp2_with fail
        exact ⟨⟨j + 1, by go_num, by omega, by omega, HI2, Lib.hid (hBw.out)⟩, by simp [intOf]; omega⟩
    · obtain rfl : j = n := by omega
      have HV : Hid (rfndI most (xs.map (·.1)) ep = -1) := Lib.hid (rfnd_none HN.out HFf.out hI.out)
      go_wp2_with fail
      go_ret
      exact ⟨by rw [HV.out]; rfl, hBw.out⟩
theorem SliceOf.sub {α : Type} {C : Nat} {f : α → Array Value} {w : World} {b off : Nat} {l : List α} (h : SliceOf C f w (some ⟨b, off, none⟩) l) (p q : Nat) : SliceOf C f w (some ⟨b, off + p * C, none⟩) ((l.take q).drop p) := fun hn => by
  rw [List.length_drop, List.length_take] at hn
  obtain ⟨b', off', he, hlt, hc⟩ := h (by omega)
  cases he
  refine ⟨b, off + p * C, rfl, hlt, fun i y hi j v hv => ?_⟩
  rw [List.getElem?_drop] at hi
  have hil : p + i < q := by
    have := (List.getElem?_eq_some_iff.1 hi).1
    rw [List.length_take] at this; omega
  rw [List.getElem?_take_of_lt hil] at hi
  have := hc (p + i) y hi j v hv
  rw [show off + p * C + i * C + j = off + (p + i) * C + j by rw [Nat.add_mul]; omega]
  exact this
set_option maxRecDepth 100000 in
set_option maxHeartbeats 4000000 in
theorem rpart_any (gw most : Nat) (A : Option Addr) (c : Nat) (xs : List (Rep × RepA)) (a b : Int) (ha : i64ok a) (hb : i64ok b) (hb1 : b ≠ -9223372036854775808) (w : World) (h : RfA w gw most A c xs) (hs : SeqR (xs.map (·.1))) :
    Calls Try.prog 19 #[.pointer (some ⟨gw, 0, none⟩), .int .i64 a, .int .i64 b] w fun e w' => e = .returned (.tuple #[.agg (smC (sumR ((xs.map (·.1)).drop (xs.length - most)) a b).1), .int .i64 (sumR ((xs.map (·.1)).drop (xs.length - most)) a b).2]) ∧ Below w.heap.size w w' := by
  have r0 : row (w.alloc (.cells (smC Sm.zero) 48)) w.heap.size = some (smC Sm.zero) := row_at _ _ _ _ rfl
  have hB0 : Below w.heap.size w (w.alloc (.cells (smC Sm.zero) 48)) := (by (repeat (first | exact Below.refl _ _ | assumption | (refine Below.allocT ?_ _) | refine Below.drew ?_ | refine below_drewN ?_ _ | (refine Below.then ?_ (by assumption)) | (refine Below.setRow ?_ ?_ _; rotate_left; (focus (first | exact Nat.lt_succ_self _ | ((repeat rw [World.size_alloc]); omega) | (simp; done) | (simp; omega) | omega))) | (refine Below.setCell ?_ ?_ _; rotate_left; (focus (first | exact Nat.lt_succ_self _ | ((repeat rw [World.size_alloc]); omega) | (simp; done) | (simp; omega) | omega))) | (refine Below.then' ?_ (by assumption) ?_; rotate_left; (focus (first | exact Nat.lt_succ_self _ | ((repeat rw [World.size_alloc]); omega) | (simp; done) | (simp; omega) | omega))) | fail)); (first | done | fail))
  have H0 := Lib.hid (h.stay hB0)
  have HS := Lib.hid (hs.drop (xs.length - most))
  have HLn : Hid ((xs.map (·.1)).length = xs.length) := Lib.hid (List.length_map _)
  have hz1 := smC_one Sm.zero
  have wz : IntKind.i64.wrap (b - 1) = b - 1 := by rw [IntKind.wrap_i64]; have := hb.1; have := hb.2; omega
  clear h hs
  generalize hw0 : w.alloc (.cells (smC Sm.zero) 48) = w0 at *
  obtain ⟨L, hL⟩ : ∃ L, L = (xs.map (·.1)).drop (xs.length - most) := ⟨_, rfl⟩
  have HL := Lib.hid hL
  rw [← hL] at HS ⊢
  clear hL
  by_cases h1 : b < a
  · have HV : Hid (sumR L a b = (Sm.zero, 2)) := Lib.hid (by unfold sumR; rw [if_pos h1])
    clear H0
    go_enter Try.func19, Try.ntmps19
    go_upto_region 1 with fail
    change Code.wp _ _ _ _ (w.alloc (.cells (smC Sm.zero) 48))
    rw [hw0]
    clear hw0
    obtain ⟨t9, ht9⟩ := row_heap (row_setRow (new := smC Sm.zero) r0)
    have HT9 := Lib.hid ht9
    clear ht9
    go_wp2_with (refine wpList_build_to (smC Sm.zero) rfl 48 _ rfl (by kernel_rfl) ?_)
    exact bodyPost_ret (v := .tuple #[.agg (smC Sm.zero), .int .i64 2]) (results_cell_tmp Try.results19 _ _ w.heap.size _ (smC Sm.zero) (0, 0) _ rfl HT9.out rsums_under rfl rsums_info) rfl ⟨by rw [HV.out], Below.setRow hB0 (Nat.le_refl _) _⟩
  by_cases h2 : a = b
  · have HV : Hid (sumR L a b = (Sm.zero, 0)) := Lib.hid (by unfold sumR; rw [if_neg h1, if_pos h2])
    subst h2
    clear H0
    go_enter Try.func19, Try.ntmps19
    go_upto_region 1 with fail
    change Code.wp _ _ _ _ (w.alloc (.cells (smC Sm.zero) 48))
    rw [hw0]
    clear hw0
    obtain ⟨t9, ht9⟩ := row_heap (row_setRow (new := smC Sm.zero) r0)
    have HT9 := Lib.hid ht9
    clear ht9
    go_wp2_with (refine wpList_build_to (smC Sm.zero) rfl 48 _ rfl (by kernel_rfl) ?_)
    exact bodyPost_ret (v := .tuple #[.agg (smC Sm.zero), .int .i64 0]) (results_cell_tmp Try.results19 _ _ w.heap.size _ (smC Sm.zero) (0, 0) _ rfl HT9.out rsums_under rfl rsums_info) rfl ⟨by rw [HV.out], Below.setRow hB0 (Nat.le_refl _) _⟩
  have e2 : (a == b) = false := beq_eq_false_iff_ne.2 h2
  have HF : Hid (∀ W ep, Below w0.heap.size w0 W → Calls Try.prog 21 #[.pointer (some ⟨gw, 0, none⟩), .int .i64 ep] W fun e w' => e = .returned (.int .i64 (rfndI most (xs.map (·.1)) ep)) ∧ Below W.heap.size W w') := Lib.hid fun W ep hW => rfind_any gw most A c xs ep W (H0.out.stay hW)
  have HRf : Hid (∀ ep, rfndI most (xs.map (·.1)) ep = match fndR ep L with | some k => ((xs.length - most + k : Nat) : Int) | none => -1) := Lib.hid fun ep => by unfold rfndI; rw [HLn.out, HL.out]
  by_cases hno : fndR a L = none ∨ fndR (b - 1) L = none
  · have HV : Hid (sumR L a b = (Sm.zero, 200)) := Lib.hid (by
      unfold sumR; rw [if_neg h1, if_neg h2]
      rcases hno with h | h
      · rw [h]
      · rw [h]; cases fndR a L <;> rfl)
    have HNeg : Hid (rfndI most (xs.map (·.1)) a < 0 ∨ rfndI most (xs.map (·.1)) (b - 1) < 0) := Lib.hid (by
      rcases hno with h | h
      · left; rw [HRf.out, h]; show (-1 : Int) < 0; decide
      · right; rw [HRf.out, h]; show (-1 : Int) < 0; decide)
    clear hno
    have HF1 := Lib.hid (fun W hW => HF.out W a hW)
    have HF2 := Lib.hid (fun W hW => HF.out W (b - 1) hW)
    generalize rfndI most (xs.map (·.1)) a = f1 at *
    generalize rfndI most (xs.map (·.1)) (b - 1) = f2 at *
    go_enter Try.func19, Try.ntmps19
    go_upto_region 1 with fail
    change Code.wp _ _ _ _ (w.alloc (.cells (smC Sm.zero) 48))
    rw [hw0]
    clear hw0
    go_wp2_with fail
    refine (HF1.out w0 (Below.refl _ _)).mono ?_
    rintro e w1 ⟨rfl, hb2⟩
    go_wp2_with fail
    refine (HF2.out w1 hb2).mono ?_
    rintro e w2 ⟨rfl, hb3⟩
    have hB2 := Below.then hB0 (Below.then hb2 hb3)
    have r2 := below_row (Below.then hb2 hb3) r0 (row_lt r0)
    obtain ⟨t9, ht9⟩ := row_heap (row_setRow (new := smC Sm.zero) r2)
    have HT9 := Lib.hid ht9
    clear ht9 hb2 hb3
    by_cases hf1 : f1 < 0
    · go_wp2_with (refine wpList_build_to (smC Sm.zero) rfl 48 _ rfl (by kernel_rfl) ?_)
      exact bodyPost_ret (v := .tuple #[.agg (smC Sm.zero), .int .i64 200]) (results_cell_tmp Try.results19 _ _ w.heap.size _ (smC Sm.zero) (0, 0) _ rfl HT9.out rsums_under rfl rsums_info) rfl ⟨by rw [HV.out], Below.setRow hB2 (Nat.le_refl _) _⟩
    · have hf2 : f2 < 0 := HNeg.out.resolve_left hf1
      go_wp2_with (refine wpList_build_to (smC Sm.zero) rfl 48 _ rfl (by kernel_rfl) ?_)
      exact bodyPost_ret (v := .tuple #[.agg (smC Sm.zero), .int .i64 200]) (results_cell_tmp Try.results19 _ _ w.heap.size _ (smC Sm.zero) (0, 0) _ rfl HT9.out rsums_under rfl rsums_info) rfl ⟨by rw [HV.out], Below.setRow hB2 (Nat.le_refl _) _⟩
  · obtain ⟨i, hi⟩ : ∃ i, fndR a L = some i := by cases h : fndR a L with | none => exact (hno (.inl h)).elim | some i => exact ⟨i, rfl⟩
    obtain ⟨k, hk⟩ : ∃ k, fndR (b - 1) L = some k := by cases h : fndR (b - 1) L with | none => exact (hno (.inr h)).elim | some i => exact ⟨i, rfl⟩
    have hik := HS.out.le (show a ≤ b - 1 by omega) hi hk
    have HV : Hid (sumR L a b = (togV ((cutR i k L).map smOf), togE ((cutR i k L).map smOf))) := Lib.hid (by unfold sumR; rw [if_neg h1, if_neg h2, hi, hk])
    obtain ⟨f, hf⟩ : ∃ f, f = xs.length - most := ⟨_, rfl⟩
    have hkl : f + k < xs.length := by
      have := (fndR_lt _ _ _ hk).1
      rw [HL.out, List.length_drop, HLn.out] at this; omega
    have e3 : rfndI most (xs.map (·.1)) a = ((f + i : Nat) : Int) := by rw [HRf.out, hi, hf]
    have e4 : rfndI most (xs.map (·.1)) (b - 1) = ((f + k : Nat) : Int) := by rw [HRf.out, hk, hf]
    have HF1 := Lib.hid (fun W hW => HF.out W a hW)
    have HF2 := Lib.hid (fun W hW => HF.out W (b - 1) hW)
    rw [e3] at HF1
    rw [e4] at HF2
    have HCut : Hid (sumX ((xs.take (f + k + 1)).drop (f + i)) = (cutR i k L).map smOf) := Lib.hid (by
      unfold sumX cutR
      rw [HL.out, ← hf, List.take_drop, List.drop_drop, ← List.map_take, ← List.map_drop, List.map_map]; rfl)
    rw [← hf] at HL
    obtain ⟨bb, off, hA, hbb, _⟩ := H0.out.list (by omega)
    have hcap := H0.out.cap
    have hlen := H0.out.len
    obtain ⟨n, hn⟩ : ∃ n, n = xs.length := ⟨_, rfl⟩
    have HN := Lib.hid hn
    subst hA
    have HSub : Hid (∀ W, Below w0.heap.size w0 W → Calls Try.prog 59 #[.slice (some ⟨bb, off + (f + i) * 14, none⟩) (f + k + 1 - (f + i)) (c - (f + i))] W fun e w' => e = .returned (.tuple #[.agg (smC (togV ((cutR i k L).map smOf))), .int .i64 (togE ((cutR i k L).map smOf))]) ∧ Below W.heap.size W w') := Lib.hid fun W hW => by
      have hs := H0.out.stay hW
      have := rsum38_any (some ⟨bb, off + (f + i) * 14, none⟩) (f + k + 1 - (f + i)) (c - (f + i)) ((xs.take (f + k + 1)).drop (f + i)) (by rw [List.length_drop, List.length_take]; omega) (by omega) W (hs.list.sub (f + i) (f + k + 1)) (fun x hx => hs.ok x (List.mem_of_mem_take (List.mem_of_mem_drop hx))) (fun x hx => hs.right x (List.mem_of_mem_take (List.mem_of_mem_drop hx)))
      rw [HCut.out] at this
      exact this
    have HRow : Hid (∀ W, Below w0.heap.size w0 W → row W gw = some (rfC most (.slice (some ⟨bb, off, none⟩) xs.length c))) := Lib.hid fun W hW => (H0.out.stay hW).row
    rw [← hn] at HRow hcap hlen hkl
    have t1 : ¬ ((f + i : Nat) : Int) < 0 := by omega
    have t2 : ¬ ((f + k : Nat) : Int) < 0 := by omega
    have wz2 : IntKind.i64.wrap (((f + k : Nat) : Int) + 1) = ((f + k : Nat) : Int) + 1 := by rw [IntKind.wrap_i64]; omega
    have t3 : ¬ c = f + i := by omega
    have hfi : f + i ≤ f + k + 1 := by omega
    clear hn hf hno hi hk e3 e4 HCut HF HRf H0 hik
    generalize f + i = p at *
    generalize f + k = q at *
    go_enter Try.func19, Try.ntmps19
    go_upto_region 1 with fail
    change Code.wp _ _ _ _ (w.alloc (.cells (smC Sm.zero) 48))
    rw [hw0]
    clear hw0
    go_wp2_with fail
    refine (HF1.out w0 (Below.refl _ _)).mono ?_
    rintro e w1 ⟨rfl, hb2⟩
    go_wp2_with fail
    refine (HF2.out w1 hb2).mono ?_
    rintro e w2 ⟨rfl, hb3⟩
    have hw2 := Below.then hb2 hb3
    have hB2 := Below.then hB0 hw2
    have r2 := below_row hw2 r0 (row_lt r0)
    have k1 : w2.cell? ⟨gw, 1, none⟩ = some (.slice (some ⟨bb, off, none⟩) n c) := row_cell (HRow.out w2 hw2) 1
    have HW2 := Lib.hid (And.intro hw2 (And.intro hB2 r2))
    clear hb2 hb3 hw2 hB2 r2 r0 hB0
    go_wp2_with fail
    refine (HSub.out w2 HW2.out.1).mono ?_
    rintro e w3 ⟨rfl, hb4⟩
    have r3 := below_row hb4 HW2.out.2.2 (row_lt HW2.out.2.2)
    have HB3 := Lib.hid (Below.then HW2.out.2.1 hb4)
    have hz2 := smC_one (togV ((cutR i k L).map smOf))
    obtain ⟨t9, ht9⟩ := row_heap (row_setRow (new := smC (togV ((cutR i k L).map smOf))) r3)
    have HT9 := Lib.hid ht9
    clear ht9 hb4 k1
    go_wp2_with fail
    exact bodyPost_ret (v := .tuple #[.agg (smC (togV ((cutR i k L).map smOf))), .int .i64 (togE ((cutR i k L).map smOf))]) (results_cell_tmp Try.results19 _ _ w.heap.size _ (smC (togV ((cutR i k L).map smOf))) (0, 0) _ rfl HT9.out rsums_under rfl rsums_info) rfl ⟨by rw [HV.out], Below.setRow HB3.out (Nat.le_refl _) _⟩
end Go.Proofs.Ytnakkjgnjffkpaa

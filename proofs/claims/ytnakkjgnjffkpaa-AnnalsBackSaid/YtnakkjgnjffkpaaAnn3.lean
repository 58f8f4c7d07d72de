/-
  Annals: Sum.
-/
import Derived.Test.YtnakkjgnjffkpaaAnn2
namespace Go.Proofs.Ytnakkjgnjffkpaa
open Go.RowKit
set_option linter.unusedVariables false
set_option linter.unusedSimpArgs false

/-- The reports from one epoch to another. -/
def cutL (i k : Nat) (l : List (Rep × RepA)) : List (Rep × RepA) := (l.take (k + 1)).drop i
def sumsOf (l : List (Rep × RepA)) : List Sm := l.map fun x => smOf x.1
def sumV38 (l : List (Rep × RepA)) (a b : Int) : Sm × Int :=
  if b < a then (Sm.zero, 2) else if a = b then (Sm.zero, 0) else
  match fndN a l, fndN (b - 1) l with
  | some i, some k => (togV (sumsOf (cutL i k l)), togE (sumsOf (cutL i k l)))
  | _, _ => (Sm.zero, 200)
theorem OwnC.len_le {α : Type} {T : TypeId} {C : Nat} {f : α → Array Value} {W : World} {B : Nat} {A : Option Addr} {n c : Nat} {l : List α} (h : OwnC T C f W B (.slice A n c) l) : l.length ≤ c := by
  rcases h.2 with ⟨hn, h0⟩ | ⟨g, cap, cur, hv, _, _, hle, _⟩
  · omega
  · cases hv; exact hle
theorem cutL_len (i k : Nat) (l : List (Rep × RepA)) (hk : k < l.length) : (cutL i k l).length = k + 1 - i := by unfold cutL; rw [List.length_drop, List.length_take]; omega
theorem cutL_at (i k j : Nat) (l : List (Rep × RepA)) (hj : i + j < k + 1) : (cutL i k l)[j]? = l[i + j]? := by unfold cutL; rw [List.getElem?_drop, List.getElem?_take_of_lt hj]
theorem smOf_mon (r : Rep) (h : r.Ok) (k : Nat) : (smOf r).mon k < 18446744073709551616 := by
  match k with
  | 0 => exact h.minted
  | 1 => exact h.paid
  | 2 => exact h.kept
  | 3 => exact h.burned
  | k + 4 => exact h.fees
theorem oneN_le (b : Bool) : oneN b ≤ 1 := by cases b <;> simp [oneN]
theorem smOf_few (r : Rep) (h : r.out.length ≤ 1000000 ∧ r.left.length ≤ 1000000 ∧ r.started.length ≤ 1000000 ∧ r.done.length ≤ 1000000) : (smOf r).Few 1000000000000 :=
  ⟨by show 1 ≤ _; omega, by have := oneN_le r.quorum; show oneN r.quorum ≤ _; omega, by have := oneN_le (leakB r.mode); show oneN (leakB r.mode) ≤ _; omega, by have := h.1; show r.out.length ≤ _; omega, by have := h.2.1; show r.left.length ≤ _; omega, by have := h.2.2.1; show r.started.length ≤ _; omega, by have := h.2.2.2; show r.done.length ≤ _; omega⟩
theorem sumsl_under : Try.prog.underlying 133 = some (.slice 45) := by kernel_rfl
theorem sumsl_info : (Try.prog.info? 45).map (fun i => (i.zero, i.size, i.bytes)) = some (some (.agg (smC Sm.zero)), 12, 96) := by kernel_rfl
set_option maxRecDepth 100000 in
set_option maxHeartbeats 4000000 in
theorem sum38_any (E : Nat → Prop) (g most : Nat) (s : Sm) (v : Value) (l : List (Rep × RepA)) (a b : Int) (ha : i64ok a) (hb : i64ok b) (hle : a ≤ b - 1 → ∀ i k, fndN a l = some i → fndN (b - 1) l = some k → i ≤ k + 1) (w : World) (hA : AnAt w E g most s v l) :
    Calls Try.prog 18 #[.pointer (some ⟨g, 0, none⟩), .int .i64 a, .int .i64 b] w fun e w' => e = .returned (.tuple #[.agg (smC (sumV38 l a b).1), .int .i64 (sumV38 l a b).2]) ∧ Below w.heap.size w w' := by
  have r0 : row (w.alloc (.cells (smC Sm.zero) 45)) w.heap.size = some (smC Sm.zero) := row_at _ _ _ _ rfl
  have hB0 : Below w.heap.size w (w.alloc (.cells (smC Sm.zero) 45)) := (by (repeat (first | exact Below.refl _ _ | assumption | (refine Below.allocT ?_ _) | refine Below.drew ?_ | refine below_drewN ?_ _ | (refine Below.then ?_ (by assumption)) | (refine Below.setRow ?_ ?_ _; rotate_left; (focus (first | exact Nat.lt_succ_self _ | ((repeat rw [World.size_alloc]); omega) | (simp; done) | (simp; omega) | omega))) | (refine Below.setCell ?_ ?_ _; rotate_left; (focus (first | exact Nat.lt_succ_self _ | ((repeat rw [World.size_alloc]); omega) | (simp; done) | (simp; omega) | omega))) | (refine Below.then' ?_ (by assumption) ?_; rotate_left; (focus (first | exact Nat.lt_succ_self _ | ((repeat rw [World.size_alloc]); omega) | (simp; done) | (simp; omega) | omega))) | fail)); (first | done | fail))
  have A0 : AnAt (w.alloc (.cells (smC Sm.zero) 45)) E g most s v l := hA.stay hB0
  clear hA
  have hsz : w.heap.size < (w.alloc (.cells (smC Sm.zero) 45)).heap.size := by rw [World.size_alloc]; omega
  generalize hw0 : w.alloc (.cells (smC Sm.zero) 45) = w0 at *
  have HI := Lib.hid (is38_any g s most v _ A0.row)
  rw [decide_eq_true A0.pos] at HI
  by_cases h1 : b < a
  · have HV : Hid (sumV38 l a b = (Sm.zero, 2)) := Lib.hid (by unfold sumV38; rw [if_pos h1])
    clear A0 hle
    go_enter Try.func18, Try.ntmps18
    go_upto_region 1 with fail
    change Code.wp _ _ _ _ (w.alloc (.cells (smC Sm.zero) 45))
    rw [hw0]
    clear hw0 hsz
    obtain ⟨t9, ht9⟩ := row_heap (row_setRow (new := smC Sm.zero) r0)
    have HT9 := Lib.hid ht9
    clear ht9
    go_wp2_with (first | (go_at_call 53; refine HI.out.mono ?_; rintro e w1 ⟨rfl, rfl⟩) | (refine wpList_build_to (smC Sm.zero) rfl 45 _ rfl (by kernel_rfl) ?_))
    exact bodyPost_ret (v := .tuple #[.agg (smC Sm.zero), .int .i64 2]) (results_cell_tmp Try.results18 _ _ w.heap.size _ (smC Sm.zero) (0, 0) _ rfl HT9.out sums_under rfl sums_info) rfl ⟨by rw [HV.out], Below.setRow hB0 (Nat.le_refl _) _⟩
  · by_cases h2 : a = b
    · have HV : Hid (sumV38 l a b = (Sm.zero, 0)) := Lib.hid (by unfold sumV38; rw [if_neg h1, if_pos h2])
      subst h2
      clear A0 hle
      go_enter Try.func18, Try.ntmps18
      go_upto_region 1 with fail
      change Code.wp _ _ _ _ (w.alloc (.cells (smC Sm.zero) 45))
      rw [hw0]
      clear hw0 hsz
      obtain ⟨t9, ht9⟩ := row_heap (row_setRow (new := smC Sm.zero) r0)
      have HT9 := Lib.hid ht9
      clear ht9
      go_wp2_with (first | (go_at_call 53; refine HI.out.mono ?_; rintro e w1 ⟨rfl, rfl⟩) | (refine wpList_build_to (smC Sm.zero) rfl 45 _ rfl (by kernel_rfl) ?_))
      exact bodyPost_ret (v := .tuple #[.agg (smC Sm.zero), .int .i64 0]) (results_cell_tmp Try.results18 _ _ w.heap.size _ (smC Sm.zero) (0, 0) _ rfl HT9.out sums_under rfl sums_info) rfl ⟨by rw [HV.out], Below.setRow hB0 (Nat.le_refl _) _⟩
    · have hwr : IntKind.i64.wrap (b - 1) = b - 1 := by have := ha.1; have := hb.2; rw [IntKind.wrap_i64]; omega
      have e2 : (a == b) = false := beq_eq_false_iff_ne.2 h2
      have HF : Hid (∀ W ep, Below w0.heap.size w0 W → Calls Try.prog 61 #[.pointer (some ⟨g, 0, none⟩), .int .i64 ep] W fun e w' => e = .returned (.int .i64 (fndI ep l)) ∧ Below W.heap.size W w') := Lib.hid fun W ep h => find38_any E g most s v l ep W (A0.stay h)
      have HV : Hid (sumV38 l a b = match fndN a l, fndN (b - 1) l with
  | some i, some k => (togV (sumsOf (cutL i k l)), togE (sumsOf (cutL i k l)))
  | _, _ => (Sm.zero, 200)) := Lib.hid (by unfold sumV38; rw [if_neg h1, if_neg h2])
      have HQ := Lib.hid A0
      clear A0
      cases hk : fndN a l with
      | none =>
        have HV2 : Hid (sumV38 l a b = (Sm.zero, 200)) := Lib.hid (by rw [HV.out]; rw [hk])
        obtain ⟨f1, f2, hf⟩ : ∃ f1 f2 : Int, fndI a l = f1 ∧ fndI (b - 1) l = f2 ∧ (f1 < 0 ∨ f2 < 0) := ⟨_, _, rfl, rfl, Or.inl (by unfold fndI; rw [hk]; decide)⟩
        have HF1 : Hid (∀ W, Below w0.heap.size w0 W → Calls Try.prog 61 #[.pointer (some ⟨g, 0, none⟩), .int .i64 a] W fun e w' => e = .returned (.int .i64 f1) ∧ Below W.heap.size W w') := Lib.hid fun W h => by
          have := HF.out W a h
          rwa [hf.1] at this
        have HF2 : Hid (∀ W, Below w0.heap.size w0 W → Calls Try.prog 61 #[.pointer (some ⟨g, 0, none⟩), .int .i64 (b - 1)] W fun e w' => e = .returned (.int .i64 f2) ∧ Below W.heap.size W w') := Lib.hid fun W h => by
          have := HF.out W (b - 1) h
          rwa [hf.2.1] at this
        have hf3 := hf.2.2
        clear HF hle HQ hf HV
        rcases hf3 with hf3 | hf3
        · go_enter Try.func18, Try.ntmps18
          go_upto_region 1 with fail
          change Code.wp _ _ _ _ (w.alloc (.cells (smC Sm.zero) 45))
          rw [hw0]
          clear hw0
          go_upto_region 9 with (first | (go_at_call 53; refine HI.out.mono ?_; rintro e w1 ⟨rfl, rfl⟩) | (go_at_call_of 61 a; refine (HF1.out _ (Below.refl _ _)).mono ?_; rintro e w2 ⟨rfl, hb2⟩) | (go_at_call 61; refine (HF2.out _ hb2).mono ?_; rintro e w3 ⟨rfl, hb3⟩))
          have r3 := below_row (Below.then hb2 hb3) r0 (row_lt r0)
          have HB3 := Lib.hid (Below.then (Below.then hB0 hb2) hb3)
          clear hB0 hb2 hb3 r0
          obtain ⟨t9, ht9⟩ := row_heap (row_setRow (new := smC Sm.zero) r3)
          have HT9 := Lib.hid ht9
          clear ht9
          go_wp2_with (refine wpList_build_to (smC Sm.zero) rfl 45 _ rfl (by kernel_rfl) ?_)
          exact bodyPost_ret (v := .tuple #[.agg (smC Sm.zero), .int .i64 200]) (results_cell_tmp Try.results18 _ _ w.heap.size _ (smC Sm.zero) (0, 0) _ rfl HT9.out sums_under rfl sums_info) rfl ⟨by rw [HV2.out], Below.setRow HB3.out (Nat.le_refl _) _⟩
        · by_cases hf4 : f1 < 0
          · go_enter Try.func18, Try.ntmps18
            go_upto_region 1 with fail
            change Code.wp _ _ _ _ (w.alloc (.cells (smC Sm.zero) 45))
            rw [hw0]
            clear hw0
            go_upto_region 9 with (first | (go_at_call 53; refine HI.out.mono ?_; rintro e w1 ⟨rfl, rfl⟩) | (go_at_call_of 61 a; refine (HF1.out _ (Below.refl _ _)).mono ?_; rintro e w2 ⟨rfl, hb2⟩) | (go_at_call 61; refine (HF2.out _ hb2).mono ?_; rintro e w3 ⟨rfl, hb3⟩))
            have r3 := below_row (Below.then hb2 hb3) r0 (row_lt r0)
            have HB3 := Lib.hid (Below.then (Below.then hB0 hb2) hb3)
            clear hB0 hb2 hb3 r0
            obtain ⟨t9, ht9⟩ := row_heap (row_setRow (new := smC Sm.zero) r3)
            have HT9 := Lib.hid ht9
            clear ht9
            go_wp2_with (refine wpList_build_to (smC Sm.zero) rfl 45 _ rfl (by kernel_rfl) ?_)
            exact bodyPost_ret (v := .tuple #[.agg (smC Sm.zero), .int .i64 200]) (results_cell_tmp Try.results18 _ _ w.heap.size _ (smC Sm.zero) (0, 0) _ rfl HT9.out sums_under rfl sums_info) rfl ⟨by rw [HV2.out], Below.setRow HB3.out (Nat.le_refl _) _⟩
          · go_enter Try.func18, Try.ntmps18
            go_upto_region 1 with fail
            change Code.wp _ _ _ _ (w.alloc (.cells (smC Sm.zero) 45))
            rw [hw0]
            clear hw0
            go_upto_region 9 with (first | (go_at_call 53; refine HI.out.mono ?_; rintro e w1 ⟨rfl, rfl⟩) | (go_at_call_of 61 a; refine (HF1.out _ (Below.refl _ _)).mono ?_; rintro e w2 ⟨rfl, hb2⟩) | (go_at_call 61; refine (HF2.out _ hb2).mono ?_; rintro e w3 ⟨rfl, hb3⟩))
            have r3 := below_row (Below.then hb2 hb3) r0 (row_lt r0)
            have HB3 := Lib.hid (Below.then (Below.then hB0 hb2) hb3)
            clear hB0 hb2 hb3 r0
            obtain ⟨t9, ht9⟩ := row_heap (row_setRow (new := smC Sm.zero) r3)
            have HT9 := Lib.hid ht9
            clear ht9
            go_wp2_with (refine wpList_build_to (smC Sm.zero) rfl 45 _ rfl (by kernel_rfl) ?_)
            exact bodyPost_ret (v := .tuple #[.agg (smC Sm.zero), .int .i64 200]) (results_cell_tmp Try.results18 _ _ w.heap.size _ (smC Sm.zero) (0, 0) _ rfl HT9.out sums_under rfl sums_info) rfl ⟨by rw [HV2.out], Below.setRow HB3.out (Nat.le_refl _) _⟩
      | some i =>
        cases hk2 : fndN (b - 1) l with
        | none =>
          have HV2 : Hid (sumV38 l a b = (Sm.zero, 200)) := Lib.hid (by rw [HV.out]; rw [hk, hk2])
          obtain ⟨f1, f2, hf⟩ : ∃ f1 f2 : Int, fndI a l = f1 ∧ fndI (b - 1) l = f2 ∧ (f1 < 0 ∨ f2 < 0) := ⟨_, _, rfl, rfl, Or.inr (by unfold fndI; rw [hk2]; decide)⟩
          have HF1 : Hid (∀ W, Below w0.heap.size w0 W → Calls Try.prog 61 #[.pointer (some ⟨g, 0, none⟩), .int .i64 a] W fun e w' => e = .returned (.int .i64 f1) ∧ Below W.heap.size W w') := Lib.hid fun W h => by
            have := HF.out W a h
            rwa [hf.1] at this
          have HF2 : Hid (∀ W, Below w0.heap.size w0 W → Calls Try.prog 61 #[.pointer (some ⟨g, 0, none⟩), .int .i64 (b - 1)] W fun e w' => e = .returned (.int .i64 f2) ∧ Below W.heap.size W w') := Lib.hid fun W h => by
            have := HF.out W (b - 1) h
            rwa [hf.2.1] at this
          have hf3 := hf.2.2
          clear HF hle HQ hf HV
          rcases hf3 with hf3 | hf3
          · go_enter Try.func18, Try.ntmps18
            go_upto_region 1 with fail
            change Code.wp _ _ _ _ (w.alloc (.cells (smC Sm.zero) 45))
            rw [hw0]
            clear hw0
            go_upto_region 9 with (first | (go_at_call 53; refine HI.out.mono ?_; rintro e w1 ⟨rfl, rfl⟩) | (go_at_call_of 61 a; refine (HF1.out _ (Below.refl _ _)).mono ?_; rintro e w2 ⟨rfl, hb2⟩) | (go_at_call 61; refine (HF2.out _ hb2).mono ?_; rintro e w3 ⟨rfl, hb3⟩))
            have r3 := below_row (Below.then hb2 hb3) r0 (row_lt r0)
            have HB3 := Lib.hid (Below.then (Below.then hB0 hb2) hb3)
            clear hB0 hb2 hb3 r0
            obtain ⟨t9, ht9⟩ := row_heap (row_setRow (new := smC Sm.zero) r3)
            have HT9 := Lib.hid ht9
            clear ht9
            go_wp2_with (refine wpList_build_to (smC Sm.zero) rfl 45 _ rfl (by kernel_rfl) ?_)
            exact bodyPost_ret (v := .tuple #[.agg (smC Sm.zero), .int .i64 200]) (results_cell_tmp Try.results18 _ _ w.heap.size _ (smC Sm.zero) (0, 0) _ rfl HT9.out sums_under rfl sums_info) rfl ⟨by rw [HV2.out], Below.setRow HB3.out (Nat.le_refl _) _⟩
          · by_cases hf4 : f1 < 0
            · go_enter Try.func18, Try.ntmps18
              go_upto_region 1 with fail
              change Code.wp _ _ _ _ (w.alloc (.cells (smC Sm.zero) 45))
              rw [hw0]
              clear hw0
              go_upto_region 9 with (first | (go_at_call 53; refine HI.out.mono ?_; rintro e w1 ⟨rfl, rfl⟩) | (go_at_call_of 61 a; refine (HF1.out _ (Below.refl _ _)).mono ?_; rintro e w2 ⟨rfl, hb2⟩) | (go_at_call 61; refine (HF2.out _ hb2).mono ?_; rintro e w3 ⟨rfl, hb3⟩))
              have r3 := below_row (Below.then hb2 hb3) r0 (row_lt r0)
              have HB3 := Lib.hid (Below.then (Below.then hB0 hb2) hb3)
              clear hB0 hb2 hb3 r0
              obtain ⟨t9, ht9⟩ := row_heap (row_setRow (new := smC Sm.zero) r3)
              have HT9 := Lib.hid ht9
              clear ht9
              go_wp2_with (refine wpList_build_to (smC Sm.zero) rfl 45 _ rfl (by kernel_rfl) ?_)
              exact bodyPost_ret (v := .tuple #[.agg (smC Sm.zero), .int .i64 200]) (results_cell_tmp Try.results18 _ _ w.heap.size _ (smC Sm.zero) (0, 0) _ rfl HT9.out sums_under rfl sums_info) rfl ⟨by rw [HV2.out], Below.setRow HB3.out (Nat.le_refl _) _⟩
            · go_enter Try.func18, Try.ntmps18
              go_upto_region 1 with fail
              change Code.wp _ _ _ _ (w.alloc (.cells (smC Sm.zero) 45))
              rw [hw0]
              clear hw0
              go_upto_region 9 with (first | (go_at_call 53; refine HI.out.mono ?_; rintro e w1 ⟨rfl, rfl⟩) | (go_at_call_of 61 a; refine (HF1.out _ (Below.refl _ _)).mono ?_; rintro e w2 ⟨rfl, hb2⟩) | (go_at_call 61; refine (HF2.out _ hb2).mono ?_; rintro e w3 ⟨rfl, hb3⟩))
              have r3 := below_row (Below.then hb2 hb3) r0 (row_lt r0)
              have HB3 := Lib.hid (Below.then (Below.then hB0 hb2) hb3)
              clear hB0 hb2 hb3 r0
              obtain ⟨t9, ht9⟩ := row_heap (row_setRow (new := smC Sm.zero) r3)
              have HT9 := Lib.hid ht9
              clear ht9
              go_wp2_with (refine wpList_build_to (smC Sm.zero) rfl 45 _ rfl (by kernel_rfl) ?_)
              exact bodyPost_ret (v := .tuple #[.agg (smC Sm.zero), .int .i64 200]) (results_cell_tmp Try.results18 _ _ w.heap.size _ (smC Sm.zero) (0, 0) _ rfl HT9.out sums_under rfl sums_info) rfl ⟨by rw [HV2.out], Below.setRow HB3.out (Nat.le_refl _) _⟩
        | some k =>
          rw [hk, hk2] at HV
          obtain ⟨hil, _⟩ := fndN_lt a l i hk
          obtain ⟨hkl, _⟩ := fndN_lt (b - 1) l k hk2
          have hik := hle (by omega) i k hk hk2
          obtain ⟨A, c, rfl, hS, _⟩ := HQ.out.form
          have hcl := HQ.out.kept.len_le
          have hlen : l.length ≤ 1000 := HQ.out.few
          have HF1 : Hid (∀ W, Below w0.heap.size w0 W → Calls Try.prog 61 #[.pointer (some ⟨g, 0, none⟩), .int .i64 a] W fun e w' => e = .returned (.int .i64 (i : Int)) ∧ Below W.heap.size W w') := Lib.hid fun W h => by
            have := HF.out W a h
            rwa [show fndI a l = (i : Int) by unfold fndI; rw [hk]] at this
          have HF2 : Hid (∀ W, Below w0.heap.size w0 W → Calls Try.prog 61 #[.pointer (some ⟨g, 0, none⟩), .int .i64 (b - 1)] W fun e w' => e = .returned (.int .i64 (k : Int)) ∧ Below W.heap.size W w') := Lib.hid fun W h => by
            have := HF.out W (b - 1) h
            rwa [show fndI (b - 1) l = (k : Int) by unfold fndI; rw [hk2]] at this
          have HR : Hid (row w0 g = some (anC s most (.slice A l.length c))) := Lib.hid HQ.out.row
          obtain ⟨bb, off, rfl, hbb, hcell⟩ := hS (by omega)
          have HX := Lib.hid hcell
          have HSm := Lib.hid HQ.out.ok
          have HSml := Lib.hid HQ.out.small
          have wr1 : IntKind.i64.wrap ((k : Int) + 1) = (k : Int) + 1 := by rw [IntKind.wrap_i64]; omega
          clear hk hk2 hle hcell hS HF
          have HLn : Hid (l.length ≤ c ∧ i < l.length ∧ k < l.length ∧ i ≤ k + 1 ∧ l.length ≤ 1000) := Lib.hid ⟨hcl, hil, hkl, hik, hlen⟩
          generalize hn : l.length = n at HR
          have HN := Lib.hid hn
          rw [hn] at hcl hil hkl hlen
          have t1 : ¬ (i : Int) < 0 := by omega
          have t3 : ¬ c = i := by omega
          have t2 : ¬ (k : Int) < 0 := by omega
          clear hn HQ
          go_enter Try.func18, Try.ntmps18
          go_upto_region 1 with fail
          change Code.wp _ _ _ _ (w.alloc (.cells (smC Sm.zero) 45))
          rw [hw0]
          clear hw0
          go_upto_region 11 with (first | (go_at_call 53; refine HI.out.mono ?_; rintro e w1 ⟨rfl, rfl⟩) | (go_at_call_of 61 a; refine (HF1.out _ (Below.refl _ _)).mono ?_; rintro e w2 ⟨rfl, hb2⟩) | (go_at_call 61; refine (HF2.out _ hb2).mono ?_; rintro e w3 ⟨rfl, hb3⟩))
          have hB3 := Below.then (Below.then hB0 hb2) hb3
          have hw3 : Below w0.heap.size w0 w3 := Below.then hb2 hb3
          have r3 := below_row hw3 r0 (row_lt r0)
          have k13 : w3.cell? ⟨g, 13, none⟩ = some (.slice (some ⟨bb, off, none⟩) n c) := row_cell (below_row hw3 HR.out (row_lt HR.out)) 13
          obtain ⟨m, hm⟩ : ∃ m, m = k + 1 - i := ⟨_, rfl⟩
          have HCL : Hid ((sumsOf (cutL i k l)).length = m) := Lib.hid (by have := HLn.out; unfold sumsOf; rw [List.length_map, cutL_len i k l (by omega), hm])
          have HAt : Hid (∀ j r a', j < m → l[i + j]? = some (r, a') → (sumsOf (cutL i k l))[j]? = some (smOf r)) := Lib.hid fun j r a' hj hx => by unfold sumsOf; rw [List.getElem?_map, cutL_at i k j l (by omega), hx]; rfl
          have HEx : Hid (∀ j, j < m → ∃ r a', l[i + j]? = some (r, a')) := Lib.hid fun j hj => by
            have := HLn.out
            exact ⟨_, _, List.getElem?_eq_getElem (by omega)⟩
          have hm1 : m ≤ 1000 := by have := HLn.out; omega
          have HFew : Hid (∀ s ∈ sumsOf (cutL i k l), s.Few 1000000000000) := Lib.hid fun s hs => by
            obtain ⟨x, hx, rfl⟩ := List.mem_map.1 hs
            exact smOf_few x.1 (HSml.out x (List.mem_of_mem_take (List.mem_of_mem_drop hx)))
          have HMon : Hid (∀ s ∈ sumsOf (cutL i k l), ∀ k, s.mon k < 18446744073709551616) := Lib.hid fun s hs => by
            obtain ⟨x, hx, rfl⟩ := List.mem_map.1 hs
            exact smOf_mon x.1 (HSm.out x (List.mem_of_mem_take (List.mem_of_mem_drop hx)))
          have HR0 := Lib.hid r0
          have hB00 := Lib.hid hB0
          generalize sumsOf (cutL i k l) = L at *
          have HW3 : Hid (Below w0.heap.size w0 w3 ∧ row w3 w.heap.size = some (smC Sm.zero) ∧ Below w.heap.size w w3) := Lib.hid ⟨hw3, r3, hB3⟩
          clear hB0 hb2 hb3 r0 hw3 r3 hB3
          go_wp2_with fail
          rw [← hm]
          clear hm k13
          go_loopw [10, 51] (fun vv ii wr => ∃ (j : Nat) (A' : Option Addr) (c' : Nat), ii = .int .i64 j ∧ vv = .slice A' j c' ∧ j ≤ m ∧ Hid (OwnC 45 12 smC wr w0.heap.size (.slice A' j c') (L.take j) ∧ Below w0.heap.size w0 wr ∧ row wr w.heap.size = some (smC Sm.zero) ∧ Below w.heap.size w wr)) (fun _ ii _ => m - (intOf ii).toNat)
          case atStart => exact ⟨0, none, 0, rfl, rfl, by omega, Lib.hid ⟨OwnC.nil _ _, HW3.out.1, HW3.out.2.1, HW3.out.2.2⟩⟩
          case round =>
            obtain ⟨j, A', c', rfl, rfl, hj, hI⟩ := hrel
            by_cases hlt : j < m
            · obtain ⟨r, a', hxj⟩ := HEx.out j hlt
              have hLj := HAt.out j r a' hlt hxj
              have hr := range_below (HX.out (i + j) (r, a') hxj) hI.out.2.1 hbb
              rw [Nat.add_mul, ← Nat.add_assoc] at hr
              have hi : (Try.prog.info? 36).map (·.size) = some (repC (r, a')).toList.length := by rw [rep_info]; rfl
              have HSt : Hid (L.take (j + 1) = L.take j ++ [smOf r]) := Lib.hid (by
                obtain ⟨hjl, hjz⟩ := List.getElem?_eq_some_iff.1 hLj
                rw [List.take_succ_eq_append_getElem hjl, hjz])
              have HO : Hid (∀ W, Calls Try.prog 56 #[.agg (repC (r, a'))] W fun e w' => e = .returned (.agg (smC (smOf r))) ∧ Below W.heap.size W w') := Lib.hid fun W => of38_any r a' W
              have HLT : Hid ((L.take j).length = j) := Lib.hid (by rw [List.length_take, HCL.out]; omega)
              have q5 : row (wr.alloc (.cells (repC (r, a')) 36)) wr.heap.size = some (repC (r, a')) := row_at _ _ _ _ rfl
              have z1 : (0 : Int) ≤ (j : Int) := by omega
              have z2 : (j : Int) < (m : Int) := by omega
              clear hxj hLj
              generalize smOf r = sr at *
              go_wp2_with (first | (refine wpList_load_mid rfl 36 _ (by rfl) bb (off + i * 14 + j * 14) (by rfl) (repC (r, a')).toList _ hr rep_under rfl hi ?_) | (go_at_call 56; refine (HO.out _).mono ?_; rintro e w5 ⟨rfl, hb5⟩) | (refine wpList_slice1 sumsl_under sumsl_info rfl (by omega) (by omega) rfl _ (by rfl) (smC sr) (by rfl) (smC_size _) ?_) | (at_builtin; refine wpList_append_c sumsl_under sumsl_info rfl (by decide) (by decide) smC_size smC_one rfl _ _ rfl w0.heap.size (.slice A' j c') (L.take j) rfl ((OwnC.stay (OwnC.stay hI.out.1 (show Below wr.heap.size wr (wr.alloc (.cells (repC (r, a')) 36)) from (by (repeat (first | exact Below.refl _ _ | assumption | (refine Below.allocT ?_ _) | refine Below.drew ?_ | refine below_drewN ?_ _ | (refine Below.then ?_ (by assumption)) | (refine Below.setRow ?_ ?_ _; rotate_left; (focus (first | exact Nat.lt_succ_self _ | ((repeat rw [World.size_alloc]); omega) | (simp; done) | (simp; omega) | omega))) | (refine Below.setCell ?_ ?_ _; rotate_left; (focus (first | exact Nat.lt_succ_self _ | ((repeat rw [World.size_alloc]); omega) | (simp; done) | (simp; omega) | omega))) | (refine Below.then' ?_ (by assumption) ?_; rotate_left; (focus (first | exact Nat.lt_succ_self _ | ((repeat rw [World.size_alloc]); omega) | (simp; done) | (simp; omega) | omega))) | fail)); (first | done | fail)))) hb5).stay ((Below.refl _ _).alloc (Nat.le_refl _) _)) _ 1 sr rfl (row_at _ _ _ _ rfl) j HLT.out (by rw [HLT.out]; omega) (by have := hI.out.2.1.size; have := hb5.size; simp only [World.size_alloc] at *; omega) ?_; intro A6 c6 w6 hO6 hg6; have HO6 := Lib.hid hO6; have HG6 := Lib.hid hg6; clear hO6 hg6))
              have hOw := (OwnC.stay (OwnC.stay hI.out.1 (show Below wr.heap.size wr (wr.alloc (.cells (repC (r, a')) 36)) from (by (repeat (first | exact Below.refl _ _ | assumption | (refine Below.allocT ?_ _) | refine Below.drew ?_ | refine below_drewN ?_ _ | (refine Below.then ?_ (by assumption)) | (refine Below.setRow ?_ ?_ _; rotate_left; (focus (first | exact Nat.lt_succ_self _ | ((repeat rw [World.size_alloc]); omega) | (simp; done) | (simp; omega) | omega))) | (refine Below.setCell ?_ ?_ _; rotate_left; (focus (first | exact Nat.lt_succ_self _ | ((repeat rw [World.size_alloc]); omega) | (simp; done) | (simp; omega) | omega))) | (refine Below.then' ?_ (by assumption) ?_; rotate_left; (focus (first | exact Nat.lt_succ_self _ | ((repeat rw [World.size_alloc]); omega) | (simp; done) | (simp; omega) | omega))) | fail)); (first | done | fail)))) hb5).stay ((Below.refl _ _).alloc (Nat.le_refl _) (.cells (smC sr) 45))
              have hbA : Below w0.heap.size w0 (w5.alloc (.cells (smC sr) 45)) := by
                have hbX := hI.out.2.1
                have hbY := Below.then (show Below w0.heap.size w0 (wr.alloc (.cells (repC (r, a')) 36)) from (by (repeat (first | exact Below.refl _ _ | assumption | (refine Below.allocT ?_ _) | refine Below.drew ?_ | refine below_drewN ?_ _ | (refine Below.then ?_ (by assumption)) | (refine Below.setRow ?_ ?_ _; rotate_left; (focus (first | exact Nat.lt_succ_self _ | ((repeat rw [World.size_alloc]); omega) | (simp; done) | (simp; omega) | omega))) | (refine Below.setCell ?_ ?_ _; rotate_left; (focus (first | exact Nat.lt_succ_self _ | ((repeat rw [World.size_alloc]); omega) | (simp; done) | (simp; omega) | omega))) | (refine Below.then' ?_ (by assumption) ?_; rotate_left; (focus (first | exact Nat.lt_succ_self _ | ((repeat rw [World.size_alloc]); omega) | (simp; done) | (simp; omega) | omega))) | fail)); (first | done | fail))) hb5
                exact (by (repeat (first | exact Below.refl _ _ | assumption | (refine Below.allocT ?_ _) | refine Below.drew ?_ | refine below_drewN ?_ _ | (refine Below.then ?_ (by assumption)) | (refine Below.setRow ?_ ?_ _; rotate_left; (focus (first | exact Nat.lt_succ_self _ | ((repeat rw [World.size_alloc]); omega) | (simp; done) | (simp; omega) | omega))) | (refine Below.setCell ?_ ?_ _; rotate_left; (focus (first | exact Nat.lt_succ_self _ | ((repeat rw [World.size_alloc]); omega) | (simp; done) | (simp; omega) | omega))) | (refine Below.then' ?_ (by assumption) ?_; rotate_left; (focus (first | exact Nat.lt_succ_self _ | ((repeat rw [World.size_alloc]); omega) | (simp; done) | (simp; omega) | omega))) | fail)); (first | done | fail))
              have hb6 := below_grown_c hbA (Nat.le_refl _) hOw HG6.out
              have hbw : Below w.heap.size w w6 := (Below.then hB00.out hb6)
              have r6 : row w6 w.heap.size = some (smC Sm.zero) := below_row hb6 HR0.out (row_lt HR0.out)
              clear hOw hbA
              refine ⟨⟨j + 1, A6, c6, by go_num, rfl, by omega, Lib.hid ⟨by rw [HSt.out]; exact HO6.out, hb6, r6, hbw⟩⟩, by simp [intOf]; omega⟩
            · obtain rfl : j = m := by omega
              have hI2 := hI.out
              rw [List.take_of_length_le (by rw [HCL.out]; exact Nat.le_refl _)] at hI2
              have hS9 := hI2.1.at_ smC_size
              have HTg := Lib.hid (together_any A' j c' L HCL.out hm1 HFew.out HMon.out wr hS9)
              have r9 := hI2.2.2.1
              have hB9 := hI2.2.2.2
              clear hI hI2 hS9
              go_wp2_with (go_at_call 55; refine HTg.out.mono ?_; rintro e w7 ⟨rfl, hb7⟩; have r7 := below_row hb7 r9 (row_lt r9); have HB7 := Lib.hid (Below.then hB9 hb7); obtain ⟨t9, ht9⟩ := row_heap (row_setRow (new := smC (togV L)) r7); have HT9 := Lib.hid ht9; clear ht9 hb7)
              exact bodyPost_ret (v := .tuple #[.agg (smC (togV L)), .int .i64 (togE L)]) (results_cell_tmp Try.results18 _ _ w.heap.size _ (smC (togV L)) (0, 0) _ rfl HT9.out sums_under rfl sums_info) rfl ⟨by rw [HV.out], Below.setRow HB7.out (Nat.le_refl _) _⟩
end Go.Proofs.Ytnakkjgnjffkpaa

/-
  Annals that are none.
-/
import Derived.Test.YtnakkjgnjffkpaaLaw38
namespace Go.Proofs.Ytnakkjgnjffkpaa
open Go.RowKit
set_option linter.unusedVariables false
set_option linter.unusedSimpArgs false

/-- Of these annals it is said, in this world and in what follows, that they are none. -/
def NoAn (w : World) (A : Value) : Prop := ∀ W, Below w.heap.size w W → Calls Try.prog 53 #[A] W fun e w' => e = .returned (.bool false) ∧ W = w'
theorem NoAn.nil (w : World) : NoAn w (.pointer none) := fun W _ => is38_nil W
theorem NoAn.zero {w : World} {g : Nat} {s : Sm} {v : Value} (hr : row w g = some (anC s 0 v)) : NoAn w (.pointer (some ⟨g, 0, none⟩)) := fun W hW => is38_any g s 0 v W ((row_below hW (row_lt hr)).trans hr)
theorem NoAn.stay {w W : World} {A : Value} (h : NoAn w A) (hb : Below w.heap.size w W) : NoAn W A := fun W' hW => h W' (Below.then hb hW)
theorem all38_non (A : Value) (w : World) (hI : NoAn w A) :
    Calls Try.prog 24 #[A] w fun e w' => e = .returned (.agg (smC Sm.zero)) ∧ Below w.heap.size w w' := by
  have r0 : row (w.alloc (.cells (smC Sm.zero) 45)) w.heap.size = some (smC Sm.zero) := row_at _ _ _ _ rfl
  have hB0 : Below w.heap.size w (w.alloc (.cells (smC Sm.zero) 45)) := (by (repeat (first | exact Below.refl _ _ | assumption | (refine Below.allocT ?_ _) | refine Below.drew ?_ | refine below_drewN ?_ _ | (refine Below.then ?_ (by assumption)) | (refine Below.setRow ?_ ?_ _; rotate_left; (focus (first | exact Nat.lt_succ_self _ | ((repeat rw [World.size_alloc]); omega) | (simp; done) | (simp; omega) | omega))) | (refine Below.setCell ?_ ?_ _; rotate_left; (focus (first | exact Nat.lt_succ_self _ | ((repeat rw [World.size_alloc]); omega) | (simp; done) | (simp; omega) | omega))) | (refine Below.then' ?_ (by assumption) ?_; rotate_left; (focus (first | exact Nat.lt_succ_self _ | ((repeat rw [World.size_alloc]); omega) | (simp; done) | (simp; omega) | omega))) | fail)); (first | done | fail))
  have HI := Lib.hid (hI _ hB0)
  clear hI
  go_enter Try.func24, Try.ntmps24
  go_upto_region 1 with fail
  change Code.wp _ _ _ _ (w.alloc (.cells (smC Sm.zero) 45))
  generalize w.alloc (.cells (smC Sm.zero) 45) = w0 at *
  obtain ⟨t9, ht9⟩ := row_heap (row_setRow (new := smC Sm.zero) r0)
  have HT9 := Lib.hid ht9
  clear ht9
  go_wp2_with (first | (go_at_call 53; refine HI.out.mono ?_; rintro e w1 ⟨rfl, rfl⟩) | (refine wpList_build_to (smC Sm.zero) rfl 45 _ rfl (by kernel_rfl) ?_))
  exact bodyPost_ret (v := .agg (smC Sm.zero)) (results_cell_1 Try.results24 _ _ w.heap.size _ (smC Sm.zero) (0, 0) _ rfl HT9.out sums_under rfl sums_info) rfl ⟨rfl, Below.setRow hB0 (Nat.le_refl _) _⟩
theorem at38_non (A : Value) (ep : Int) (w : World) (hI : NoAn w A) :
    Calls Try.prog 20 #[A, .int .i64 ep] w fun e w' => e = .returned (.tuple #[.agg (repC (Rep.zero, RepA.nil)), .int .i64 1]) ∧ Below w.heap.size w w' := by
  have r0 : row (w.alloc (.cells (repC (Rep.zero, RepA.nil)) 36)) w.heap.size = some (repC (Rep.zero, RepA.nil)) := row_at _ _ _ _ rfl
  have hB0 : Below w.heap.size w (w.alloc (.cells (repC (Rep.zero, RepA.nil)) 36)) := (by (repeat (first | exact Below.refl _ _ | assumption | (refine Below.allocT ?_ _) | refine Below.drew ?_ | refine below_drewN ?_ _ | (refine Below.then ?_ (by assumption)) | (refine Below.setRow ?_ ?_ _; rotate_left; (focus (first | exact Nat.lt_succ_self _ | ((repeat rw [World.size_alloc]); omega) | (simp; done) | (simp; omega) | omega))) | (refine Below.setCell ?_ ?_ _; rotate_left; (focus (first | exact Nat.lt_succ_self _ | ((repeat rw [World.size_alloc]); omega) | (simp; done) | (simp; omega) | omega))) | (refine Below.then' ?_ (by assumption) ?_; rotate_left; (focus (first | exact Nat.lt_succ_self _ | ((repeat rw [World.size_alloc]); omega) | (simp; done) | (simp; omega) | omega))) | fail)); (first | done | fail))
  have HI := Lib.hid (hI _ hB0)
  clear hI
  go_enter Try.func20, Try.ntmps20
  go_upto_region 1 with fail
  change Code.wp _ _ _ _ (w.alloc (.cells (repC (Rep.zero, RepA.nil)) 36))
  generalize w.alloc (.cells (repC (Rep.zero, RepA.nil)) 36) = w0 at *
  obtain ⟨t9, ht9⟩ := row_heap (row_setRow (new := repC (Rep.zero, RepA.nil)) r0)
  have HT9 := Lib.hid ht9
  clear ht9
  go_wp2_with (first | (go_at_call 53; refine HI.out.mono ?_; rintro e w1 ⟨rfl, rfl⟩) | (refine wpList_build_to (repC (Rep.zero, RepA.nil)) rfl 36 _ rfl (by kernel_rfl) ?_))
  exact bodyPost_ret (v := .tuple #[.agg (repC (Rep.zero, RepA.nil)), .int .i64 1]) (results_cell_tmp Try.results20 _ _ w.heap.size _ (repC (Rep.zero, RepA.nil)) (0, 0) _ rfl HT9.out rep_under rfl rep_info) rfl ⟨rfl, Below.setRow hB0 (Nat.le_refl _) _⟩
theorem span38_non (A : Value) (w : World) (hI : NoAn w A) :
    Calls Try.prog 23 #[A] w fun e w' => e = .returned (.tuple #[.int .i64 0, .int .i64 0, .bool false]) ∧ Below w.heap.size w w' := by
  have HI := Lib.hid (hI w (Below.refl _ _))
  clear hI
  go_enter Try.func23, Try.ntmps23
  go_wp2_with (go_at_call 53; refine HI.out.mono ?_; rintro e w1 ⟨rfl, rfl⟩)
  go_ret3
  exact ⟨rfl, Below.refl _ _⟩
theorem sum38_non (A : Value) (a b : Int) (w : World) (hI : NoAn w A) :
    Calls Try.prog 18 #[A, .int .i64 a, .int .i64 b] w fun e w' => e = .returned (.tuple #[.agg (smC Sm.zero), .int .i64 1]) ∧ Below w.heap.size w w' := by
  have r0 : row (w.alloc (.cells (smC Sm.zero) 45)) w.heap.size = some (smC Sm.zero) := row_at _ _ _ _ rfl
  have hB0 : Below w.heap.size w (w.alloc (.cells (smC Sm.zero) 45)) := (by (repeat (first | exact Below.refl _ _ | assumption | (refine Below.allocT ?_ _) | refine Below.drew ?_ | refine below_drewN ?_ _ | (refine Below.then ?_ (by assumption)) | (refine Below.setRow ?_ ?_ _; rotate_left; (focus (first | exact Nat.lt_succ_self _ | ((repeat rw [World.size_alloc]); omega) | (simp; done) | (simp; omega) | omega))) | (refine Below.setCell ?_ ?_ _; rotate_left; (focus (first | exact Nat.lt_succ_self _ | ((repeat rw [World.size_alloc]); omega) | (simp; done) | (simp; omega) | omega))) | (refine Below.then' ?_ (by assumption) ?_; rotate_left; (focus (first | exact Nat.lt_succ_self _ | ((repeat rw [World.size_alloc]); omega) | (simp; done) | (simp; omega) | omega))) | fail)); (first | done | fail))
  have HI := Lib.hid (hI _ hB0)
  clear hI
  go_enter Try.func18, Try.ntmps18
  go_upto_region 1 with fail
  change Code.wp _ _ _ _ (w.alloc (.cells (smC Sm.zero) 45))
  generalize w.alloc (.cells (smC Sm.zero) 45) = w0 at *
  obtain ⟨t9, ht9⟩ := row_heap (row_setRow (new := smC Sm.zero) r0)
  have HT9 := Lib.hid ht9
  clear ht9
  go_wp2_with (first | (go_at_call 53; refine HI.out.mono ?_; rintro e w1 ⟨rfl, rfl⟩) | (refine wpList_build_to (smC Sm.zero) rfl 45 _ rfl (by kernel_rfl) ?_))
  exact bodyPost_ret (v := .tuple #[.agg (smC Sm.zero), .int .i64 1]) (results_cell_tmp Try.results18 _ _ w.heap.size _ (smC Sm.zero) (0, 0) _ rfl HT9.out sums_under rfl sums_info) rfl ⟨rfl, Below.setRow hB0 (Nat.le_refl _) _⟩
theorem add38_non (A : Value) (r : Rep) (a : RepA) (w : World) (hI : NoAn w A) :
    Calls Try.prog 15 #[A, .agg (repC (r, a))] w fun e w' => e = .returned (.int .i64 1) ∧ Below w.heap.size w w' := by
  have hB0 : Below w.heap.size w (w.alloc (.cells (repC (r, a)) 36)) := (by (repeat (first | exact Below.refl _ _ | assumption | (refine Below.allocT ?_ _) | refine Below.drew ?_ | refine below_drewN ?_ _ | (refine Below.then ?_ (by assumption)) | (refine Below.setRow ?_ ?_ _; rotate_left; (focus (first | exact Nat.lt_succ_self _ | ((repeat rw [World.size_alloc]); omega) | (simp; done) | (simp; omega) | omega))) | (refine Below.setCell ?_ ?_ _; rotate_left; (focus (first | exact Nat.lt_succ_self _ | ((repeat rw [World.size_alloc]); omega) | (simp; done) | (simp; omega) | omega))) | (refine Below.then' ?_ (by assumption) ?_; rotate_left; (focus (first | exact Nat.lt_succ_self _ | ((repeat rw [World.size_alloc]); omega) | (simp; done) | (simp; omega) | omega))) | fail)); (first | done | fail))
  have HI := Lib.hid (hI _ hB0)
  clear hI
  go_enter Try.func15, Try.ntmps15
  go_upto_region 1 with fail
  change Code.wp _ _ _ _ (w.alloc (.cells (repC (r, a)) 36))
  generalize w.alloc (.cells (repC (r, a)) 36) = w0 at *
  go_wp2_with (go_at_call 53; refine HI.out.mono ?_; rintro e w1 ⟨rfl, rfl⟩)
  first
    | (go_ret; exact ⟨rfl, hB0⟩)
    | exact ⟨rfl, hB0⟩
end Go.Proofs.Ytnakkjgnjffkpaa

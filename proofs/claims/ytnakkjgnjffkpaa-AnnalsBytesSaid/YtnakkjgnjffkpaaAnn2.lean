/-
  Annals: At, Span, All; what those that are none do.
-/
import Derived.Test.YtnakkjgnjffkpaaAnn
namespace Go.Proofs.Ytnakkjgnjffkpaa
open Go.RowKit
set_option linter.unusedVariables false
set_option linter.unusedSimpArgs false

/-- What Span tells. -/
def spanV (l : List (Rep × RepA)) : Value := match l.head?, l.getLast? with
  | some x, some y => .tuple #[.int .i64 x.1.epoch, .int .i64 y.1.epoch, .bool true]
  | _, _ => .tuple #[.int .i64 0, .int .i64 0, .bool false]
set_option maxRecDepth 100000 in
theorem all38_any (E : Nat → Prop) (g most : Nat) (s : Sm) (v : Value) (l : List (Rep × RepA)) (w : World) (hA : AnAt w E g most s v l) :
    Calls Try.prog 24 #[.pointer (some ⟨g, 0, none⟩)] w fun e w' => e = .returned (.agg (smC s)) ∧ Below w.heap.size w w' := by
  have r0 : row (w.alloc (.cells (smC Sm.zero) 45)) w.heap.size = some (smC Sm.zero) := row_at _ _ _ _ rfl
  have q0 : row (w.alloc (.cells (smC Sm.zero) 45)) g = some (anC s most v) := (row_past _ _ _ (row_lt hA.row)).trans hA.row
  have hB0 : Below w.heap.size w (w.alloc (.cells (smC Sm.zero) 45)) := (by (repeat (first | exact Below.refl _ _ | assumption | (refine Below.allocT ?_ _) | refine Below.drew ?_ | refine below_drewN ?_ _ | (refine Below.then ?_ (by assumption)) | (refine Below.setRow ?_ ?_ _; rotate_left; (focus (first | exact Nat.lt_succ_self _ | ((repeat rw [World.size_alloc]); omega) | (simp; done) | (simp; omega) | omega))) | (refine Below.setCell ?_ ?_ _; rotate_left; (focus (first | exact Nat.lt_succ_self _ | ((repeat rw [World.size_alloc]); omega) | (simp; done) | (simp; omega) | omega))) | (refine Below.then' ?_ (by assumption) ?_; rotate_left; (focus (first | exact Nat.lt_succ_self _ | ((repeat rw [World.size_alloc]); omega) | (simp; done) | (simp; omega) | omega))) | fail)); (first | done | fail))
  have HI := Lib.hid (is38_any g s most v _ q0)
  rw [decide_eq_true hA.pos] at HI
  clear hA
  go_enter Try.func24, Try.ntmps24
  go_upto_region 1 with fail
  change Code.wp _ _ _ _ (w.alloc (.cells (smC Sm.zero) 45))
  generalize w.alloc (.cells (smC Sm.zero) 45) = w0 at *
  obtain ⟨t9, ht9⟩ := row_heap (row_setRow (new := smC s) r0)
  have HT9 := Lib.hid ht9
  clear ht9
  go_wp2_with (go_at_call 53; refine HI.out.mono ?_; rintro e w1 ⟨rfl, rfl⟩)
  exact bodyPost_ret (v := .agg (smC s)) (results_cell_1 Try.results24 _ _ w.heap.size _ (smC s) (0, 0) _ rfl HT9.out sums_under rfl sums_info) rfl ⟨rfl, Below.setRow hB0 (Nat.le_refl _) _⟩
theorem all38_no (A : Value) (hI : ∀ w, Calls Try.prog 53 #[A] w fun e w' => e = .returned (.bool false) ∧ w = w') (w : World) :
    Calls Try.prog 24 #[A] w fun e w' => e = .returned (.agg (smC Sm.zero)) ∧ Below w.heap.size w w' := by
  have r0 : row (w.alloc (.cells (smC Sm.zero) 45)) w.heap.size = some (smC Sm.zero) := row_at _ _ _ _ rfl
  have hB0 : Below w.heap.size w (w.alloc (.cells (smC Sm.zero) 45)) := (by (repeat (first | exact Below.refl _ _ | assumption | (refine Below.allocT ?_ _) | refine Below.drew ?_ | refine below_drewN ?_ _ | (refine Below.then ?_ (by assumption)) | (refine Below.setRow ?_ ?_ _; rotate_left; (focus (first | exact Nat.lt_succ_self _ | ((repeat rw [World.size_alloc]); omega) | (simp; done) | (simp; omega) | omega))) | (refine Below.setCell ?_ ?_ _; rotate_left; (focus (first | exact Nat.lt_succ_self _ | ((repeat rw [World.size_alloc]); omega) | (simp; done) | (simp; omega) | omega))) | (refine Below.then' ?_ (by assumption) ?_; rotate_left; (focus (first | exact Nat.lt_succ_self _ | ((repeat rw [World.size_alloc]); omega) | (simp; done) | (simp; omega) | omega))) | fail)); (first | done | fail))
  have HI := Lib.hid hI
  clear hI
  go_enter Try.func24, Try.ntmps24
  go_upto_region 1 with fail
  change Code.wp _ _ _ _ (w.alloc (.cells (smC Sm.zero) 45))
  generalize w.alloc (.cells (smC Sm.zero) 45) = w0 at *
  obtain ⟨t9, ht9⟩ := row_heap (row_setRow (new := smC Sm.zero) r0)
  have HT9 := Lib.hid ht9
  clear ht9
  go_wp2_with (first | (go_at_call 53; refine (HI.out _).mono ?_; rintro e w1 ⟨rfl, rfl⟩) | (refine wpList_build_to (smC Sm.zero) rfl 45 _ rfl (by kernel_rfl) ?_))
  exact bodyPost_ret (v := .agg (smC Sm.zero)) (results_cell_1 Try.results24 _ _ w.heap.size _ (smC Sm.zero) (0, 0) _ rfl HT9.out sums_under rfl sums_info) rfl ⟨rfl, Below.setRow hB0 (Nat.le_refl _) _⟩
/-- What At leaves: the report, its lists in memory of its own. -/
def AtPost38 (w : World) (ep : Int) (l : List (Rep × RepA)) (e : Ending) (w' : World) : Prop := Below w.heap.size w w' ∧ match (fndN ep l).bind (fun k => l[k]?) with
  | some x => ∃ a, e = .returned (.tuple #[.agg (repC (x.1, a)), .int .i64 0]) ∧ RepAt w' (x.1, a)
  | none => e = .returned (.tuple #[.agg (repC (Rep.zero, RepA.nil)), .int .i64 200])
theorem OwnC.at_ {α : Type} {T : TypeId} {C : Nat} {f : α → Array Value} (hC : ∀ x, (f x).size = C) {W : World} {B : Nat} {A : Option Addr} {n c : Nat} {l : List α} (h : OwnC T C f W B (.slice A n c) l) : SliceOf C f W A l := by
  obtain ⟨A', c', hv, hS, _⟩ := h.form hC
  cases hv
  exact hS
theorem OwnC.block {α : Type} {T : TypeId} {C : Nat} {f : α → Array Value} {W : World} {B : Nat} {A : Option Addr} {n c k : Nat} {l : List α} (h : OwnC T C f W B (.slice A n c) l) (hk : ∃ a, A = some a ∧ a.block = k) : B ≤ k ∧ k < W.heap.size := by
  obtain ⟨a, rfl, rfl⟩ := hk
  exact h.lt _ rfl
theorem OwnPost.at_ {w w' : World} {r : Rep} {e : Ending} (h : OwnPost w r e w') : ∃ a, e = .returned (.agg (repC (r, a))) ∧ Below w.heap.size w w' ∧ RepAt w' (r, a) ∧ ∀ k, RepB (r, a) k → w.heap.size ≤ k ∧ k < w'.heap.size := by
  obtain ⟨a, rfl, hb, h1, h2, h3, h4⟩ := h
  refine ⟨a, rfl, hb, ⟨h1.at_ intK_size, h2.at_ intK_size, h3.at_ intK_size, h4.at_ intK_size, h1.cap, h2.cap, h3.cap, h4.cap⟩, fun k hk => ?_⟩
  rcases hk with hk | hk | hk | hk
  · exact h1.block hk.2
  · exact h2.block hk.2
  · exact h3.block hk.2
  · exact h4.block hk.2
set_option maxRecDepth 100000 in
set_option maxHeartbeats 4000000 in
theorem at38_any (E : Nat → Prop) (g most : Nat) (s : Sm) (v : Value) (l : List (Rep × RepA)) (ep : Int) (w : World) (hA : AnAt w E g most s v l) :
    Calls Try.prog 20 #[.pointer (some ⟨g, 0, none⟩), .int .i64 ep] w (AtPost38 w ep l) := by
  have r0 : row (w.alloc (.cells (repC (Rep.zero, RepA.nil)) 36)) w.heap.size = some (repC (Rep.zero, RepA.nil)) := row_at _ _ _ _ rfl
  have hB0 : Below w.heap.size w (w.alloc (.cells (repC (Rep.zero, RepA.nil)) 36)) := (by (repeat (first | exact Below.refl _ _ | assumption | (refine Below.allocT ?_ _) | refine Below.drew ?_ | refine below_drewN ?_ _ | (refine Below.then ?_ (by assumption)) | (refine Below.setRow ?_ ?_ _; rotate_left; (focus (first | exact Nat.lt_succ_self _ | ((repeat rw [World.size_alloc]); omega) | (simp; done) | (simp; omega) | omega))) | (refine Below.setCell ?_ ?_ _; rotate_left; (focus (first | exact Nat.lt_succ_self _ | ((repeat rw [World.size_alloc]); omega) | (simp; done) | (simp; omega) | omega))) | (refine Below.then' ?_ (by assumption) ?_; rotate_left; (focus (first | exact Nat.lt_succ_self _ | ((repeat rw [World.size_alloc]); omega) | (simp; done) | (simp; omega) | omega))) | fail)); (first | done | fail))
  have A0 : AnAt (w.alloc (.cells (repC (Rep.zero, RepA.nil)) 36)) E g most s v l := hA.stay hB0
  have hg : g < w.heap.size := row_lt hA.row
  clear hA
  generalize hw0 : w.alloc (.cells (repC (Rep.zero, RepA.nil)) 36) = w0 at *
  have HI := Lib.hid (is38_any g s most v _ A0.row)
  rw [decide_eq_true A0.pos] at HI
  have HF := Lib.hid (find38_any E g most s v l ep w0 A0)
  obtain ⟨A, c, rfl, hS, _⟩ := A0.form
  have HP : Hid (∀ e w', AtPost38 w ep l e w' ↔ (Below w.heap.size w w' ∧ match (fndN ep l).bind (fun k => l[k]?) with
  | some x => ∃ a, e = .returned (.tuple #[.agg (repC (x.1, a)), .int .i64 0]) ∧ RepAt w' (x.1, a)
  | none => e = .returned (.tuple #[.agg (repC (Rep.zero, RepA.nil)), .int .i64 200]))) := Lib.hid fun e w' => Iff.rfl
  generalize hpp : AtPost38 w ep l = PP at *
  clear hpp
  cases hk : fndN ep l with
  | none =>
    rw [hk] at HP
    rw [show fndI ep l = -1 by unfold fndI; rw [hk]] at HF
    clear hk A0 hS
    go_enter Try.func20, Try.ntmps20
    go_upto_region 1 with fail
    change Code.wp _ _ _ _ (w.alloc (.cells (repC (Rep.zero, RepA.nil)) 36))
    rw [hw0]
    clear hw0
    go_upto_region 5 with (first | (go_at_call 53; refine HI.out.mono ?_; rintro e w1 ⟨rfl, rfl⟩) | (go_at_call 61; refine HF.out.mono ?_; rintro e w2 ⟨rfl, hb2⟩))
    have r2 := below_row hb2 r0 (row_lt r0)
    have HB2 := Lib.hid (Below.then hB0 hb2)
    obtain ⟨t9, ht9⟩ := row_heap (row_setRow (new := repC (Rep.zero, RepA.nil)) r2)
    have HT9 := Lib.hid ht9
    clear ht9 hB0 hb2 r0
    go_wp2_with (refine wpList_build_to (repC (Rep.zero, RepA.nil)) rfl 36 _ rfl (by kernel_rfl) ?_)
    exact bodyPost_ret (v := .tuple #[.agg (repC (Rep.zero, RepA.nil)), .int .i64 200]) (results_cell_tmp Try.results20 _ _ w.heap.size _ (repC (Rep.zero, RepA.nil)) (0, 0) _ rfl HT9.out rep_under rfl rep_info) rfl ((HP.out _ _).2 ⟨Below.setRow HB2.out (Nat.le_refl _) _, rfl⟩)
  | some k =>
    obtain ⟨hkl, ⟨r, a⟩, hx, hxe⟩ := fndN_lt ep l k hk
    rw [hk, show (some k).bind (fun k => l[k]?) = some (r, a) from hx] at HP
    rw [show fndI ep l = (k : Int) by unfold fndI; rw [hk]] at HF
    obtain ⟨b, off, rfl, hbb, hcell⟩ := hS (by omega)
    have hmem := List.mem_of_getElem? hx
    have HC := Lib.hid (hcell k _ hx)
    have HO : Hid (∀ W, Below w0.heap.size w0 W → Calls Try.prog 57 #[.agg (repC (r, a))] W (OwnPost W r)) := Lib.hid fun W h => own38_any r a W ((A0.reps _ hmem).below h (Nat.le_refl _)) (A0.small _ hmem)
    have HR : Hid (row w0 g = some (anC s most (.slice (some ⟨b, off, none⟩) l.length c))) := Lib.hid A0.row
    have hlen : l.length ≤ 1000 := A0.few
    have hi : (Try.prog.info? 36).map (·.size) = some (repC (r, a)).toList.length := by rw [rep_info]; rfl
    have z1 : (0 : Int) ≤ (k : Int) := by omega
    have z2 : (k : Int) < (l.length : Int) := by omega
    generalize l.length = n at *
    clear hk A0 hx hmem hcell
    go_enter Try.func20, Try.ntmps20
    go_upto_region 1 with fail
    change Code.wp _ _ _ _ (w.alloc (.cells (repC (Rep.zero, RepA.nil)) 36))
    rw [hw0]
    clear hw0
    go_upto_region 6 with (first | (go_at_call 53; refine HI.out.mono ?_; rintro e w1 ⟨rfl, rfl⟩) | (go_at_call 61; refine HF.out.mono ?_; rintro e w2 ⟨rfl, hb2⟩))
    have r2 := below_row hb2 r0 (row_lt r0)
    have k13 : w2.cell? ⟨g, 13, none⟩ = some (.slice (some ⟨b, off, none⟩) n c) := row_cell (below_row hb2 HR.out (row_lt HR.out)) 13
    have hr := range_below HC.out hb2 hbb
    have hbw := Below.then hB0 hb2
    have HB2 := Lib.hid (And.intro hbw hb2)
    clear hB0 hb2 r0 hbw
    go_wp2_with (first | (refine wpList_load_mid rfl 36 _ (by rfl) b (off + k * 14) (by rfl) (repC (r, a)).toList _ hr rep_under rfl hi ?_) | (go_at_call 57; refine (HO.out _ HB2.out.2).mono ?_; intro e w3 h3; obtain ⟨a', rfl, hb3, hR3, hK3⟩ := h3.at_; have HK3 : Hid (∀ k, RepB (r, a') k → k ≠ w.heap.size) := Lib.hid (fun k hk => by have := (hK3 k hk).1; have := row_lt r2; omega); have r3 := below_row hb3 r2 (row_lt r2); have HB3 := Lib.hid (Below.then HB2.out.1 hb3); obtain ⟨t9, ht9⟩ := row_heap (row_setRow (new := repC (r, a')) r3); have HT9 := Lib.hid ht9; have HR3 := Lib.hid hR3; clear ht9 hb3 r2 h3 hR3 hK3))
    exact bodyPost_ret (v := .tuple #[.agg (repC (r, a')), .int .i64 0]) (results_cell_tmp Try.results20 _ _ w.heap.size _ (repC (r, a')) (0, 0) _ rfl HT9.out rep_under rfl rep_info) rfl ((HP.out _ _).2 ⟨Below.setRow HB3.out (Nat.le_refl _) _, a', rfl, HR3.out.chg ((Chg.refl (fun k => k = w.heap.size) w3).setRow (.inl rfl) _) (fun k hk => HK3.out k hk)⟩)
set_option maxRecDepth 100000 in
theorem at38_no (A : Value) (hI : ∀ w, Calls Try.prog 53 #[A] w fun e w' => e = .returned (.bool false) ∧ w = w') (ep : Int) (w : World) :
    Calls Try.prog 20 #[A, .int .i64 ep] w fun e w' => e = .returned (.tuple #[.agg (repC (Rep.zero, RepA.nil)), .int .i64 1]) ∧ Below w.heap.size w w' := by
  have r0 : row (w.alloc (.cells (repC (Rep.zero, RepA.nil)) 36)) w.heap.size = some (repC (Rep.zero, RepA.nil)) := row_at _ _ _ _ rfl
  have hB0 : Below w.heap.size w (w.alloc (.cells (repC (Rep.zero, RepA.nil)) 36)) := (by (repeat (first | exact Below.refl _ _ | assumption | (refine Below.allocT ?_ _) | refine Below.drew ?_ | refine below_drewN ?_ _ | (refine Below.then ?_ (by assumption)) | (refine Below.setRow ?_ ?_ _; rotate_left; (focus (first | exact Nat.lt_succ_self _ | ((repeat rw [World.size_alloc]); omega) | (simp; done) | (simp; omega) | omega))) | (refine Below.setCell ?_ ?_ _; rotate_left; (focus (first | exact Nat.lt_succ_self _ | ((repeat rw [World.size_alloc]); omega) | (simp; done) | (simp; omega) | omega))) | (refine Below.then' ?_ (by assumption) ?_; rotate_left; (focus (first | exact Nat.lt_succ_self _ | ((repeat rw [World.size_alloc]); omega) | (simp; done) | (simp; omega) | omega))) | fail)); (first | done | fail))
  have HI := Lib.hid hI
  clear hI
  go_enter Try.func20, Try.ntmps20
  go_upto_region 1 with fail
  change Code.wp _ _ _ _ (w.alloc (.cells (repC (Rep.zero, RepA.nil)) 36))
  generalize w.alloc (.cells (repC (Rep.zero, RepA.nil)) 36) = w0 at *
  obtain ⟨t9, ht9⟩ := row_heap (row_setRow (new := repC (Rep.zero, RepA.nil)) r0)
  have HT9 := Lib.hid ht9
  clear ht9
  go_wp2_with (first | (go_at_call 53; refine (HI.out _).mono ?_; rintro e w1 ⟨rfl, rfl⟩) | (refine wpList_build_to (repC (Rep.zero, RepA.nil)) rfl 36 _ rfl (by kernel_rfl) ?_))
  exact bodyPost_ret (v := .tuple #[.agg (repC (Rep.zero, RepA.nil)), .int .i64 1]) (results_cell_tmp Try.results20 _ _ w.heap.size _ (repC (Rep.zero, RepA.nil)) (0, 0) _ rfl HT9.out rep_under rfl rep_info) rfl ⟨rfl, Below.setRow hB0 (Nat.le_refl _) _⟩
set_option maxRecDepth 100000 in
set_option maxHeartbeats 4000000 in
theorem span38_any (E : Nat → Prop) (g most : Nat) (s : Sm) (v : Value) (l : List (Rep × RepA)) (w : World) (hA : AnAt w E g most s v l) :
    Calls Try.prog 23 #[.pointer (some ⟨g, 0, none⟩)] w fun e w' => e = .returned (spanV l) ∧ ∃ k, w' = w.drewN k := by
  have HI := Lib.hid (is38_any g s most v w hA.row)
  rw [decide_eq_true hA.pos] at HI
  obtain ⟨A, c, rfl, hS, _⟩ := hA.form
  have k13 : w.cell? ⟨g, 13, none⟩ = some (.slice A l.length c) := row_cell hA.row 13
  have hlen : l.length ≤ 1000 := hA.few
  by_cases h0 : l.length = 0
  · have hl : l = [] := List.eq_nil_of_length_eq_zero h0
    have HV : Hid (spanV l = .tuple #[.int .i64 0, .int .i64 0, .bool false]) := Lib.hid (by rw [hl]; rfl)
    rw [h0] at k13
    clear hA hS
    go_enter Try.func23, Try.ntmps23
    go_wp2_with (go_at_call 53; refine HI.out.mono ?_; rintro e w1 ⟨rfl, rfl⟩)
    go_ret3
    exact ⟨by rw [HV.out]; rfl, 0, rfl⟩
  · obtain ⟨x, hx⟩ : ∃ x, l[0]? = some x := ⟨_, List.getElem?_eq_getElem (by omega)⟩
    obtain ⟨y, hy⟩ : ∃ y, l[l.length - 1]? = some y := ⟨_, List.getElem?_eq_getElem (by omega)⟩
    have HV : Hid (spanV l = .tuple #[.int .i64 x.1.epoch, .int .i64 y.1.epoch, .bool true]) := Lib.hid (by
      unfold spanV
      rw [List.head?_eq_getElem?, hx, List.getLast?_eq_getElem?, hy])
    obtain ⟨b, off, rfl, hbb, hcell⟩ := hS (by omega)
    have cx : w.cell? ⟨b, off, none⟩ = some (.int .i64 x.1.epoch) := by have := hcell 0 x hx 0 _ rfl; simpa using this
    have cy : w.cell? ⟨b, off + (l.length - 1) * 14, none⟩ = some (.int .i64 y.1.epoch) := by have := hcell _ y hy 0 _ rfl; simpa using this
    have z0 : (l.length : Int) - 1 = ((l.length - 1 : Nat) : Int) := by omega
    have z1 : IntKind.i64.wrap ((l.length : Int) - 1) = ((l.length - 1 : Nat) : Int) := by rw [IntKind.wrap_i64]; omega
    have z2 : (0 : Int) < (l.length : Int) := by omega
    have z3 : ((l.length : Int) == 0) = false := beq_eq_false_iff_ne.2 (by omega)
    have z4 : ((l.length - 1 : Nat) : Int) < (l.length : Int) := by omega
    have z5 : (0 : Int) ≤ ((l.length - 1 : Nat) : Int) := by omega
    have z6 : ¬ l = [] := fun e => h0 (by rw [e]; rfl)
    generalize hm : l.length - 1 = m at *
    generalize l.length = n at *
    clear hA hcell hx hy hm
    go_enter Try.func23, Try.ntmps23
    go_upto_region 3 with (go_at_call 53; refine HI.out.mono ?_; rintro e w1 ⟨rfl, rfl⟩)
    go_quiet (fail)
    go_wp2_with fail
    go_ret3
    exact ⟨by rw [HV.out]; rfl, _, rfl⟩
theorem span38_no (A : Value) (hI : ∀ w, Calls Try.prog 53 #[A] w fun e w' => e = .returned (.bool false) ∧ w = w') (w : World) :
    Calls Try.prog 23 #[A] w fun e w' => e = .returned (.tuple #[.int .i64 0, .int .i64 0, .bool false]) ∧ w = w' := by
  have HI := Lib.hid hI
  clear hI
  go_enter Try.func23, Try.ntmps23
  go_wp2_with (go_at_call 53; refine (HI.out _).mono ?_; rintro e w1 ⟨rfl, rfl⟩)
  go_ret3
  exact ⟨rfl, rfl⟩
end Go.Proofs.Ytnakkjgnjffkpaa

/-
  slices.Clone of numbers and of reports; a report in memory of its own.
-/
import Derived.Test.YtnakkjgnjffkpaaTog
import Derived.Deep.DeepCutAuto
namespace Go.Proofs.Ytnakkjgnjffkpaa
open Go.RowKit
set_option linter.unusedVariables false

section
variable {α : Type} {T : TypeId} {C : Nat} {f : α → Array Value}
theorem OwnC.lit0 (w : World) (B : Nat) (hB : B ≤ w.heap.size) : OwnC T C f (w.alloc (.cells #[] T)) B (.slice (some ⟨w.heap.size, 0, none⟩) 0 0) ([] : List α) := by
  refine ⟨by simp, .inr ⟨w.heap.size, 0, #[], rfl, hB, ?_, Nat.le_refl _, Nat.zero_le _, by simp, by simp⟩⟩
  exact heap_at w _ _ rfl
/-- What slices.Clone leaves: a list of its own, none of none. -/
def ClonePost (T : TypeId) (C : Nat) (f : α → Array Value) (w : World) (A : Option Addr) (l : List α) (e : Ending) (w' : World) : Prop := ∃ A' c', e = .returned (.slice A' l.length c') ∧ OwnC T C f w' w.heap.size (.slice A' l.length c') l ∧ Below w.heap.size w w' ∧ (A' = none → c' = 0)
end
theorem OwnC.cap {α : Type} {T : TypeId} {C : Nat} {f : α → Array Value} {W : World} {B : Nat} {A : Option Addr} {n c : Nat} {l : List α} (h : OwnC T C f W B (.slice A n c) l) : A = none → c = 0 := fun hA => by
  subst hA
  rcases h.2 with ⟨hn, _⟩ | ⟨g, cap, cur, hv, _⟩
  · cases hn; rfl
  · cases hv
theorem ints_under' : Try.prog.underlying 34 = some (.slice 3) := by kernel_rfl
theorem ints_eql (w : World) (A : Option Addr) (n c : Nat) : (binOp .eql 34 (.slice A n c) (.slice none 0 0)).run Try.prog w = .ok (.bool A.isNone) w := Lib.run_eql_slice_nil w 34 3 A n c 0 0 ints_under'
attribute [go_sem ↓] ints_eql
theorem int_info' : (Try.prog.info? 3).map (fun i => (i.zero, i.size, i.bytes)) = some (some (.int .i64 0), 1, 8) := by kernel_rfl
theorem reps_under' : Try.prog.underlying 22 = some (.slice 36) := by kernel_rfl
theorem reps_eql (w : World) (A : Option Addr) (n c : Nat) : (binOp .eql 22 (.slice A n c) (.slice none 0 0)).run Try.prog w = .ok (.bool A.isNone) w := Lib.run_eql_slice_nil w 22 36 A n c 0 0 reps_under'
attribute [go_sem ↓] reps_eql
def repZ : Value := .agg #[.int .i64 0, .int .i64 0, .bool false, .int .u64 0, .int .u64 0, .int .u64 0, .int .u64 0, .int .u64 0, .int .u64 0, .int .u64 0, .slice none 0 0, .slice none 0 0, .slice none 0 0, .slice none 0 0]
theorem rep_info' : (Try.prog.info? 36).map (fun i => (i.zero, i.size, i.bytes)) = some (some repZ, 14, 176) := by kernel_rfl
set_option maxHeartbeats 2000000 in
set_option maxRecDepth 100000 in
theorem clone_ints (A : Option Addr) (n c : Nat) (l : List Int) (hn : l.length = n) (h0 : A = none → c = 0) (hm : n ≤ 1000000) (w : World) (hA : SliceOf 1 intK w A l) : Calls Try.prog 116 #[.slice A n c] w (ClonePost 3 1 intK w A l) := by
  cases A with
  | none =>
    have hn0 : n = 0 := by
      rcases Nat.eq_zero_or_pos l.length with h | h
      · omega
      · obtain ⟨_, _, e, _⟩ := hA h; cases e
    have hc0 := h0 rfl
    subst hn0; subst hc0
    have hl : l = [] := List.eq_nil_of_length_eq_zero hn
    subst hl
    have HP : Hid (∀ e w', e = .returned (.slice none 0 0) → w' = w → ClonePost 3 1 intK w none ([] : List Int) e w') := Lib.hid fun e w' he hw => by subst he hw; exact ⟨none, 0, rfl, OwnC.nil _ _, Below.refl _ _, fun _ => rfl⟩
    clear hA h0 hm hn
    go_enter Try.func116, Try.ntmps116
    go_wp2_with fail
    go_ret
    exact HP.out _ _ rfl rfl
  | some x =>
    have HA := Lib.hid hA
    have HN := Lib.hid hn
    clear hA h0 hn
    have HO : Hid (OwnC 3 1 intK (w.alloc (.cells #[] 3)) w.heap.size (.slice (some ⟨w.heap.size, 0, none⟩) 0 0) ([] : List Int)) := Lib.hid (OwnC.lit0 w _ (Nat.le_refl _))
    go_enter Try.func116, Try.ntmps116
    go_wp2_with (at_builtin; refine wpList_append_a ints_under' int_info' rfl (by decide) (by decide) intK_size intK_one rfl _ _ rfl w.heap.size _ _ l _ _ _ HO.out (HA.out.below (show Below w.heap.size w _ from (by (repeat (first | exact Below.refl _ _ | assumption | (refine Below.allocT ?_ _) | refine Below.drew ?_ | refine below_drewN ?_ _ | (refine Below.then ?_ (by assumption)) | (refine Below.setRow ?_ ?_ _; rotate_left; (focus (first | exact Nat.lt_succ_self _ | ((repeat rw [World.size_alloc]); omega) | (simp; done) | (simp; omega) | omega))) | (refine Below.setCell ?_ ?_ _; rotate_left; (focus (first | exact Nat.lt_succ_self _ | ((repeat rw [World.size_alloc]); omega) | (simp; done) | (simp; omega) | omega))) | (refine Below.then' ?_ (by assumption) ?_; rotate_left; (focus (first | exact Nat.lt_succ_self _ | ((repeat rw [World.size_alloc]); omega) | (simp; done) | (simp; omega) | omega))) | fail)); (first | done | fail))) (Nat.le_refl _)) rfl rfl HN.out (by rw [HN.out]; simp; omega) (by rw [World.size_alloc]; omega) ?_; intro v' w' hAp; have HAp := Lib.hid hAp; clear hAp)
    obtain ⟨A', c', rfl⟩ := HAp.out.form (k := l.length) (by simp)
    go_ret
    have h1 : OwnC 3 1 intK w' w.heap.size (.slice A' l.length c') l := by simpa using HAp.out.1
    refine ⟨A', c', rfl, h1, ?_, h1.cap⟩
    have hb : Below w.heap.size w (w.alloc (.cells #[] 3)) := (by (repeat (first | exact Below.refl _ _ | assumption | (refine Below.allocT ?_ _) | refine Below.drew ?_ | refine below_drewN ?_ _ | (refine Below.then ?_ (by assumption)) | (refine Below.setRow ?_ ?_ _; rotate_left; (focus (first | exact Nat.lt_succ_self _ | ((repeat rw [World.size_alloc]); omega) | (simp; done) | (simp; omega) | omega))) | (refine Below.setCell ?_ ?_ _; rotate_left; (focus (first | exact Nat.lt_succ_self _ | ((repeat rw [World.size_alloc]); omega) | (simp; done) | (simp; omega) | omega))) | (refine Below.then' ?_ (by assumption) ?_; rotate_left; (focus (first | exact Nat.lt_succ_self _ | ((repeat rw [World.size_alloc]); omega) | (simp; done) | (simp; omega) | omega))) | fail)); (first | done | fail))
    exact hb.grown HAp.out.2.1 (by rw [World.size_alloc]; omega) (fun k hk => by cases hk; exact Nat.le_refl _)
set_option maxHeartbeats 2000000 in
set_option maxRecDepth 100000 in
theorem clone_reps (A : Option Addr) (n c : Nat) (l : List (Rep × RepA)) (hn : l.length = n) (h0 : A = none → c = 0) (hm : n ≤ 1000000) (w : World) (hA : SliceOf 14 repC w A l) : Calls Try.prog 58 #[.slice A n c] w (ClonePost 36 14 repC w A l) := by
  cases A with
  | none =>
    have hn0 : n = 0 := by
      rcases Nat.eq_zero_or_pos l.length with h | h
      · omega
      · obtain ⟨_, _, e, _⟩ := hA h; cases e
    have hc0 := h0 rfl
    subst hn0; subst hc0
    have hl : l = [] := List.eq_nil_of_length_eq_zero hn
    subst hl
    have HP : Hid (∀ e w', e = .returned (.slice none 0 0) → w' = w → ClonePost 36 14 repC w none ([] : List (Rep × RepA)) e w') := Lib.hid fun e w' he hw => by subst he hw; exact ⟨none, 0, rfl, OwnC.nil _ _, Below.refl _ _, fun _ => rfl⟩
    clear hA h0 hm hn
    go_enter Try.func58, Try.ntmps58
    go_wp2_with fail
    go_ret
    exact HP.out _ _ rfl rfl
  | some x =>
    have HA := Lib.hid hA
    have HN := Lib.hid hn
    clear hA h0 hn
    have HO : Hid (OwnC 36 14 repC (w.alloc (.cells #[] 36)) w.heap.size (.slice (some ⟨w.heap.size, 0, none⟩) 0 0) ([] : List (Rep × RepA))) := Lib.hid (OwnC.lit0 w _ (Nat.le_refl _))
    go_enter Try.func58, Try.ntmps58
    go_wp2_with (at_builtin; refine wpList_append_a reps_under' rep_info' rfl (by decide) (by decide) repC_size repC_one rfl _ _ rfl w.heap.size _ _ l _ _ _ HO.out (HA.out.below (show Below w.heap.size w _ from (by (repeat (first | exact Below.refl _ _ | assumption | (refine Below.allocT ?_ _) | refine Below.drew ?_ | refine below_drewN ?_ _ | (refine Below.then ?_ (by assumption)) | (refine Below.setRow ?_ ?_ _; rotate_left; (focus (first | exact Nat.lt_succ_self _ | ((repeat rw [World.size_alloc]); omega) | (simp; done) | (simp; omega) | omega))) | (refine Below.setCell ?_ ?_ _; rotate_left; (focus (first | exact Nat.lt_succ_self _ | ((repeat rw [World.size_alloc]); omega) | (simp; done) | (simp; omega) | omega))) | (refine Below.then' ?_ (by assumption) ?_; rotate_left; (focus (first | exact Nat.lt_succ_self _ | ((repeat rw [World.size_alloc]); omega) | (simp; done) | (simp; omega) | omega))) | fail)); (first | done | fail))) (Nat.le_refl _)) rfl rfl HN.out (by rw [HN.out]; simp; omega) (by rw [World.size_alloc]; omega) ?_; intro v' w' hAp; have HAp := Lib.hid hAp; clear hAp)
    obtain ⟨A', c', rfl⟩ := HAp.out.form (k := l.length) (by simp)
    go_ret
    have h1 : OwnC 36 14 repC w' w.heap.size (.slice A' l.length c') l := by simpa using HAp.out.1
    refine ⟨A', c', rfl, h1, ?_, h1.cap⟩
    have hb : Below w.heap.size w (w.alloc (.cells #[] 36)) := (by (repeat (first | exact Below.refl _ _ | assumption | (refine Below.allocT ?_ _) | refine Below.drew ?_ | refine below_drewN ?_ _ | (refine Below.then ?_ (by assumption)) | (refine Below.setRow ?_ ?_ _; rotate_left; (focus (first | exact Nat.lt_succ_self _ | ((repeat rw [World.size_alloc]); omega) | (simp; done) | (simp; omega) | omega))) | (refine Below.setCell ?_ ?_ _; rotate_left; (focus (first | exact Nat.lt_succ_self _ | ((repeat rw [World.size_alloc]); omega) | (simp; done) | (simp; omega) | omega))) | (refine Below.then' ?_ (by assumption) ?_; rotate_left; (focus (first | exact Nat.lt_succ_self _ | ((repeat rw [World.size_alloc]); omega) | (simp; done) | (simp; omega) | omega))) | fail)); (first | done | fail))
    exact hb.grown HAp.out.2.1 (by rw [World.size_alloc]; omega) (fun k hk => by cases hk; exact Nat.le_refl _)
def Rep.zero : Rep := ⟨0, 0, false, 0, 0, 0, 0, 0, 0, 0, [], [], [], []⟩
def RepA.nil : RepA := ⟨none, 0, none, 0, none, 0, none, 0⟩
theorem RepAt.zero (W : World) : RepAt W (Rep.zero, RepA.nil) := ⟨SliceOf.nil _ _, SliceOf.nil _ _, SliceOf.nil _ _, SliceOf.nil _ _, fun _ => rfl, fun _ => rfl, fun _ => rfl, fun _ => rfl⟩
theorem OwnC.set {α : Type} {T : TypeId} {C : Nat} {f : α → Array Value} {W : World} {B : Nat} {v : Value} {l : List α} (h : OwnC T C f W B v l) (p : Addr) (hp : p.block < B) (u : Value) : OwnC T C f (W.setCell p u) B v l := h.chg ((Chg.refl (fun k => k = p.block) W).setCell (p := p) (.inl rfl) u) (fun k hk e => by have := (h.lt k hk).1; omega)
theorem OwnC.setRow {α : Type} {T : TypeId} {C : Nat} {f : α → Array Value} {W : World} {B : Nat} {v : Value} {l : List α} (h : OwnC T C f W B v l) (g : Nat) (hp : g < B) (cs : Array Value) : OwnC T C f (W.setRow g cs) B v l := h.chg ((Chg.refl (fun k => k = g) W).setRow (.inl rfl) cs) (fun k hk e => by have := (h.lt k hk).1; omega)
theorem below_row {w W : World} {B g : Nat} {cs : Array Value} (h : Below B w W) (hr : row w g = some cs) (hg : g < B) : row W g = some cs := (row_below h hg).trans hr
/-- What own leaves: the same report, its lists in memory of its own. -/
def OwnPost (w : World) (r : Rep) (e : Ending) (w' : World) : Prop := ∃ a, e = .returned (.agg (repC (r, a))) ∧ Below w.heap.size w w' ∧ OwnC 3 1 intK w' w.heap.size (.slice a.a1 r.out.length a.c1) r.out ∧ OwnC 3 1 intK w' w.heap.size (.slice a.a2 r.left.length a.c2) r.left ∧ OwnC 3 1 intK w' w.heap.size (.slice a.a3 r.started.length a.c3) r.started ∧ OwnC 3 1 intK w' w.heap.size (.slice a.a4 r.done.length a.c4) r.done
set_option maxRecDepth 100000 in
set_option maxHeartbeats 8000000 in
theorem own38_any (r : Rep) (a : RepA) (w : World) (hA : RepAt w (r, a)) (hl : r.out.length ≤ 1000000 ∧ r.left.length ≤ 1000000 ∧ r.started.length ≤ 1000000 ∧ r.done.length ≤ 1000000) : Calls Try.prog 57 #[.agg (repC (r, a))] w (OwnPost w r) := by
  have HC1 : Hid (∀ W, Below w.heap.size w W → Calls Try.prog 116 #[.slice a.a1 r.out.length a.c1] W (ClonePost 3 1 intK W a.a1 r.out)) := Lib.hid fun W h => clone_ints a.a1 _ a.c1 r.out rfl hA.n1 hl.1 W (hA.out.below h (Nat.le_refl _))
  have HC2 : Hid (∀ W, Below w.heap.size w W → Calls Try.prog 116 #[.slice a.a2 r.left.length a.c2] W (ClonePost 3 1 intK W a.a2 r.left)) := Lib.hid fun W h => clone_ints a.a2 _ a.c2 r.left rfl hA.n2 hl.2.1 W (hA.left.below h (Nat.le_refl _))
  have HC3 : Hid (∀ W, Below w.heap.size w W → Calls Try.prog 116 #[.slice a.a3 r.started.length a.c3] W (ClonePost 3 1 intK W a.a3 r.started)) := Lib.hid fun W h => clone_ints a.a3 _ a.c3 r.started rfl hA.n3 hl.2.2.1 W (hA.started.below h (Nat.le_refl _))
  have HC4 : Hid (∀ W, Below w.heap.size w W → Calls Try.prog 116 #[.slice a.a4 r.done.length a.c4] W (ClonePost 3 1 intK W a.a4 r.done)) := Lib.hid fun W h => clone_ints a.a4 _ a.c4 r.done rfl hA.n4 hl.2.2.2 W (hA.done.below h (Nat.le_refl _))
  have r0 : row ((w.alloc (.cells (repC (r, a)) 36)).alloc (.cells (repC (Rep.zero, RepA.nil)) 36)) w.heap.size = some (repC (r, a)) := (row_past _ _ _ (by rw [World.size_alloc]; omega)).trans (row_at _ _ _ _ rfl)
  have q0 : row ((w.alloc (.cells (repC (r, a)) 36)).alloc (.cells (repC (Rep.zero, RepA.nil)) 36)) (w.heap.size + 1) = some (repC (Rep.zero, RepA.nil)) := row_at _ _ _ _ (by rw [World.size_alloc])
  have hB0 : Below w.heap.size w ((w.alloc (.cells (repC (r, a)) 36)).alloc (.cells (repC (Rep.zero, RepA.nil)) 36)) := (by (repeat (first | exact Below.refl _ _ | assumption | (refine Below.allocT ?_ _) | refine Below.drew ?_ | refine below_drewN ?_ _ | (refine Below.then ?_ (by assumption)) | (refine Below.setRow ?_ ?_ _; rotate_left; (focus (first | exact Nat.lt_succ_self _ | ((repeat rw [World.size_alloc]); omega) | (simp; done) | (simp; omega) | omega))) | (refine Below.setCell ?_ ?_ _; rotate_left; (focus (first | exact Nat.lt_succ_self _ | ((repeat rw [World.size_alloc]); omega) | (simp; done) | (simp; omega) | omega))) | (refine Below.then' ?_ (by assumption) ?_; rotate_left; (focus (first | exact Nat.lt_succ_self _ | ((repeat rw [World.size_alloc]); omega) | (simp; done) | (simp; omega) | omega))) | fail)); (first | done | fail))
  clear hA hl
  go_enter Try.func57, Try.ntmps57
  go_upto_region 1 with fail
  change Code.wp _ _ _ _ ((w.alloc (.cells (repC (r, a)) 36)).alloc (.cells (repC (Rep.zero, RepA.nil)) 36))
  first | rw [World.size_alloc] | skip
  generalize (w.alloc (.cells (repC (r, a)) 36)).alloc (.cells (repC (Rep.zero, RepA.nil)) 36) = w0 at *
  have k10 : w0.cell? ⟨w.heap.size, 10, none⟩ = some (.slice a.a1 r.out.length a.c1) := row_cell r0 10
  have k11 : w0.cell? ⟨w.heap.size, 11, none⟩ = some (.slice a.a2 r.left.length a.c2) := row_cell r0 11
  have e10 : w0.frozen? ⟨w.heap.size, 10, none⟩ = false := row_frozen r0 10
  have e11 : w0.frozen? ⟨w.heap.size, 11, none⟩ = false := row_frozen r0 11
  go_cut [4] (fun s4 wx => ∃ (A1 : Option Addr) (x1 : Nat) (A2 : Option Addr) (x2 : Nat), row wx w.heap.size = some (repC (r, ⟨A1, x1, A2, x2, a.a3, a.c3, a.a4, a.c4⟩)) ∧ row wx (w.heap.size + 1) = some (repC (Rep.zero, RepA.nil)) ∧ Below w.heap.size w wx ∧ OwnC 3 1 intK wx (w.heap.size + 2) (.slice A1 r.out.length x1) r.out ∧ OwnC 3 1 intK wx (w.heap.size + 2) (.slice A2 r.left.length x2) r.left)
  case first =>
    go_region_with (first | (go_at_call_of 116 a.a1; refine (HC1.out _ (by (repeat (first | exact Below.refl _ _ | assumption | (refine Below.allocT ?_ _) | refine Below.drew ?_ | refine below_drewN ?_ _ | (refine Below.then ?_ (by assumption)) | (refine Below.setRow ?_ ?_ _; rotate_left; (focus (first | exact Nat.lt_succ_self _ | ((repeat rw [World.size_alloc]); omega) | (simp; done) | (simp; omega) | omega))) | (refine Below.setCell ?_ ?_ _; rotate_left; (focus (first | exact Nat.lt_succ_self _ | ((repeat rw [World.size_alloc]); omega) | (simp; done) | (simp; omega) | omega))) | (refine Below.then' ?_ (by assumption) ?_; rotate_left; (focus (first | exact Nat.lt_succ_self _ | ((repeat rw [World.size_alloc]); omega) | (simp; done) | (simp; omega) | omega))) | fail)); (first | done | fail))).mono ?_; rintro e w1 ⟨A1, x1, rfl, hO1, hb1, hz1⟩; have r1 := below_row hb1 r0 (row_lt r0); have q1 := below_row hb1 q0 (row_lt q0); have hB1 : Below w.heap.size w w1 := (by (repeat (first | exact Below.refl _ _ | assumption | (refine Below.allocT ?_ _) | refine Below.drew ?_ | refine below_drewN ?_ _ | (refine Below.then ?_ (by assumption)) | (refine Below.setRow ?_ ?_ _; rotate_left; (focus (first | exact Nat.lt_succ_self _ | ((repeat rw [World.size_alloc]); omega) | (simp; done) | (simp; omega) | omega))) | (refine Below.setCell ?_ ?_ _; rotate_left; (focus (first | exact Nat.lt_succ_self _ | ((repeat rw [World.size_alloc]); omega) | (simp; done) | (simp; omega) | omega))) | (refine Below.then' ?_ (by assumption) ?_; rotate_left; (focus (first | exact Nat.lt_succ_self _ | ((repeat rw [World.size_alloc]); omega) | (simp; done) | (simp; omega) | omega))) | fail)); (first | done | fail)); have k10 := row_cell r1 10; have k11 := row_cell r1 11; have e10 := row_frozen r1 10; have e11 := row_frozen r1 11) | (go_at_call_of 116 a.a2; refine (HC2.out _ (by (repeat (first | exact Below.refl _ _ | assumption | (refine Below.allocT ?_ _) | refine Below.drew ?_ | refine below_drewN ?_ _ | (refine Below.then ?_ (by assumption)) | (refine Below.setRow ?_ ?_ _; rotate_left; (focus (first | exact Nat.lt_succ_self _ | ((repeat rw [World.size_alloc]); omega) | (simp; done) | (simp; omega) | omega))) | (refine Below.setCell ?_ ?_ _; rotate_left; (focus (first | exact Nat.lt_succ_self _ | ((repeat rw [World.size_alloc]); omega) | (simp; done) | (simp; omega) | omega))) | (refine Below.then' ?_ (by assumption) ?_; rotate_left; (focus (first | exact Nat.lt_succ_self _ | ((repeat rw [World.size_alloc]); omega) | (simp; done) | (simp; omega) | omega))) | fail)); (first | done | fail))).mono ?_; rintro e w2 ⟨A2, x2, rfl, hO2, hb2, hz2⟩; have r2 := below_row hb2 r1 (row_lt r1); have q2 := below_row hb2 q1 (row_lt q1); have hB2 : Below w.heap.size w w2 := (by (repeat (first | exact Below.refl _ _ | assumption | (refine Below.allocT ?_ _) | refine Below.drew ?_ | refine below_drewN ?_ _ | (refine Below.then ?_ (by assumption)) | (refine Below.setRow ?_ ?_ _; rotate_left; (focus (first | exact Nat.lt_succ_self _ | ((repeat rw [World.size_alloc]); omega) | (simp; done) | (simp; omega) | omega))) | (refine Below.setCell ?_ ?_ _; rotate_left; (focus (first | exact Nat.lt_succ_self _ | ((repeat rw [World.size_alloc]); omega) | (simp; done) | (simp; omega) | omega))) | (refine Below.then' ?_ (by assumption) ?_; rotate_left; (focus (first | exact Nat.lt_succ_self _ | ((repeat rw [World.size_alloc]); omega) | (simp; done) | (simp; omega) | omega))) | fail)); (first | done | fail)); have k10 := row_cell r2 10; have k11 := row_cell r2 11; have e10 := row_frozen r2 10; have e11 := row_frozen r2 11))
    all_goals
      have hs0 : w.heap.size + 2 ≤ w0.heap.size := by have := row_lt q0; omega
      have hs1 : w0.heap.size ≤ w1.heap.size := hb1.size
      have HO1 : OwnC 3 1 intK w2 (w.heap.size + 2) (.slice A1 r.out.length x1) r.out := (OwnC.stay hO1 hb2).base hs0
      have HO2 : OwnC 3 1 intK w2 (w.heap.size + 2) (.slice A2 r.left.length x2) r.left := hO2.base (by omega)
      clear hO1 hO2 hb1 hb2 hz1 hz2 k10 k11 e10 e11 r0 q0 r1 q1 hB0 hB1 hs0 hs1
      go_wp2_with fail
      go_meet
      refine ⟨A1, x1, A2, x2, by rw [row_setCell, row_setCell, r2]; rfl, by rw [row_far _ _ _ _ (by show w.heap.size + 1 ≠ w.heap.size; omega), row_far _ _ _ _ (by show w.heap.size + 1 ≠ w.heap.size; omega)]; exact q2, Below.setCell (Below.setCell hB2 (p := ⟨w.heap.size, 10, none⟩) (Nat.le_refl _) _) (p := ⟨w.heap.size, 11, none⟩) (Nat.le_refl _) _, (HO1.set _ (by show w.heap.size < _; omega) _).set _ (by show w.heap.size < _; omega) _, (HO2.set _ (by show w.heap.size < _; omega) _).set _ (by show w.heap.size < _; omega) _⟩
  case rest =>
  obtain ⟨B1, y1, B2, y2, r0, q0, hB0, O1, O2⟩ := hcut
  clear HC1 HC2
  replace O1 := Lib.hid O1
  replace O2 := Lib.hid O2
  go_upto_region 2 with fail
  have k12 : wc.cell? ⟨w.heap.size, 12, none⟩ = some (.slice a.a3 r.started.length a.c3) := row_cell r0 12
  have k13 : wc.cell? ⟨w.heap.size, 13, none⟩ = some (.slice a.a4 r.done.length a.c4) := row_cell r0 13
  have e12 : wc.frozen? ⟨w.heap.size, 12, none⟩ = false := row_frozen r0 12
  have e13 : wc.frozen? ⟨w.heap.size, 13, none⟩ = false := row_frozen r0 13
  go_cut [12] (fun s4 wx => ∃ (A1 : Option Addr) (x1 : Nat) (A2 : Option Addr) (x2 : Nat), row wx w.heap.size = some (repC (r, ⟨B1, y1, B2, y2, A1, x1, A2, x2⟩)) ∧ row wx (w.heap.size + 1) = some (repC (Rep.zero, RepA.nil)) ∧ Below w.heap.size w wx ∧ OwnC 3 1 intK wx (w.heap.size + 2) (.slice A1 r.started.length x1) r.started ∧ OwnC 3 1 intK wx (w.heap.size + 2) (.slice A2 r.done.length x2) r.done ∧ OwnC 3 1 intK wx (w.heap.size + 2) (.slice B1 r.out.length y1) r.out ∧ OwnC 3 1 intK wx (w.heap.size + 2) (.slice B2 r.left.length y2) r.left)
  case first =>
    go_region_with (first | (go_at_call_of 116 a.a3; refine (HC3.out _ (by (repeat (first | exact Below.refl _ _ | assumption | (refine Below.allocT ?_ _) | refine Below.drew ?_ | refine below_drewN ?_ _ | (refine Below.then ?_ (by assumption)) | (refine Below.setRow ?_ ?_ _; rotate_left; (focus (first | exact Nat.lt_succ_self _ | ((repeat rw [World.size_alloc]); omega) | (simp; done) | (simp; omega) | omega))) | (refine Below.setCell ?_ ?_ _; rotate_left; (focus (first | exact Nat.lt_succ_self _ | ((repeat rw [World.size_alloc]); omega) | (simp; done) | (simp; omega) | omega))) | (refine Below.then' ?_ (by assumption) ?_; rotate_left; (focus (first | exact Nat.lt_succ_self _ | ((repeat rw [World.size_alloc]); omega) | (simp; done) | (simp; omega) | omega))) | fail)); (first | done | fail))).mono ?_; rintro e w1 ⟨A1, x1, rfl, hO1, hb1, hz1⟩; have r1 := below_row hb1 r0 (row_lt r0); have q1 := below_row hb1 q0 (row_lt q0); have hB1 : Below w.heap.size w w1 := (by (repeat (first | exact Below.refl _ _ | assumption | (refine Below.allocT ?_ _) | refine Below.drew ?_ | refine below_drewN ?_ _ | (refine Below.then ?_ (by assumption)) | (refine Below.setRow ?_ ?_ _; rotate_left; (focus (first | exact Nat.lt_succ_self _ | ((repeat rw [World.size_alloc]); omega) | (simp; done) | (simp; omega) | omega))) | (refine Below.setCell ?_ ?_ _; rotate_left; (focus (first | exact Nat.lt_succ_self _ | ((repeat rw [World.size_alloc]); omega) | (simp; done) | (simp; omega) | omega))) | (refine Below.then' ?_ (by assumption) ?_; rotate_left; (focus (first | exact Nat.lt_succ_self _ | ((repeat rw [World.size_alloc]); omega) | (simp; done) | (simp; omega) | omega))) | fail)); (first | done | fail)); have k12 := row_cell r1 12; have k13 := row_cell r1 13; have e12 := row_frozen r1 12; have e13 := row_frozen r1 13) | (go_at_call_of 116 a.a4; refine (HC4.out _ (by (repeat (first | exact Below.refl _ _ | assumption | (refine Below.allocT ?_ _) | refine Below.drew ?_ | refine below_drewN ?_ _ | (refine Below.then ?_ (by assumption)) | (refine Below.setRow ?_ ?_ _; rotate_left; (focus (first | exact Nat.lt_succ_self _ | ((repeat rw [World.size_alloc]); omega) | (simp; done) | (simp; omega) | omega))) | (refine Below.setCell ?_ ?_ _; rotate_left; (focus (first | exact Nat.lt_succ_self _ | ((repeat rw [World.size_alloc]); omega) | (simp; done) | (simp; omega) | omega))) | (refine Below.then' ?_ (by assumption) ?_; rotate_left; (focus (first | exact Nat.lt_succ_self _ | ((repeat rw [World.size_alloc]); omega) | (simp; done) | (simp; omega) | omega))) | fail)); (first | done | fail))).mono ?_; rintro e w2 ⟨A2, x2, rfl, hO2, hb2, hz2⟩; have r2 := below_row hb2 r1 (row_lt r1); have q2 := below_row hb2 q1 (row_lt q1); have hB2 : Below w.heap.size w w2 := (by (repeat (first | exact Below.refl _ _ | assumption | (refine Below.allocT ?_ _) | refine Below.drew ?_ | refine below_drewN ?_ _ | (refine Below.then ?_ (by assumption)) | (refine Below.setRow ?_ ?_ _; rotate_left; (focus (first | exact Nat.lt_succ_self _ | ((repeat rw [World.size_alloc]); omega) | (simp; done) | (simp; omega) | omega))) | (refine Below.setCell ?_ ?_ _; rotate_left; (focus (first | exact Nat.lt_succ_self _ | ((repeat rw [World.size_alloc]); omega) | (simp; done) | (simp; omega) | omega))) | (refine Below.then' ?_ (by assumption) ?_; rotate_left; (focus (first | exact Nat.lt_succ_self _ | ((repeat rw [World.size_alloc]); omega) | (simp; done) | (simp; omega) | omega))) | fail)); (first | done | fail)); have k12 := row_cell r2 12; have k13 := row_cell r2 13; have e12 := row_frozen r2 12; have e13 := row_frozen r2 13))
    all_goals
      have hs0 : w.heap.size + 2 ≤ wc.heap.size := by have := row_lt q0; omega
      have hs1 : wc.heap.size ≤ w1.heap.size := hb1.size
      have HO1 : OwnC 3 1 intK w2 (w.heap.size + 2) (.slice A1 r.started.length x1) r.started := (OwnC.stay hO1 hb2).base hs0
      have HO2 : OwnC 3 1 intK w2 (w.heap.size + 2) (.slice A2 r.done.length x2) r.done := hO2.base (by omega)
      have P1 : OwnC 3 1 intK w2 (w.heap.size + 2) (.slice B1 r.out.length y1) r.out := OwnC.stay (W := w1) (OwnC.stay (W := wc.drew) (show OwnC 3 1 intK wc.drew (w.heap.size + 2) (.slice B1 r.out.length y1) r.out from O1.out) hb1) hb2
      have P2 : OwnC 3 1 intK w2 (w.heap.size + 2) (.slice B2 r.left.length y2) r.left := OwnC.stay (W := w1) (OwnC.stay (W := wc.drew) (show OwnC 3 1 intK wc.drew (w.heap.size + 2) (.slice B2 r.left.length y2) r.left from O2.out) hb1) hb2
      clear hO1 hO2 hb1 hb2 hz1 hz2 k12 k13 e12 e13 r0 q0 r1 q1 hB0 hB1 hs0 hs1
      go_wp2_with fail
      go_meet
      refine ⟨A1, x1, A2, x2, by rw [row_setCell, row_setCell, r2]; rfl, by rw [row_far _ _ _ _ (by show w.heap.size + 1 ≠ w.heap.size; omega), row_far _ _ _ _ (by show w.heap.size + 1 ≠ w.heap.size; omega)]; exact q2, Below.setCell (Below.setCell hB2 (p := ⟨w.heap.size, 12, none⟩) (Nat.le_refl _) _) (p := ⟨w.heap.size, 13, none⟩) (Nat.le_refl _) _, (HO1.set _ (by show w.heap.size < _; omega) _).set _ (by show w.heap.size < _; omega) _, (HO2.set _ (by show w.heap.size < _; omega) _).set _ (by show w.heap.size < _; omega) _, (P1.set _ (by show w.heap.size < _; omega) _).set _ (by show w.heap.size < _; omega) _, (P2.set _ (by show w.heap.size < _; omega) _).set _ (by show w.heap.size < _; omega) _⟩
  case rest =>
  obtain ⟨A3, x3, A4, x4, r6, q6, hB6, O3, O4, O1', O2'⟩ := hcut
  clear O1 O2 HC3 HC4
  have H6 := Lib.hid (And.intro hB6 (And.intro O1' (And.intro O2' (And.intro O3 O4))))
  clear O3 O4 O1' O2' hB6
  obtain ⟨t9, ht9⟩ := row_heap (row_setRow (new := repC (r, ⟨B1, y1, B2, y2, A3, x3, A4, x4⟩)) q6)
  have HT9 := Lib.hid ht9
  clear ht9
  have hz8 : roomy 0 14 (repC (r, ⟨B1, y1, B2, y2, A3, x3, A4, x4⟩)) = true := rfl
  have hz7 : (repC (r, ⟨B1, y1, B2, y2, A3, x3, A4, x4⟩)).extract 0 14 = repC (r, ⟨B1, y1, B2, y2, A3, x3, A4, x4⟩) := rfl
  have hz6 := repC_one (r, ⟨B1, y1, B2, y2, A3, x3, A4, x4⟩)
  go_wp2_with fail
  exact bodyPost_ret (v := .agg (repC (r, ⟨B1, y1, B2, y2, A3, x3, A4, x4⟩))) (results_cell_1 Try.results57 _ _ (w.heap.size + 1) _ (repC (r, ⟨B1, y1, B2, y2, A3, x3, A4, x4⟩)) (0, 0) _ rfl HT9.out rep_under rfl rep_info) rfl ⟨_, rfl, Below.setRow H6.out.1 (by omega) _, ((H6.out.2.1.setRow _ (by omega) _).base (by omega)), ((H6.out.2.2.1.setRow _ (by omega) _).base (by omega)), ((H6.out.2.2.2.1.setRow _ (by omega) _).base (by omega)), ((H6.out.2.2.2.2.setRow _ (by omega) _).base (by omega))⟩
end Go.Proofs.Ytnakkjgnjffkpaa

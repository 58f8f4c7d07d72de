/-
  The walks of the statements of layer 11.
-/
import Derived.Test.YtncobbhhjkdllaaOpenSt
import Derived.Test.YtncobbhhjkdllaaCalm
import Derived.Test.YtncobbhhjkdllaaLaw07a
namespace Go.Proofs.Ytncobbhhjkdllaa
open Go.RowKit
set_option linter.unusedVariables false

theorem row_setRow_if {w : World} {g k : Nat} {new : Array Value} : row (w.setRow g new) k = if g = k then (row w k).map (fun _ => new) else row w k := by
  by_cases h : g = k
  · subst h
    rw [if_pos rfl]
    cases hr : row w g with
    | some cs => exact row_setRow hr
    | none =>
      unfold row World.setRow at *
      simp only [Array.getElem?_modify, if_true]
      cases hw : w.heap[g]? with
      | none => rfl
      | some o =>
        rw [hw] at hr
        cases o <;> simp_all
  · rw [if_neg h, row_setRow_far h]
attribute [go_sem] row_setRow_if
set_option maxHeartbeats 2000000 in
set_option maxRecDepth 100000 in
theorem awake11_any (w : World) : Calls Try.prog 24 #[] w fun e w' => e = .returned (.bool true) ∧ Below w.heap.size w w' := by
  have H1 : Hid (∀ W : World, Calls Try.prog 25 #[.agg simpleP.cells, .agg #[.int .u64 0, .int .u64 0, .int .u64 98, .int .i64 0], .bool false, .int .i64 3] W fun e w' => e = .returned (.agg #[.int .u64 0, .int .u64 0, .int .u64 100, .int .i64 0]) ∧ Below W.heap.size W w') := Lib.hid fun W => by
    have h := safter_any simpleP ⟨0, 0, 98, 0⟩ false 3 ⟨by decide, by decide, by decide, by unfold i64ok; decide⟩ W
    rw [show afterV simpleP ⟨0, 0, 98, 0⟩ false 3 = ⟨0, 0, 100, 0⟩ by rw [afterV, right_simple]; rfl] at h
    exact h
  have H2 : Hid (∀ W : World, Calls Try.prog 25 #[.agg simpleP.cells, .agg #[.int .u64 0, .int .u64 0, .int .u64 1, .int .i64 0], .bool true, .int .i64 3] W fun e w' => e = .returned (.agg #[.int .u64 0, .int .u64 0, .int .u64 0, .int .i64 1]) ∧ Below W.heap.size W w') := Lib.hid fun W => by
    have h := safter_any simpleP ⟨0, 0, 1, 0⟩ true 3 ⟨by decide, by decide, by decide, by unfold i64ok; decide⟩ W
    rw [show afterV simpleP ⟨0, 0, 1, 0⟩ true 3 = ⟨0, 0, 0, 1⟩ by rw [afterV, right_simple]; rfl] at h
    exact h
  have hfd : ∀ w : World, (Instr.field 41 (.agg #[.int .u64 0, .int .u64 0, .int .u64 100, .int .i64 0]) 2).run Try.prog w = .ok (.int .u64 100) w := fun _ => by kernel_rfl
  go_enter Try.func24, Try.ntmps24
  go_wp2_with fail
  refine (simple_any _).mono ?_
  rintro e w1 ⟨rfl, hb1⟩
  have r1 : row (w1.alloc (.cells simpleP.cells 24)) w1.heap.size = some simpleP.cells := (by (repeat (first | assumption | (refine row_at _ _ _ _ ?_; first | rfl | (simp only [World.size_alloc]; done) | (simp only [World.size_alloc]; omega)) | (refine (row_past _ _ _ ?_).trans ?_; (focus (first | exact Nat.lt_succ_self _ | ((repeat rw [World.size_alloc]); omega) | (simp; done) | (simp; omega) | omega))) | rw [row_drewN] | rw [row_drew])); (first | done | fail))
  have hB1 : Below w.heap.size w (w1.alloc (.cells simpleP.cells 24)) := (by (repeat (first | exact Below.refl _ _ | assumption | (refine Below.allocT ?_ _) | refine Below.drew ?_ | refine below_drewN ?_ _ | (refine Below.then ?_ (by assumption)) | (refine Below.setRow ?_ ?_ _; rotate_left; (focus (first | exact Nat.lt_succ_self _ | ((repeat rw [World.size_alloc]); omega) | (simp; done) | (simp; omega) | omega))) | (refine Below.setCell ?_ ?_ _; rotate_left; (focus (first | exact Nat.lt_succ_self _ | ((repeat rw [World.size_alloc]); omega) | (simp; done) | (simp; omega) | omega))) | (refine Below.then' ?_ (by assumption) ?_; rotate_left; (focus (first | exact Nat.lt_succ_self _ | ((repeat rw [World.size_alloc]); omega) | (simp; done) | (simp; omega) | omega))) | fail)); (first | done | fail))
  go_wp2_with fail
  generalize w1.alloc (.cells simpleP.cells 24) = W at *
  refine (H1.out _).mono ?_
  rintro e w2 ⟨rfl, hb2⟩
  have r2 := (row_below hb2 (row_lt r1)).trans r1
  have hB2 := Below.then hB1 hb2
  clear r1 hB1 hb2
  go_wp2_with fail
  refine (H2.out _).mono ?_
  rintro e w3 ⟨rfl, hb3⟩
  have hB3 := Below.then hB2 hb3
  go_wp2_with fail
  go_ret
  exact ⟨rfl, hB3⟩
set_option maxHeartbeats 2000000 in
theorem plain11_any (s : St) (w : World) : Calls Try.prog 29 #[.agg s.cells] w fun e w' => e = .returned (.agg s.cells) ∧ Below w.heap.size w w' := by
  go_enter Try.func29, Try.ntmps29
  go_wp2_with fail
  exact bodyPost_ret (v := .agg (St.cells _)) (results_cell_row Try.results29 _ _ (w.heap.size + 1) _ (St.cells _) (0, 0) _ rfl (heap_at _ _ _ (by simp)) rst_under rfl rst_info) rfl ⟨rfl, (by (repeat (first | exact Below.refl _ _ | assumption | (refine Below.allocT ?_ _) | refine Below.drew ?_ | refine below_drewN ?_ _ | (refine Below.then ?_ (by assumption)) | (refine Below.setRow ?_ ?_ _; rotate_left; (focus (first | exact Nat.lt_succ_self _ | ((repeat rw [World.size_alloc]); omega) | (simp; done) | (simp; omega) | omega))) | (refine Below.setCell ?_ ?_ _; rotate_left; (focus (first | exact Nat.lt_succ_self _ | ((repeat rw [World.size_alloc]); omega) | (simp; done) | (simp; omega) | omega))) | (refine Below.then' ?_ (by assumption) ?_; rotate_left; (focus (first | exact Nat.lt_succ_self _ | ((repeat rw [World.size_alloc]); omega) | (simp; done) | (simp; omega) | omega))) | fail)); (first | done | fail))⟩
theorem same_below {P : Program} {f : FuncId} {args : Array Value} {w : World} {v : Value} (h : Calls P f args w fun e w' => e = .returned v ∧ w = w') : Calls P f args w fun e w' => e = .returned v ∧ Below w.heap.size w w' :=
  h.mono fun _ _ ⟨a, b⟩ => ⟨a, b ▸ Below.refl _ _⟩
set_option maxHeartbeats 4000000 in
set_option maxRecDepth 100000 in
theorem scoreAfters_any (P : Par) (s : St) (pr : Bool) (mode : Int) (hs : s.Ok) (w : World) :
    Calls Try.prog 8 #[.agg P.cells, .agg s.cells, .agg #[.bool pr, .int .i64 mode]] w fun e w' => e = .returned (.bool true) ∧ Below w.heap.size w w' := by
  have r0 : row (((w.alloc (.cells P.cells 24)).alloc (.cells s.cells 41)).alloc (.cells #[.bool pr, .int .i64 mode] 47)) w.heap.size = some P.cells := (by (repeat (first | assumption | (refine row_at _ _ _ _ ?_; first | rfl | (simp only [World.size_alloc]; done) | (simp only [World.size_alloc]; omega)) | (refine (row_past _ _ _ ?_).trans ?_; (focus (first | exact Nat.lt_succ_self _ | ((repeat rw [World.size_alloc]); omega) | (simp; done) | (simp; omega) | omega))) | rw [row_drewN] | rw [row_drew])); (first | done | fail))
  have s0 : row (((w.alloc (.cells P.cells 24)).alloc (.cells s.cells 41)).alloc (.cells #[.bool pr, .int .i64 mode] 47)) (w.heap.size + 1) = some s.cells := (by (repeat (first | assumption | (refine row_at _ _ _ _ ?_; first | rfl | (simp only [World.size_alloc]; done) | (simp only [World.size_alloc]; omega)) | (refine (row_past _ _ _ ?_).trans ?_; (focus (first | exact Nat.lt_succ_self _ | ((repeat rw [World.size_alloc]); omega) | (simp; done) | (simp; omega) | omega))) | rw [row_drewN] | rw [row_drew])); (first | done | fail))
  have x0 : row (((w.alloc (.cells P.cells 24)).alloc (.cells s.cells 41)).alloc (.cells #[.bool pr, .int .i64 mode] 47)) (w.heap.size + 2) = some #[.bool pr, .int .i64 mode] := (by (repeat (first | assumption | (refine row_at _ _ _ _ ?_; first | rfl | (simp only [World.size_alloc]; done) | (simp only [World.size_alloc]; omega)) | (refine (row_past _ _ _ ?_).trans ?_; (focus (first | exact Nat.lt_succ_self _ | ((repeat rw [World.size_alloc]); omega) | (simp; done) | (simp; omega) | omega))) | rw [row_drewN] | rw [row_drew])); (first | done | fail))
  have hB0 : Below w.heap.size w (((w.alloc (.cells P.cells 24)).alloc (.cells s.cells 41)).alloc (.cells #[.bool pr, .int .i64 mode] 47)) := (by (repeat (first | exact Below.refl _ _ | assumption | (refine Below.allocT ?_ _) | refine Below.drew ?_ | refine below_drewN ?_ _ | (refine Below.then ?_ (by assumption)) | (refine Below.setRow ?_ ?_ _; rotate_left; (focus (first | exact Nat.lt_succ_self _ | ((repeat rw [World.size_alloc]); omega) | (simp; done) | (simp; omega) | omega))) | (refine Below.setCell ?_ ?_ _; rotate_left; (focus (first | exact Nat.lt_succ_self _ | ((repeat rw [World.size_alloc]); omega) | (simp; done) | (simp; omega) | omega))) | (refine Below.then' ?_ (by assumption) ?_; rotate_left; (focus (first | exact Nat.lt_succ_self _ | ((repeat rw [World.size_alloc]); omega) | (simp; done) | (simp; omega) | omega))) | fail)); (first | done | fail))
  have HA := Lib.hid (fun W => safter_any P s pr mode hs W)
  have HT := Lib.hid (fun W => strim_any P s W)
  go_enter Try.func8, Try.ntmps8
  go_wp2_with fail
  generalize ((w.alloc (.cells P.cells 24)).alloc (.cells s.cells 41)).alloc (.cells #[.bool pr, .int .i64 mode] 47) = W at *
  refine (awake11_any _).mono ?_
  rintro e w1 ⟨rfl, hb1⟩
  have r1 := (row_below hb1 (row_lt r0)).trans r0
  have s1 := (row_below hb1 (row_lt s0)).trans s0
  have x1 := (row_below hb1 (row_lt x0)).trans x0
  have hB1 := Below.then hB0 hb1
  clear r0 s0 x0 hB0 hb1
  go_upto_region 4 with fail
  go_cut [7, 8] (fun s7 s8 wx => ∃ (U : World) (g h : Nat), s7 = .pointer (some ⟨g, 0, none⟩) ∧ s8 = .pointer (some ⟨h, 0, none⟩) ∧ U = wx ∧ Below w1.heap.size w1 U ∧ row U g = some (afterV P s pr mode).cells ∧ row U h = some (trimV P s).cells)
  case first =>
    generalize afterV P s pr mode = A at *
    generalize trimV P s = B at *
    have HM : Hid (∀ w', Below w1.heap.size w1 w' → row w' w.heap.size = some P.cells ∧ row w' (w.heap.size + 1) = some s.cells ∧ (∀ i, w'.cell? ⟨w.heap.size + 2, i, none⟩ = #[.bool pr, .int .i64 mode][i]?)) := Lib.hid fun w' h => ⟨(row_below h (row_lt r1)).trans r1, (row_below h (row_lt s1)).trans s1, fun i => row_cell ((row_below h (row_lt x1)).trans x1) i⟩
    clear r1 s1 x1
    go_region_held3 (fun w' => row w' w.heap.size = some P.cells ∧ row w' (w.heap.size + 1) = some s.cells ∧ (∀ i, w'.cell? ⟨w.heap.size + 2, i, none⟩ = #[.bool pr, .int .i64 mode][i]?)) (exact HM.out _ (by (repeat (first | exact Below.refl _ _ | assumption | (refine Below.allocT ?_ _) | refine Below.drew ?_ | refine below_drewN ?_ _ | (refine Below.then ?_ (by assumption)) | (refine Below.setRow ?_ ?_ _; rotate_left; (focus (first | exact Nat.lt_succ_self _ | ((repeat rw [World.size_alloc]); omega) | (simp; done) | (simp; omega) | omega))) | (refine Below.setCell ?_ ?_ _; rotate_left; (focus (first | exact Nat.lt_succ_self _ | ((repeat rw [World.size_alloc]); omega) | (simp; done) | (simp; omega) | omega))) | (refine Below.then' ?_ (by assumption) ?_; rotate_left; (focus (first | exact Nat.lt_succ_self _ | ((repeat rw [World.size_alloc]); omega) | (simp; done) | (simp; omega) | omega))) | fail)); (first | done | fail))) (first | (go_at_call 25; refine (HA.out _).mono ?_; rintro e wa ⟨rfl, hba⟩; have za := hba.size; (repeat (first | rw [World.size_alloc] at za | rw [size_drew] at za)); (try (have ka0 : row wa (w1.heap.size) = some #[.int .u64 0, .int .u64 0, .int .u64 0, .int .i64 0] := (by (repeat (first | assumption | (refine row_at _ _ _ _ ?_; first | rfl | (simp only [World.size_alloc]; done) | (simp only [World.size_alloc]; omega)) | (refine (row_past _ _ _ ?_).trans ?_; (focus (first | exact Nat.lt_succ_self _ | ((repeat rw [World.size_alloc]); omega) | (simp; done) | (simp; omega) | omega))) | rw [row_drewN] | rw [row_drew] | (refine (row_far _ _ _ _ ?_).trans ?_; (focus (first | (simp; done) | (simp; omega)))) | (refine (row_below (by assumption) ?_).trans ?_; (focus (first | exact Nat.lt_succ_self _ | ((repeat rw [World.size_alloc]); omega) | (simp; done) | (simp; omega) | omega))))); (first | done | fail)); have lka0 := row_lt ka0; have nka0 := Nat.ne_of_lt lka0; have mka0 := Nat.ne_of_gt lka0)); (try (have ka1 : row wa (w1.heap.size + 1) = some #[.int .u64 0, .int .u64 0, .int .u64 0, .int .i64 0] := (by (repeat (first | assumption | (refine row_at _ _ _ _ ?_; first | rfl | (simp only [World.size_alloc]; done) | (simp only [World.size_alloc]; omega)) | (refine (row_past _ _ _ ?_).trans ?_; (focus (first | exact Nat.lt_succ_self _ | ((repeat rw [World.size_alloc]); omega) | (simp; done) | (simp; omega) | omega))) | rw [row_drewN] | rw [row_drew] | (refine (row_far _ _ _ _ ?_).trans ?_; (focus (first | (simp; done) | (simp; omega)))) | (refine (row_below (by assumption) ?_).trans ?_; (focus (first | exact Nat.lt_succ_self _ | ((repeat rw [World.size_alloc]); omega) | (simp; done) | (simp; omega) | omega))))); (first | done | fail)); have lka1 := row_lt ka1; have nka1 := Nat.ne_of_lt lka1; have mka1 := Nat.ne_of_gt lka1))) | (go_at_call 26; refine (HT.out _).mono ?_; rintro e wb ⟨rfl, hbb⟩; have zb := hbb.size; (repeat (first | rw [World.size_alloc] at zb | rw [size_drew] at zb)); (try (have kb0 : row wb (w1.heap.size) = some #[.int .u64 0, .int .u64 0, .int .u64 0, .int .i64 0] := (by (repeat (first | assumption | (refine row_at _ _ _ _ ?_; first | rfl | (simp only [World.size_alloc]; done) | (simp only [World.size_alloc]; omega)) | (refine (row_past _ _ _ ?_).trans ?_; (focus (first | exact Nat.lt_succ_self _ | ((repeat rw [World.size_alloc]); omega) | (simp; done) | (simp; omega) | omega))) | rw [row_drewN] | rw [row_drew] | (refine (row_far _ _ _ _ ?_).trans ?_; (focus (first | (simp; done) | (simp; omega)))) | (refine (row_below (by assumption) ?_).trans ?_; (focus (first | exact Nat.lt_succ_self _ | ((repeat rw [World.size_alloc]); omega) | (simp; done) | (simp; omega) | omega))))); (first | done | fail)); have lkb0 := row_lt kb0; have nkb0 := Nat.ne_of_lt lkb0; have mkb0 := Nat.ne_of_gt lkb0)); (try (have kb1 : row wb (w1.heap.size + 1) = some #[.int .u64 0, .int .u64 0, .int .u64 0, .int .i64 0] := (by (repeat (first | assumption | (refine row_at _ _ _ _ ?_; first | rfl | (simp only [World.size_alloc]; done) | (simp only [World.size_alloc]; omega)) | (refine (row_past _ _ _ ?_).trans ?_; (focus (first | exact Nat.lt_succ_self _ | ((repeat rw [World.size_alloc]); omega) | (simp; done) | (simp; omega) | omega))) | rw [row_drewN] | rw [row_drew] | (refine (row_far _ _ _ _ ?_).trans ?_; (focus (first | (simp; done) | (simp; omega)))) | (refine (row_below (by assumption) ?_).trans ?_; (focus (first | exact Nat.lt_succ_self _ | ((repeat rw [World.size_alloc]); omega) | (simp; done) | (simp; omega) | omega))))); (first | done | fail)); have lkb1 := row_lt kb1; have nkb1 := Nat.ne_of_lt lkb1; have mkb1 := Nat.ne_of_gt lkb1)); (try (have kb2 : row wb (wa.heap.size) = some #[.int .u64 0, .int .u64 0, .int .u64 0, .int .i64 0] := (by (repeat (first | assumption | (refine row_at _ _ _ _ ?_; first | rfl | (simp only [World.size_alloc]; done) | (simp only [World.size_alloc]; omega)) | (refine (row_past _ _ _ ?_).trans ?_; (focus (first | exact Nat.lt_succ_self _ | ((repeat rw [World.size_alloc]); omega) | (simp; done) | (simp; omega) | omega))) | rw [row_drewN] | rw [row_drew] | (refine (row_far _ _ _ _ ?_).trans ?_; (focus (first | (simp; done) | (simp; omega)))) | (refine (row_below (by assumption) ?_).trans ?_; (focus (first | exact Nat.lt_succ_self _ | ((repeat rw [World.size_alloc]); omega) | (simp; done) | (simp; omega) | omega))))); (first | done | fail)); have lkb2 := row_lt kb2; have nkb2 := Nat.ne_of_lt lkb2; have mkb2 := Nat.ne_of_gt lkb2)); (try (have kb3 : row wb (wa.heap.size + 1) = some #[.int .u64 0, .int .u64 0, .int .u64 0, .int .i64 0] := (by (repeat (first | assumption | (refine row_at _ _ _ _ ?_; first | rfl | (simp only [World.size_alloc]; done) | (simp only [World.size_alloc]; omega)) | (refine (row_past _ _ _ ?_).trans ?_; (focus (first | exact Nat.lt_succ_self _ | ((repeat rw [World.size_alloc]); omega) | (simp; done) | (simp; omega) | omega))) | rw [row_drewN] | rw [row_drew] | (refine (row_far _ _ _ _ ?_).trans ?_; (focus (first | (simp; done) | (simp; omega)))) | (refine (row_below (by assumption) ?_).trans ?_; (focus (first | exact Nat.lt_succ_self _ | ((repeat rw [World.size_alloc]); omega) | (simp; done) | (simp; omega) | omega))))); (first | done | fail)); have lkb3 := row_lt kb3; have nkb3 := Nat.ne_of_lt lkb3; have mkb3 := Nat.ne_of_gt lkb3))))
    all_goals
      go_wp2_with fail
      go_meet
      refine ⟨_, _, _, rfl, rfl, rfl, (by (repeat (first | exact Below.refl _ _ | assumption | (refine Below.allocT ?_ _) | refine Below.drew ?_ | refine below_drewN ?_ _ | (refine Below.then ?_ (by assumption)) | (refine Below.setRow ?_ ?_ _; rotate_left; (focus (first | exact Nat.lt_succ_self _ | ((repeat rw [World.size_alloc]); omega) | (simp; done) | (simp; omega) | omega))) | (refine Below.setCell ?_ ?_ _; rotate_left; (focus (first | exact Nat.lt_succ_self _ | ((repeat rw [World.size_alloc]); omega) | (simp; done) | (simp; omega) | omega))) | (refine Below.then' ?_ (by assumption) ?_; rotate_left; (focus (first | exact Nat.lt_succ_self _ | ((repeat rw [World.size_alloc]); omega) | (simp; done) | (simp; omega) | omega))) | fail)); (first | done | fail)), ?_, ?_⟩
      all_goals go_simp
  case rest =>
    obtain ⟨U, g, h, rfl, rfl, rfl, hBU, a1, b1⟩ := hcut
    have r2 := (row_below hBU (row_lt r1)).trans r1
    have s2 := (row_below hBU (row_lt s1)).trans s1
    have x2 := (row_below hBU (row_lt x1)).trans x1
    have hB2 := Below.then hB1 hBU
    clear r1 s1 x1 hB1 hBU HA HT
    cases hr : rightB P
    · rw [show afterV P s pr mode = s by simp [afterV, hr]] at a1
      rw [show trimV P s = s by simp [trimV, hr]] at b1
      have HR := Lib.hid (fun W => right_any P W)
      rw [hr] at HR
      clear hr
      have HM : Hid (∀ w', Below U.heap.size U w' → ∀ i, w'.cell? ⟨w.heap.size + 2, i, none⟩ = #[.bool pr, .int .i64 mode][i]?) := Lib.hid fun w' h i => row_cell ((row_below h (row_lt x2)).trans x2) i
      go_wp2_with fail
      (refine wp_region_calm (by kernel_rfl) (by kernel_rfl) ?_; (repeat (first | go_big_quiet_skip | (go_big_quiet_want; apply calm_val; (focus (intro w' hb'; have c1 := HM.out w' hb'; first | fail | (unfold Oper.quietAt; go_simp; first | rfl | (go_at_call 27; exact calm_call hb' (same_below (sleaks_any mode _))) | (go_at_call 28; exact calm_call hb' (same_below (rleaks_any mode _)))))); (try simp only [Act.put, List.setIfInBounds_toArray, List.set_cons_zero, List.set_cons_succ]); go_big_quiet_on))); refine wpQuiet_nil ?_; intro w' hb')
      have r3 := (row_below hb' (row_lt r2)).trans r2
      have s3 := (row_below hb' (row_lt s2)).trans s2
      have a3 := (row_below hb' (row_lt a1)).trans a1
      have b3 := (row_below hb' (row_lt b1)).trans b1
      have hB3 := Below.then hB2 hb'
      clear HM r2 s2 x2 a1 b1 hB2 hb'
      go_wp2_with fail
      refine (plain_any P _).mono ?_
      rintro e w4 ⟨rfl, hb4⟩
      have s4 : row (w4.alloc (.cells P.cells 30)) (w.heap.size + 1) = some s.cells := (row_past _ _ _ (Nat.lt_of_lt_of_le (row_lt s3) hb4.size)).trans ((row_below hb4 (row_lt s3)).trans s3)
      have a4 : row (w4.alloc (.cells P.cells 30)) g = some s.cells := (row_past _ _ _ (Nat.lt_of_lt_of_le (row_lt a3) hb4.size)).trans ((row_below hb4 (row_lt a3)).trans a3)
      have b4 : row (w4.alloc (.cells P.cells 30)) h = some s.cells := (row_past _ _ _ (Nat.lt_of_lt_of_le (row_lt b3) hb4.size)).trans ((row_below hb4 (row_lt b3)).trans b3)
      have p4 : row (w4.alloc (.cells P.cells 30)) w4.heap.size = some P.cells := row_at _ _ _ _ rfl
      have hB4 : Below w.heap.size w (w4.alloc (.cells P.cells 30)) := (by (repeat (first | exact Below.refl _ _ | assumption | (refine Below.allocT ?_ _) | refine Below.drew ?_ | refine below_drewN ?_ _ | (refine Below.then ?_ (by assumption)) | (refine Below.setRow ?_ ?_ _; rotate_left; (focus (first | exact Nat.lt_succ_self _ | ((repeat rw [World.size_alloc]); omega) | (simp; done) | (simp; omega) | omega))) | (refine Below.setCell ?_ ?_ _; rotate_left; (focus (first | exact Nat.lt_succ_self _ | ((repeat rw [World.size_alloc]); omega) | (simp; done) | (simp; omega) | omega))) | (refine Below.then' ?_ (by assumption) ?_; rotate_left; (focus (first | exact Nat.lt_succ_self _ | ((repeat rw [World.size_alloc]); omega) | (simp; done) | (simp; omega) | omega))) | fail)); (first | done | fail))
      clear r3 s3 a3 b3 hB3 hb4
      go_wp2_with fail
      generalize w4.alloc (.cells P.cells 30) = V at *
      refine (HR.out _).mono ?_
      rintro e w5 ⟨rfl, hb5⟩
      have s5 := (row_below hb5 (row_lt s4)).trans s4
      have a5 := (row_below hb5 (row_lt a4)).trans a4
      have b5 := (row_below hb5 (row_lt b4)).trans b4
      have hB5 := Below.then hB4 hb5
      clear s4 a4 b4 p4 hB4 hb5
      go_wp2_with fail
      go_ret
      exact ⟨rfl, hB5⟩
    · rw [show afterV P s pr mode = afterS P s pr mode by simp [afterV, hr]] at a1
      rw [show trimV P s = trimS P s by simp [trimV, hr]] at b1
      have HR := Lib.hid (fun W => right_any P W)
      have HA := Lib.hid (fun W => rafter_any P s pr mode hr hs W)
      have HT := Lib.hid (fun W => rtrim_any P s (right_scores hr).2.2.2.2.1 W)
      rw [hr] at HR
      clear hr
      generalize afterS P s pr mode = A at *
      generalize trimS P s = B at *
      have HM : Hid (∀ w', Below U.heap.size U w' → ∀ i, w'.cell? ⟨w.heap.size + 2, i, none⟩ = #[.bool pr, .int .i64 mode][i]?) := Lib.hid fun w' h i => row_cell ((row_below h (row_lt x2)).trans x2) i
      go_wp2_with fail
      (refine wp_region_calm (by kernel_rfl) (by kernel_rfl) ?_; (repeat (first | go_big_quiet_skip | (go_big_quiet_want; apply calm_val; (focus (intro w' hb'; have c1 := HM.out w' hb'; first | fail | (unfold Oper.quietAt; go_simp; first | rfl | (go_at_call 27; exact calm_call hb' (same_below (sleaks_any mode _))) | (go_at_call 28; exact calm_call hb' (same_below (rleaks_any mode _)))))); (try simp only [Act.put, List.setIfInBounds_toArray, List.set_cons_zero, List.set_cons_succ]); go_big_quiet_on))); refine wpQuiet_nil ?_; intro w' hb')
      have r3 := (row_below hb' (row_lt r2)).trans r2
      have s3 := (row_below hb' (row_lt s2)).trans s2
      have x3 := (row_below hb' (row_lt x2)).trans x2
      have a3 := (row_below hb' (row_lt a1)).trans a1
      have b3 := (row_below hb' (row_lt b1)).trans b1
      have hB3 := Below.then hB2 hb'
      clear HM r2 s2 x2 a1 b1 hB2 hb'
      go_wp2_with fail
      refine (plain_any P _).mono ?_
      rintro e w4 ⟨rfl, hb4⟩
      have s4 : row (w4.alloc (.cells P.cells 30)) (w.heap.size + 1) = some s.cells := (row_past _ _ _ (Nat.lt_of_lt_of_le (row_lt s3) hb4.size)).trans ((row_below hb4 (row_lt s3)).trans s3)
      have x4 : row (w4.alloc (.cells P.cells 30)) (w.heap.size + 2) = some #[.bool pr, .int .i64 mode] := (row_past _ _ _ (Nat.lt_of_lt_of_le (row_lt x3) hb4.size)).trans ((row_below hb4 (row_lt x3)).trans x3)
      have a4 : row (w4.alloc (.cells P.cells 30)) g = some A.cells := (row_past _ _ _ (Nat.lt_of_lt_of_le (row_lt a3) hb4.size)).trans ((row_below hb4 (row_lt a3)).trans a3)
      have b4 : row (w4.alloc (.cells P.cells 30)) h = some B.cells := (row_past _ _ _ (Nat.lt_of_lt_of_le (row_lt b3) hb4.size)).trans ((row_below hb4 (row_lt b3)).trans b3)
      have p4 : row (w4.alloc (.cells P.cells 30)) w4.heap.size = some P.cells := row_at _ _ _ _ rfl
      have hB4 : Below w.heap.size w (w4.alloc (.cells P.cells 30)) := (by (repeat (first | exact Below.refl _ _ | assumption | (refine Below.allocT ?_ _) | refine Below.drew ?_ | refine below_drewN ?_ _ | (refine Below.then ?_ (by assumption)) | (refine Below.setRow ?_ ?_ _; rotate_left; (focus (first | exact Nat.lt_succ_self _ | ((repeat rw [World.size_alloc]); omega) | (simp; done) | (simp; omega) | omega))) | (refine Below.setCell ?_ ?_ _; rotate_left; (focus (first | exact Nat.lt_succ_self _ | ((repeat rw [World.size_alloc]); omega) | (simp; done) | (simp; omega) | omega))) | (refine Below.then' ?_ (by assumption) ?_; rotate_left; (focus (first | exact Nat.lt_succ_self _ | ((repeat rw [World.size_alloc]); omega) | (simp; done) | (simp; omega) | omega))) | fail)); (first | done | fail))
      clear r3 s3 x3 a3 b3 hB3 hb4
      go_wp2_with fail
      generalize w4.alloc (.cells P.cells 30) = V at *
      refine (HR.out _).mono ?_
      rintro e w5 ⟨rfl, hb5⟩
      have s5 := (row_below hb5 (row_lt s4)).trans s4
      have x5 := (row_below hb5 (row_lt x4)).trans x4
      have a5 := (row_below hb5 (row_lt a4)).trans a4
      have b5 := (row_below hb5 (row_lt b4)).trans b4
      have p5 := (row_below hb5 (row_lt p4)).trans p4
      have hB5 := Below.then hB4 hb5
      clear s4 x4 a4 b4 p4 hB4 hb5
      go_wp2_with fail
      have HM : Hid (∀ w', Below w5.heap.size w5 w' → row w' (w.heap.size + 1) = some s.cells ∧ row w' g = some A.cells ∧ row w' h = some B.cells ∧ row w' w4.heap.size = some P.cells ∧ ∀ i, w'.cell? ⟨w.heap.size + 2, i, none⟩ = #[.bool pr, .int .i64 mode][i]?) := Lib.hid fun w' h => ⟨(row_below h (row_lt s5)).trans s5, (row_below h (row_lt a5)).trans a5, (row_below h (row_lt b5)).trans b5, (row_below h (row_lt p5)).trans p5, fun i => row_cell ((row_below h (row_lt x5)).trans x5) i⟩
      clear s5 x5 a5 b5 p5
      (refine wp_region_calm (by kernel_rfl) (by kernel_rfl) ?_; (repeat (first | go_big_quiet_skip | (go_big_quiet_want; apply calm_val; (focus (intro w' hb'; obtain ⟨c1, c2, c3, c4, c5⟩ := HM.out w' hb'; first | exact st_quiet rfl c1 rfl | exact st_quiet rfl c2 rfl | exact st_quiet rfl c3 rfl | exact rpar_quiet rfl c4 rfl | (unfold Oper.quietAt; go_simp; first | rfl | (go_at_call 29; exact calm_call hb' (plain11_any _ _)) | (go_at_call 30; exact calm_call hb' (HA.out _)) | (go_at_call 31; exact calm_call hb' (HT.out _))))); (try simp only [Act.put, List.setIfInBounds_toArray, List.set_cons_zero, List.set_cons_succ]); go_big_quiet_on))); refine wpQuiet_nil ?_; intro w' hb')
      go_wp2_with fail
      go_ret
      exact ⟨rfl, Below.then hB5 hb'⟩
end Go.Proofs.Ytncobbhhjkdllaa

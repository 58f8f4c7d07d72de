/-
  What is paid: prize.Pay, and bullionref14's answer.
-/
import Derived.Test.YtkfbnaafpikgfaaPrize2
import Derived.Test.YtkfbnaafpikgfaaFine2
import Derived.Test.YtkfbnaafpikgfaaLaw04
namespace Go.Proofs.Ytkfbnaafpikgfaa
open Go.RowKit
set_option linter.unusedVariables false

def payG (P : Par) (s : St) (a : Nat) : Nat := min a (P.cap - s.bal)
def payS (P : Par) (s : St) (a : Nat) : St := if rightB P then ⟨s.bal + payG P s a, s.eff, s.score, s.streak⟩ else s
def payR (P : Par) (s : St) (a : Nat) : Nat := if rightB P then a - payG P s a else a
set_option maxHeartbeats 2000000 in
theorem pay_any (P : Par) (s : St) (a : Nat) (hs : s.Ok) (ha : a < 18446744073709551616) (w : World) : Calls Try.prog 28 #[.agg P.cells, .agg s.cells, .int .u64 a] w fun e w' =>
    e = .returned (.tuple #[.agg (payS P s a).cells, .int .u64 ((payR P s a : Nat) : Int)]) ∧ Below w.heap.size w w' := by
  have r0 : row (((w.alloc (.cells P.cells 24)).alloc (.cells s.cells 48)).alloc (.cells #[.int .u64 0, .int .u64 0, .int .u64 0, .int .i64 0] 48)) w.heap.size = some P.cells := (by (repeat (first | assumption | (refine row_at _ _ _ _ ?_; first | rfl | (simp only [World.size_alloc]; done) | (simp only [World.size_alloc]; omega)) | (refine (row_past _ _ _ ?_).trans ?_; (focus (first | exact Nat.lt_succ_self _ | ((repeat rw [World.size_alloc]); omega) | (simp; done) | (simp; omega) | omega))) | rw [row_drewN] | rw [row_drew])); (first | done | fail))
  have s0 : row (((w.alloc (.cells P.cells 24)).alloc (.cells s.cells 48)).alloc (.cells #[.int .u64 0, .int .u64 0, .int .u64 0, .int .i64 0] 48)) (w.heap.size + 1) = some s.cells := (by (repeat (first | assumption | (refine row_at _ _ _ _ ?_; first | rfl | (simp only [World.size_alloc]; done) | (simp only [World.size_alloc]; omega)) | (refine (row_past _ _ _ ?_).trans ?_; (focus (first | exact Nat.lt_succ_self _ | ((repeat rw [World.size_alloc]); omega) | (simp; done) | (simp; omega) | omega))) | rw [row_drewN] | rw [row_drew])); (first | done | fail))
  have z0 : row (((w.alloc (.cells P.cells 24)).alloc (.cells s.cells 48)).alloc (.cells #[.int .u64 0, .int .u64 0, .int .u64 0, .int .i64 0] 48)) (w.heap.size + 2) = some #[.int .u64 0, .int .u64 0, .int .u64 0, .int .i64 0] := (by (repeat (first | assumption | (refine row_at _ _ _ _ ?_; first | rfl | (simp only [World.size_alloc]; done) | (simp only [World.size_alloc]; omega)) | (refine (row_past _ _ _ ?_).trans ?_; (focus (first | exact Nat.lt_succ_self _ | ((repeat rw [World.size_alloc]); omega) | (simp; done) | (simp; omega) | omega))) | rw [row_drewN] | rw [row_drew])); (first | done | fail))
  have hB0 : Below w.heap.size w (((w.alloc (.cells P.cells 24)).alloc (.cells s.cells 48)).alloc (.cells #[.int .u64 0, .int .u64 0, .int .u64 0, .int .i64 0] 48)) := (by (repeat (first | exact Below.refl _ _ | assumption | (refine Below.allocT ?_ _) | refine Below.drew ?_ | refine below_drewN ?_ _ | (refine Below.then ?_ (by assumption)) | (refine Below.setRow ?_ ?_ _; rotate_left; (focus (first | exact Nat.lt_succ_self _ | ((repeat rw [World.size_alloc]); omega) | (simp; done) | (simp; omega) | omega))) | (refine Below.setCell ?_ ?_ _; rotate_left; (focus (first | exact Nat.lt_succ_self _ | ((repeat rw [World.size_alloc]); omega) | (simp; done) | (simp; omega) | omega))) | (refine Below.then' ?_ (by assumption) ?_; rotate_left; (focus (first | exact Nat.lt_succ_self _ | ((repeat rw [World.size_alloc]); omega) | (simp; done) | (simp; omega) | omega))) | fail)); (first | done | fail))
  have HC := Lib.hid (fun W => check_any P W)
  cases hr : rightB P
  · rw [show checkE P = 70 by simp [checkE, hr]] at HC
    have HV : Hid (payS P s a = s ∧ payR P s a = a) := Lib.hid ⟨by simp [payS, hr], by simp [payR, hr]⟩
    rw [HV.out.1, HV.out.2]
    clear hr HV hs ha
    go_enter Try.func28, Try.ntmps28
    go_wp2_with fail
    generalize ((w.alloc (.cells P.cells 24)).alloc (.cells s.cells 48)).alloc (.cells #[.int .u64 0, .int .u64 0, .int .u64 0, .int .i64 0] 48) = w0 at *
    refine (HC.out _).mono ?_
    rintro e w1 ⟨rfl, hb1⟩
    have s1 := (row_below hb1 (row_lt s0)).trans s0
    have z1 := (row_below hb1 (row_lt z0)).trans z0
    have hB1 := Below.then hB0 hb1
    clear r0 s0 z0 hB0 hb1
    go_wp2_with fail
    obtain ⟨ty, ht⟩ := row_heap (row_setRow (new := s.cells) z1)
    exact bodyPost_ret (v := .tuple #[.agg s.cells, .int .u64 a]) (results_cell_tmp Try.results28 _ _ (w.heap.size + 2) ty s.cells (0, 0) _ rfl ht st_under rfl st_info) rfl ⟨rfl, Below.setRow hB1 (by omega) _⟩
  · rw [show checkE P = 0 by simp [checkE, hr]] at HC
    have hcap := (stakes_facts (right_facts hr).1).2.2.2.2.2.2.2.1
    have hsb := hs.bal
    obtain ⟨n, hn⟩ : ∃ n, n = payG P s a := ⟨_, rfl⟩
    have HV : Hid (payS P s a = ⟨s.bal + n, s.eff, s.score, s.streak⟩ ∧ payR P s a = a - n) := Lib.hid ⟨by simp [payS, hr, hn], by simp [payR, hr, hn]⟩
    have HF := Lib.hid (fun W => fall_any P.cap s.bal (by omega) hsb W)
    have HT := Lib.hid (fun W => take_any a (P.cap - s.bal) ha (by omega) W)
    rw [show min a (P.cap - s.bal) = n by rw [hn]; rfl] at HT
    obtain ⟨d, hd⟩ : ∃ d, d = s.bal + n := ⟨_, rfl⟩
    have hdl : d < 18446744073709551616 := by rw [hd, hn]; unfold payG; omega
    have E1 : IntKind.u64.wrap ((s.bal : Int) + (n : Int)) = (d : Int) := by rw [show (s.bal : Int) + (n : Int) = ((d : Nat) : Int) by omega]; exact Bits.wrapN _ hdl
    rw [HV.out.1, HV.out.2, ← hd]
    generalize P.cap - s.bal = room at *
    generalize a - n = rest at *
    clear hr HV hs ha hn hd hdl hcap hsb
    go_enter Try.func28, Try.ntmps28
    go_wp2_with fail
    generalize ((w.alloc (.cells P.cells 24)).alloc (.cells s.cells 48)).alloc (.cells #[.int .u64 0, .int .u64 0, .int .u64 0, .int .i64 0] 48) = w0 at *
    refine (HC.out _).mono ?_
    rintro e w1 ⟨rfl, hb1⟩
    have r1 := (row_below hb1 (row_lt r0)).trans r0
    have s1 := (row_below hb1 (row_lt s0)).trans s0
    have z1 := (row_below hb1 (row_lt z0)).trans z0
    have hB1 := Below.then hB0 hb1
    have c1 : ∀ i, w1.cell? ⟨w.heap.size, i, none⟩ = P.cells[i]? := fun i => row_cell r1 i
    have c2 : ∀ i, w1.cell? ⟨w.heap.size + 1, i, none⟩ = s.cells[i]? := fun i => row_cell s1 i
    have f2 : ∀ i, w1.frozen? ⟨w.heap.size + 1, i, none⟩ = false := fun i => row_frozen s1 i
    have z3 : row (w1.setCell ⟨w.heap.size + 1, 0, none⟩ (.int .u64 d)) (w.heap.size + 2) = some #[.int .u64 0, .int .u64 0, .int .u64 0, .int .i64 0] := (row_far _ _ _ _ (by simp)).trans z1
    clear r0 s0 z0 hB0 hb1
    go_wp2_with (first | (go_at_call 61; refine (HF.out _).mono ?_; rintro e wq ⟨rfl, rfl⟩) | (go_at_call 60; refine (HT.out _).mono ?_; rintro e wq ⟨rfl, rfl⟩))
    obtain ⟨ty, ht⟩ := row_heap (row_setRow (new := St.cells ⟨d, s.eff, s.score, s.streak⟩) z3)
    exact bodyPost_ret (v := .tuple #[.agg (St.cells ⟨d, s.eff, s.score, s.streak⟩), .int .u64 rest]) (results_cell_tmp Try.results28 _ _ (w.heap.size + 2) ty (St.cells ⟨d, s.eff, s.score, s.streak⟩) (0, 0) _ rfl ht st_under rfl st_info) rfl ⟨rfl, Below.setRow (below_own hB1 (by omega) 0 _) (by omega) _⟩
set_option maxHeartbeats 2000000 in
theorem rpay_any (P : Par) (s : St) (a : Nat) (hs : s.Ok) (ha : a < 18446744073709551616) (hr : rightB P = true) (w : World) : Calls Try.prog 29 #[.agg P.cells, .agg s.cells, .int .u64 a] w fun e w' =>
    e = .returned (.tuple #[.agg (payS P s a).cells, .int .u64 ((payR P s a : Nat) : Int)]) ∧ Below w.heap.size w w' := by
  have hcap := (stakes_facts (right_facts hr).1).2.2.2.2.2.2.2.1
  have hsb := hs.bal
  have hS : payS P s a = ⟨s.bal + payG P s a, s.eff, s.score, s.streak⟩ := by simp [payS, hr]
  have hR : payR P s a = a - payG P s a := by simp [payR, hr]
  unfold payG at hS hR
  by_cases h1 : s.bal < P.cap
  · obtain ⟨room, hroom⟩ : ∃ room, room = P.cap - s.bal := ⟨_, rfl⟩
    have k1 : (s.bal : Int) < (P.cap : Int) := by omega
    have E0 : IntKind.u64.wrap ((P.cap : Int) - (s.bal : Int)) = (room : Int) := by rw [show (P.cap : Int) - (s.bal : Int) = ((room : Nat) : Int) by omega]; exact Bits.wrapN _ (by omega)
    rw [← hroom] at hS hR
    by_cases h2 : a ≤ room
    · obtain ⟨d, hd⟩ : ∃ d, d = s.bal + a := ⟨_, rfl⟩
      have k2 : (a : Int) ≤ (room : Int) := by omega
      have E1 : IntKind.u64.wrap ((s.bal : Int) + (a : Int)) = (d : Int) := by rw [show (s.bal : Int) + (a : Int) = ((d : Nat) : Int) by omega]; exact Bits.wrapN _ (by omega)
      have HV : Hid (payS P s a = ⟨d, s.eff, s.score, s.streak⟩ ∧ payR P s a = 0) := Lib.hid ⟨by rw [hS, show min a room = a by omega, hd], by rw [hR]; omega⟩
      rw [HV.out.1, HV.out.2]
      clear hS hR hroom hr hs ha hcap hsb h1 h2 hd HV
      go_enter Try.func29, Try.ntmps29
      go_wp2_with fail
      exact bodyPost_ret (v := .tuple #[.agg (St.cells _), .int .u64 0]) (results_cell_tmp Try.results29 _ _ (w.heap.size + 2) _ (St.cells _) (0, 0) _ rfl (heap_at _ _ _ (by simp)) rst_under rfl rst_info) rfl ⟨rfl, (by (repeat (first | exact Below.refl _ _ | assumption | (refine Below.allocT ?_ _) | refine Below.drew ?_ | refine below_drewN ?_ _ | (refine Below.then ?_ (by assumption)) | (refine Below.setRow ?_ ?_ _; rotate_left; (focus (first | exact Nat.lt_succ_self _ | ((repeat rw [World.size_alloc]); omega) | (simp; done) | (simp; omega) | omega))) | (refine Below.setCell ?_ ?_ _; rotate_left; (focus (first | exact Nat.lt_succ_self _ | ((repeat rw [World.size_alloc]); omega) | (simp; done) | (simp; omega) | omega))) | (refine Below.then' ?_ (by assumption) ?_; rotate_left; (focus (first | exact Nat.lt_succ_self _ | ((repeat rw [World.size_alloc]); omega) | (simp; done) | (simp; omega) | omega))) | fail)); (first | done | fail))⟩
    · obtain ⟨d, hd⟩ : ∃ d, d = s.bal + room := ⟨_, rfl⟩
      obtain ⟨rest, hrest⟩ : ∃ rest, rest = a - room := ⟨_, rfl⟩
      have k2 : ¬ (a : Int) ≤ (room : Int) := by omega
      have E1 : IntKind.u64.wrap ((s.bal : Int) + (room : Int)) = (d : Int) := by rw [show (s.bal : Int) + (room : Int) = ((d : Nat) : Int) by omega]; exact Bits.wrapN _ (by omega)
      have E2 : IntKind.u64.wrap ((a : Int) - (room : Int)) = (rest : Int) := by rw [show (a : Int) - (room : Int) = ((rest : Nat) : Int) by omega]; exact Bits.wrapN _ (by omega)
      have HV : Hid (payS P s a = ⟨d, s.eff, s.score, s.streak⟩ ∧ payR P s a = rest) := Lib.hid ⟨by rw [hS, show min a room = room by omega, hd], by rw [hR, hrest]; omega⟩
      rw [HV.out.1, HV.out.2]
      clear hS hR hroom hr hs ha hcap hsb h1 h2 hd hrest HV
      go_enter Try.func29, Try.ntmps29
      go_wp2_with fail
      exact bodyPost_ret (v := .tuple #[.agg (St.cells _), .int .u64 rest]) (results_cell_tmp Try.results29 _ _ (w.heap.size + 2) _ (St.cells _) (0, 0) _ rfl (heap_at _ _ _ (by simp)) rst_under rfl rst_info) rfl ⟨rfl, (by (repeat (first | exact Below.refl _ _ | assumption | (refine Below.allocT ?_ _) | refine Below.drew ?_ | refine below_drewN ?_ _ | (refine Below.then ?_ (by assumption)) | (refine Below.setRow ?_ ?_ _; rotate_left; (focus (first | exact Nat.lt_succ_self _ | ((repeat rw [World.size_alloc]); omega) | (simp; done) | (simp; omega) | omega))) | (refine Below.setCell ?_ ?_ _; rotate_left; (focus (first | exact Nat.lt_succ_self _ | ((repeat rw [World.size_alloc]); omega) | (simp; done) | (simp; omega) | omega))) | (refine Below.then' ?_ (by assumption) ?_; rotate_left; (focus (first | exact Nat.lt_succ_self _ | ((repeat rw [World.size_alloc]); omega) | (simp; done) | (simp; omega) | omega))) | fail)); (first | done | fail))⟩
  · have k1 : ¬ (s.bal : Int) < (P.cap : Int) := by omega
    have hm : min a (P.cap - s.bal) = 0 := by omega
    rw [hm] at hS hR
    by_cases h2 : a = 0
    · subst h2
      have HV : Hid (payS P s 0 = ⟨s.bal, s.eff, s.score, s.streak⟩ ∧ payR P s 0 = 0) := Lib.hid ⟨hS, hR⟩
      rw [HV.out.1, HV.out.2]
      clear hS hR hr hs ha hcap h1 hm HV
      go_enter Try.func29, Try.ntmps29
      go_wp2_with fail
      exact bodyPost_ret (v := .tuple #[.agg (St.cells _), .int .u64 0]) (results_cell_tmp Try.results29 _ _ (w.heap.size + 2) _ (St.cells _) (0, 0) _ rfl (heap_at _ _ _ (by simp)) rst_under rfl rst_info) rfl ⟨rfl, (by (repeat (first | exact Below.refl _ _ | assumption | (refine Below.allocT ?_ _) | refine Below.drew ?_ | refine below_drewN ?_ _ | (refine Below.then ?_ (by assumption)) | (refine Below.setRow ?_ ?_ _; rotate_left; (focus (first | exact Nat.lt_succ_self _ | ((repeat rw [World.size_alloc]); omega) | (simp; done) | (simp; omega) | omega))) | (refine Below.setCell ?_ ?_ _; rotate_left; (focus (first | exact Nat.lt_succ_self _ | ((repeat rw [World.size_alloc]); omega) | (simp; done) | (simp; omega) | omega))) | (refine Below.then' ?_ (by assumption) ?_; rotate_left; (focus (first | exact Nat.lt_succ_self _ | ((repeat rw [World.size_alloc]); omega) | (simp; done) | (simp; omega) | omega))) | fail)); (first | done | fail))⟩
    · have k2 : ¬ (a : Int) ≤ 0 := by omega
      have HV : Hid (payS P s a = ⟨s.bal, s.eff, s.score, s.streak⟩ ∧ payR P s a = a) := Lib.hid ⟨hS, by rw [hR]; omega⟩
      rw [HV.out.1, HV.out.2]
      clear hS hR hr hs hcap h1 hm h2 HV
      go_enter Try.func29, Try.ntmps29
      go_wp2_with fail
      exact bodyPost_ret (v := .tuple #[.agg (St.cells _), .int .u64 a]) (results_cell_tmp Try.results29 _ _ (w.heap.size + 2) _ (St.cells _) (0, 0) _ rfl (heap_at _ _ _ (by simp)) rst_under rfl rst_info) rfl ⟨rfl, (by (repeat (first | exact Below.refl _ _ | assumption | (refine Below.allocT ?_ _) | refine Below.drew ?_ | refine below_drewN ?_ _ | (refine Below.then ?_ (by assumption)) | (refine Below.setRow ?_ ?_ _; rotate_left; (focus (first | exact Nat.lt_succ_self _ | ((repeat rw [World.size_alloc]); omega) | (simp; done) | (simp; omega) | omega))) | (refine Below.setCell ?_ ?_ _; rotate_left; (focus (first | exact Nat.lt_succ_self _ | ((repeat rw [World.size_alloc]); omega) | (simp; done) | (simp; omega) | omega))) | (refine Below.then' ?_ (by assumption) ?_; rotate_left; (focus (first | exact Nat.lt_succ_self _ | ((repeat rw [World.size_alloc]); omega) | (simp; done) | (simp; omega) | omega))) | fail)); (first | done | fail))⟩
theorem two_st (W : World) (s1 s2 : St) (cs : Array Value) (h : cs = s1.cells ++ s2.cells) : SliceOf 4 St.cells (W.alloc (.cells cs 48)) (some ⟨W.heap.size, 0, none⟩) [s1, s2] := fun _ => by
  subst h
  refine ⟨W.heap.size, 0, rfl, by simp, fun i x hi => ?_⟩
  have hr := row_at W (s1.cells ++ s2.cells) 48 _ rfl
  match i with
  | 0 =>
    have e : s1 = x := by simpa using hi
    subst e
    exact range_of_row hr 0 4
  | 1 =>
    have e : s2 = x := by simpa using hi
    subst e
    exact range_of_row hr 4 4
  | k + 2 => simp at hi
theorem two_lit : #[Value.int .u64 0, .int .u64 10, .int .u64 0, .int .i64 0, .int .u64 0, .int .u64 10, .int .u64 0, .int .i64 5] = St.cells ⟨0, 10, 0, 0⟩ ++ St.cells ⟨0, 10, 0, 5⟩ := by kernel_rfl
set_option maxRecDepth 100000 in
set_option maxHeartbeats 4000000 in
theorem awake14_any (w : World) : Calls Try.prog 22 #[] w fun e w' => e = .returned (.bool true) ∧ Below w.heap.size w w' := by
  have hE : prizesE simpleP [⟨0, 10, 0, 0⟩, ⟨0, 10, 0, 5⟩] = 0 := by unfold prizesE; rw [right_simple]; rfl
  have hL : prizesL simpleP 10 [⟨0, 10, 0, 0⟩, ⟨0, 10, 0, 5⟩] = [4, 5] := by unfold prizesL; rw [if_pos hE]; decide
  have hR : prizesR simpleP 10 [⟨0, 10, 0, 0⟩, ⟨0, 10, 0, 5⟩] = 1 := by unfold prizesR; rw [if_pos hE]; decide
  have HP := Lib.hid (fun W A (h : SliceOf 4 St.cells W A [⟨0, 10, 0, 0⟩, ⟨0, 10, 0, 5⟩]) => prizes_any simpleP 10 A 2 2 [⟨0, 10, 0, 0⟩, ⟨0, 10, 0, 5⟩] (by omega) rfl W h)
  unfold PrizesPost at HP
  rw [hE, hL, hR] at HP
  have HW := Lib.hid (fun W => pweight_any simpleP ⟨0, 10, 0, 2⟩ W)
  rw [show weightV simpleP ⟨0, 10, 0, 2⟩ = 12000 by unfold weightV; rw [right_simple]; decide] at HW
  have HSm := Lib.hid (fun A1 A2 c d W (h1 : U64s W A1 [4, 5]) (h2 : U64s W A2 [4, 5]) => same_any A1 A2 [4, 5] [4, 5] 2 c 2 d rfl rfl (by omega) (by omega) W h1 h2)
  rw [show sameB [4, 5] [4, 5] = true by decide] at HSm
  clear hE hL hR
  go_enter Try.func22, Try.ntmps22
  go_wp2_with fail
  refine (simple_any _).mono ?_
  rintro e w1 ⟨rfl, hb1⟩
  have r1 : row (w1.alloc (.cells simpleP.cells 24)) w1.heap.size = some simpleP.cells := row_at _ _ _ _ rfl
  have B1 := Lib.hid (hb1.alloc hb1.size (.cells simpleP.cells 24))
  clear hb1
  go_wp2_with (first | (refine wpList_build_to #[.int .u64 0, .int .u64 10, .int .u64 0, .int .i64 0] rfl 48 _ rfl rfl ?_) | (refine wpList_build_to #[.int .u64 0, .int .u64 10, .int .u64 0, .int .i64 5] rfl 48 _ rfl rfl ?_))
  have hsl := two_st (w1.alloc (.cells simpleP.cells 24)) ⟨0, 10, 0, 0⟩ ⟨0, 10, 0, 5⟩ _ two_lit
  rw [World.size_alloc] at hsl
  refine (HP.out _ _ hsl).mono ?_
  clear hsl
  rintro e w2 ⟨A2, c2, rfl, hO, hb⟩
  have hb2 : Below (w1.alloc (.cells simpleP.cells 24)).heap.size (w1.alloc (.cells simpleP.cells 24)) w2 := ((Below.refl _ _).alloc (Nat.le_refl _) _).trans (hb.mono (by simp))
  have r2 := (row_below hb2 (row_lt r1)).trans r1
  have B2 := Lib.hid (Below.then B1.out hb2)
  obtain ⟨A3, c3, e3, hU, h3⟩ := hO.form
  clear h3
  simp only [Value.slice.injEq, true_and] at e3
  obtain ⟨rfl, rfl⟩ := e3
  have U2 := Lib.hid hU
  clear hO hb hb2 hU r1 B1
  go_wp2_with (refine wpList_build_to #[.int .u64 0, .int .u64 10, .int .u64 0, .int .i64 2] rfl 48 _ rfl rfl ?_)
  refine (HW.out _).mono ?_
  rintro e w3 ⟨rfl, hb3⟩
  have U3 := Lib.hid (U2.out.below hb3 (Nat.le_refl _))
  have B3 := Lib.hid (Below.then B2.out hb3)
  clear hb3 U2 B2 r2
  go_wp2_with fail
  refine (HSm.out _ _ _ 2 _ (U3.out.below ((Below.refl _ w3).alloc (Nat.le_refl _) _) (Nat.le_refl _)) (lit_u64s w3 [4, 5] _ rfl)).mono ?_
  rintro e w4 ⟨rfl, hb4⟩
  have B4 := Lib.hid (Below.then (B3.out.alloc B3.out.size _) hb4)
  clear hb4 U3 B3
  go_wp2_with fail
  go_ret
  exact ⟨rfl, B4.out⟩
end Go.Proofs.Ytkfbnaafpikgfaa

/-
  What package prize's functions answer: prizes, and what is paid.
-/
import Derived.Test.YtkfbnaafpikgfaaPrize
namespace Go.Proofs.Ytkfbnaafpikgfaa
open Go.RowKit
set_option linter.unusedVariables false

def prizesE (P : Par) (xs : List St) : Int := if rightB P then if 128 < xs.length then 3 else 0 else 70
def prizesL (P : Par) (t : Nat) (xs : List St) : List Nat := if prizesE P xs = 0 then partsN t (xs.map (weightN P)) else []
def prizesR (P : Par) (t : Nat) (xs : List St) : Nat := if prizesE P xs = 0 then t - total (partsN t (xs.map (weightN P))) else 0
def PrizesPost (w : World) (P : Par) (t : Nat) (xs : List St) (e : Ending) (w' : World) : Prop := ∃ A c, e = .returned (.tuple #[.slice A (prizesL P t xs).length c, .int .u64 ((prizesR P t xs : Nat) : Int), .int .i64 (prizesE P xs)]) ∧ OwnL w' w.heap.size (.slice A (prizesL P t xs).length c) (prizesL P t xs) ∧ Below w.heap.size w w'
theorem weights_total {P : Par} (hr : rightB P = true) : ∀ xs : List St, total (xs.map (weightN P)) ≤ xs.length * 72057594037927936
  | [] => by simp [total]
  | s :: r => by
    rw [List.map_cons, total_cons, List.length_cons, Nat.add_mul]
    have := weights_total hr r
    have := weight_lt hr s
    omega
theorem weights_ok {P : Par} (hr : rightB P = true) (xs : List St) (hn : xs.length ≤ 128) : wholeE (xs.map (weightN P)) = 0 := by
  have := weights_total hr xs
  unfold wholeE
  rw [if_neg (by simp; omega), if_pos (by omega)]
theorem weights_lt {P : Par} (hr : rightB P = true) (xs : List St) (i : Nat) : (xs.map (weightN P)).getD i 0 < 18446744073709551616 := by
  rw [List.getD_eq_getElem?_getD, List.getElem?_map]
  cases xs[i]? with
  | none => simp
  | some s => have := weight_lt hr s; simp; omega
set_option maxRecDepth 100000 in
set_option maxHeartbeats 4000000 in
theorem prizes_any (P : Par) (t : Nat) (A : Option Addr) (n c : Nat) (xs : List St) (ht : t < 18446744073709551616) (hn : xs.length = n) (w : World) (hU : SliceOf 4 St.cells w A xs) :
    Calls Try.prog 23 #[.agg P.cells, .int .u64 t, .slice A n c] w (PrizesPost w P t xs) := by
  have r0 : row (w.alloc (.cells P.cells 24)) w.heap.size = some P.cells := row_at _ _ _ _ rfl
  have hB0 : Below w.heap.size w (w.alloc (.cells P.cells 24)) := (by (repeat (first | exact Below.refl _ _ | assumption | (refine Below.allocT ?_ _) | refine Below.drew ?_ | refine below_drewN ?_ _ | (refine Below.then ?_ (by assumption)) | (refine Below.setRow ?_ ?_ _; rotate_left; (focus (first | exact Nat.lt_succ_self _ | ((repeat rw [World.size_alloc]); omega) | (simp; done) | (simp; omega) | omega))) | (refine Below.setCell ?_ ?_ _; rotate_left; (focus (first | exact Nat.lt_succ_self _ | ((repeat rw [World.size_alloc]); omega) | (simp; done) | (simp; omega) | omega))) | (refine Below.then' ?_ (by assumption) ?_; rotate_left; (focus (first | exact Nat.lt_succ_self _ | ((repeat rw [World.size_alloc]); omega) | (simp; done) | (simp; omega) | omega))) | fail)); (first | done | fail))
  have HC := Lib.hid (fun W => check_any P W)
  cases hr : rightB P
  · rw [show checkE P = 70 by simp [checkE, hr]] at HC
    have hE : prizesE P xs = 70 := by simp [prizesE, hr]
    have HE : Hid (prizesE P xs = 70 ∧ prizesL P t xs = [] ∧ prizesR P t xs = 0) := Lib.hid ⟨hE, by simp [prizesL, hE], by simp [prizesR, hE]⟩
    clear hr hE hU hn
    go_enter Try.func23, Try.ntmps23
    go_wp2_with fail
    generalize w.alloc (.cells P.cells 24) = w0 at *
    refine (HC.out _).mono ?_
    rintro e w1 ⟨rfl, hb1⟩
    go_wp2_with fail
    go_ret3
    exact ⟨none, 0, by rw [HE.out.1, HE.out.2.1, HE.out.2.2]; rfl, by rw [HE.out.2.1]; exact OwnL.nil _ _, Below.then hB0 hb1⟩
  · rw [show checkE P = 0 by simp [checkE, hr]] at HC
    by_cases hbig : (128 : Int) < (n : Int)
    · have hE : prizesE P xs = 3 := by unfold prizesE; rw [if_pos hr, if_pos (by omega)]
      have HE : Hid (prizesE P xs = 3 ∧ prizesL P t xs = [] ∧ prizesR P t xs = 0) := Lib.hid ⟨hE, by simp [prizesL, hE], by simp [prizesR, hE]⟩
      clear hr hE hU hn
      go_enter Try.func23, Try.ntmps23
      go_wp2_with fail
      generalize w.alloc (.cells P.cells 24) = w0 at *
      refine (HC.out _).mono ?_
      rintro e w1 ⟨rfl, hb1⟩
      go_wp2_with fail
      go_ret3
      exact ⟨none, 0, by rw [HE.out.1, HE.out.2.1, HE.out.2.2]; rfl, by rw [HE.out.2.1]; exact OwnL.nil _ _, Below.then hB0 hb1⟩
    · have hE : prizesE P xs = 0 := by unfold prizesE; rw [if_pos hr, if_neg (by omega)]
      have hok := weights_ok hr xs (by omega)
      have hlt := weights_lt hr xs
      have HEach := Lib.hid (fun W (h1 : row W w.heap.size = some P.cells) (h2 : SliceOf 4 St.cells W A xs) => peach_any P w.heap.size hr A n c xs hn (by omega) W h1 h2)
      have HE : Hid (prizesE P xs = 0 ∧ prizesL P t xs = partsN t (xs.map (weightN P)) ∧ prizesR P t xs = t - total (partsN t (xs.map (weightN P)))) := Lib.hid ⟨hE, by simp [prizesL, hE], by simp [prizesR, hE]⟩
      have HWl : Hid ((xs.map (weightN P)).length ≤ 128) := Lib.hid (by simp; omega)
      have HSp := Lib.hid (fun W (B : Option Addr) (d : Nat) (h1 : U64s W B (xs.map (weightN P))) (h2 : 0 < (xs.map (weightN P)).length → ∀ x, B = some x → x.block < W.heap.size) => splitl_any t (xs.map (weightN P)).length d B (xs.map (weightN P)) ht hlt rfl (by have := HWl.out; omega) W h1 h2)
      have HV : Hid (partsV t (xs.map (weightN P)) = partsN t (xs.map (weightN P)) ∧ leftV t (xs.map (weightN P)) = t - total (partsN t (xs.map (weightN P))) ∧ wholeE (xs.map (weightN P)) = 0) := Lib.hid ⟨by simp [partsV, hok], by simp [leftV, hok], hok⟩
      have HU := Lib.hid hU
      generalize xs.map (weightN P) = ws at *
      clear hr hE hU hn hok hlt
      go_enter Try.func23, Try.ntmps23
      go_wp2_with fail
      generalize w.alloc (.cells P.cells 24) = w0 at *
      refine (HC.out _).mono ?_
      rintro e w1 ⟨rfl, hb1⟩
      have R1 := Lib.hid ((row_below hb1 (row_lt r0)).trans r0)
      have B1 := Lib.hid (Below.then hB0 hb1)
      clear r0 hB0 hb1
      go_wp2_with fail
      refine (HEach.out _ R1.out (HU.out.below B1.out (Nat.le_refl _))).mono ?_
      rintro e w2 ⟨A2, c2, rfl, hO2, hb2⟩
      obtain ⟨A2', c2', e2, hU2, hl2, _⟩ := hO2.form
      simp only [Value.slice.injEq, true_and] at e2
      obtain ⟨rfl, rfl⟩ := e2
      have HS := Lib.hid (HSp.out w2 A2 c2 hU2 (fun _ x hx => (hl2 x hx).2))
      have B2 := Lib.hid (Below.then B1.out hb2)
      clear hO2 hb2 hU2 hl2 R1 B1
      go_wp2_with fail
      refine (HS.out).mono ?_
      rintro e w3 ⟨v, rfl, hO3, hb3⟩
      rw [HV.out.1] at hO3
      rw [HV.out.2.1, HV.out.2.2]
      obtain ⟨A3, c3, rfl, h3⟩ := hO3.form
      clear h3
      have O3 := Lib.hid hO3
      have B3 := Lib.hid (Below.then B2.out hb3)
      have S3 := Lib.hid B2.out.size
      clear hO3 hb3 B2 HS
      go_wp2_with fail
      go_ret3
      exact ⟨A3, c3, by rw [HE.out.1, HE.out.2.1, HE.out.2.2]; rfl, by rw [HE.out.2.1]; exact O3.out.base S3.out, B3.out⟩
def weightV (P : Par) (s : St) : Nat := if rightB P then weightN P s else 0
theorem pweight_any (P : Par) (s : St) (w : World) : Calls Try.prog 24 #[.agg P.cells, .agg s.cells] w fun e w' => e = .returned (.int .u64 ((weightV P s : Nat) : Int)) ∧ Below w.heap.size w w' := by
  have r0 : row ((w.alloc (.cells P.cells 24)).alloc (.cells s.cells 48)) w.heap.size = some P.cells := (by (repeat (first | assumption | (refine row_at _ _ _ _ ?_; first | rfl | (simp only [World.size_alloc]; done) | (simp only [World.size_alloc]; omega)) | (refine (row_past _ _ _ ?_).trans ?_; (focus (first | exact Nat.lt_succ_self _ | ((repeat rw [World.size_alloc]); omega) | (simp; done) | (simp; omega) | omega))) | rw [row_drewN] | rw [row_drew])); (first | done | fail))
  have s0 : row ((w.alloc (.cells P.cells 24)).alloc (.cells s.cells 48)) (w.heap.size + 1) = some s.cells := (by (repeat (first | assumption | (refine row_at _ _ _ _ ?_; first | rfl | (simp only [World.size_alloc]; done) | (simp only [World.size_alloc]; omega)) | (refine (row_past _ _ _ ?_).trans ?_; (focus (first | exact Nat.lt_succ_self _ | ((repeat rw [World.size_alloc]); omega) | (simp; done) | (simp; omega) | omega))) | rw [row_drewN] | rw [row_drew])); (first | done | fail))
  have hB0 : Below w.heap.size w ((w.alloc (.cells P.cells 24)).alloc (.cells s.cells 48)) := (by (repeat (first | exact Below.refl _ _ | assumption | (refine Below.allocT ?_ _) | refine Below.drew ?_ | refine below_drewN ?_ _ | (refine Below.then ?_ (by assumption)) | (refine Below.setRow ?_ ?_ _; rotate_left; (focus (first | exact Nat.lt_succ_self _ | ((repeat rw [World.size_alloc]); omega) | (simp; done) | (simp; omega) | omega))) | (refine Below.setCell ?_ ?_ _; rotate_left; (focus (first | exact Nat.lt_succ_self _ | ((repeat rw [World.size_alloc]); omega) | (simp; done) | (simp; omega) | omega))) | (refine Below.then' ?_ (by assumption) ?_; rotate_left; (focus (first | exact Nat.lt_succ_self _ | ((repeat rw [World.size_alloc]); omega) | (simp; done) | (simp; omega) | omega))) | fail)); (first | done | fail))
  have HC := Lib.hid (fun W => check_any P W)
  cases hr : rightB P
  · rw [show checkE P = 70 by simp [checkE, hr]] at HC
    have HV : Hid (weightV P s = 0) := Lib.hid (by simp [weightV, hr])
    clear hr
    go_enter Try.func24, Try.ntmps24
    go_wp2_with fail
    generalize (w.alloc (.cells P.cells 24)).alloc (.cells s.cells 48) = w0 at *
    refine (HC.out _).mono ?_
    rintro e w1 ⟨rfl, hb1⟩
    go_wp2_with fail
    go_ret
    exact ⟨by rw [HV.out]; rfl, Below.then hB0 hb1⟩
  · rw [show checkE P = 0 by simp [checkE, hr]] at HC
    have HV : Hid (weightV P s = weightN P s) := Lib.hid (by simp [weightV, hr])
    have HW := Lib.hid (fun W => weight_any P s hr W)
    rw [HV.out]
    generalize weightN P s = q at *
    clear hr HV
    go_enter Try.func24, Try.ntmps24
    go_wp2_with fail
    generalize (w.alloc (.cells P.cells 24)).alloc (.cells s.cells 48) = w0 at *
    refine (HC.out _).mono ?_
    rintro e w1 ⟨rfl, hb1⟩
    have r1 := (row_below hb1 (row_lt r0)).trans r0
    have s1 := (row_below hb1 (row_lt s0)).trans s0
    have hB1 := Below.then hB0 hb1
    clear r0 s0 hB0 hb1
    go_wp2_with fail
    refine (HW.out _).mono ?_
    rintro e w2 ⟨rfl, hb2⟩
    have hB2 := Below.then hB1 hb2
    go_wp2_with fail
    go_ret
    exact ⟨rfl, hB2⟩
end Go.Proofs.Ytkfbnaafpikgfaa

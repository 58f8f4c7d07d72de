/-
  A head's sector: (vault.head).form.
-/
import Derived.Test.YtkkncijbedfdfaaVault2
import Derived.Test.YtkkncijbedfdfaaAppZ
namespace Go.Proofs.Ytkkncijbedfdfaa
open Go.RowKit
set_option linter.unusedVariables false

def headC (h : Hd) : Array Value := #[.int .u64 (h.gen : Int), .int .i64 (h.area : Int), .int .i64 (h.snap : Int), .int .i64 (h.log : Int), .int .i64 (h.all : Int)]
/-- Bytes that are being made behind a world. -/
structure Mk (w0 W : World) (v : Value) (ds : List Nat) : Prop where
  own : OwnB W v ds
  new : ∀ k, v.ownBlock = some k → w0.heap.size ≤ k
  bel : Below w0.heap.size w0 W
theorem Mk.stay {w0 W W' : World} {v : Value} {ds : List Nat} (h : Mk w0 W v ds) (hb : Below W.heap.size W W') : Mk w0 W' v ds := ⟨h.own.stay hb, h.new, Below.then h.bel hb⟩
theorem Mk.app {w0 W W' : World} {v v' : Value} {ds m : List Nat} (h : Mk w0 W v ds) (ha : Appended W v ds m v' W') : Mk w0 W' v' (ds ++ m) :=
  ⟨ha.1, fun k hk => by
    rcases ha.2.2 with e | e
    · exact h.new k (by rw [← e]; exact hk)
    · rw [e] at hk; cases hk; exact h.bel.size, h.bel.trans (Chg.toBelow ha.chg (fun k hk => h.new k hk) h.bel.size)⟩
theorem Mk.appW {w0 X W' : World} {v v' : Value} {ds m : List Nat} {o : Obj} (h : Mk w0 X v ds) (ha : Appended (X.alloc o) v ds m v' W') : Mk w0 W' v' (ds ++ m) := (h.stay ((Below.refl _ X).alloc (Nat.le_refl _) o)).app ha
theorem Mk.retB {w w0 W : World} {v : Value} {ds : List Nat} (h : Mk w0 W v ds) (hb : Below w.heap.size w w0) : RetB w ds (.returned v) W := retB_of rfl h.own (fun k hk => Nat.le_trans hb.size (h.new k hk)) (Below.then hb h.bel)
theorem Mk.app1 {w0 X W' : World} {v v' : Value} {ds : List Nat} {y : Nat} (h : Mk w0 X v ds) (a1 : OwnB W' v' (ds ++ [y])) (a2 : Chg (owns v) X W') (a3 : v'.ownBlock = v.ownBlock ∨ v'.ownBlock = some (X.heap.size + 1)) : Mk w0 W' v' (ds ++ [y]) :=
  ⟨a1, fun k hk => by
    have hs := h.bel.size
    rcases a3 with e | e
    · exact h.new k (by rw [← e]; exact hk)
    · rw [e] at hk; cases hk; omega, h.bel.trans (Chg.toBelow a2 (fun k hk => h.new k hk) h.bel.size)⟩
theorem of_worldV {P : Program} {c : Code} {a : Act} {Q : Exit → Act → World → Prop} {W : World} (S : World → Prop) (h : S W) (k : ∀ W, S W → Code.wp P c Q a W) : Code.wp P c Q a W := k W h
def nK (h : Hd) : Nat → Nat
  | 0 => h.snap
  | 1 => h.log
  | _ => h.all
def preK (h : Hd) (base : List Nat) : Nat → List Nat
  | 0 => base
  | k + 1 => preK h base k ++ lit (nK h k) 4
set_option maxHeartbeats 4000000 in
set_option maxRecDepth 100000 in
theorem form_any (h : Hd) (room : Nat) (ho : h.Ok room) (w : World) : Calls Try.prog 43 #[.agg (headC h)] w (RetB w (formH h)) := by
  have r0 : row (w.alloc (.cells (headC h) 40)) w.heap.size = some (headC h) := (by (repeat (first | assumption | (refine row_at _ _ _ _ ?_; first | rfl | (simp only [World.size_alloc]; done) | (simp only [World.size_alloc]; omega)) | (refine (row_past _ _ _ ?_).trans ?_; (focus (first | exact Nat.lt_succ_self _ | ((repeat rw [World.size_alloc]); omega) | (simp; done) | (simp; omega) | omega))) | rw [row_drewN] | rw [row_drew])); (first | done | fail))
  have hB0 : Below w.heap.size w (w.alloc (.cells (headC h) 40)) := (by (repeat (first | exact Below.refl _ _ | assumption | (refine Below.allocT ?_ _) | refine Below.drew ?_ | refine below_drewN ?_ _ | (refine Below.then ?_ (by assumption)) | (refine Below.setRow ?_ ?_ _; rotate_left; (focus (first | exact Nat.lt_succ_self _ | ((repeat rw [World.size_alloc]); omega) | (simp; done) | (simp; omega) | omega))) | (refine Below.setCell ?_ ?_ _; rotate_left; (focus (first | exact Nat.lt_succ_self _ | ((repeat rw [World.size_alloc]); omega) | (simp; done) | (simp; omega) | omega))) | (refine Below.then' ?_ (by assumption) ?_; rotate_left; (focus (first | exact Nat.lt_succ_self _ | ((repeat rw [World.size_alloc]); omega) | (simp; done) | (simp; omega) | omega))) | fail)); (first | done | fail))
  obtain ⟨b1, b2, b3⟩ := ho.bounds
  have hg := ho.gen
  have ha := ho.area
  have HF : Hid (formH h = [66, 86] ++ lit h.gen 8 ++ [h.area % 256] ++ lit h.snap 4 ++ lit h.log 4 ++ lit h.all 4 ++ List.replicate 41 0) := Lib.hid (by unfold formH; simp [List.append_assoc])
  go_enter Try.func43, Try.ntmps43
  go_upto_region 1 with fail
  generalize w.alloc (.cells (headC h) 40) = w0 at *
  have HR0 := Lib.hid r0
  have HB0 := Lib.hid hB0
  have hlt0 := row_lt r0
  clear r0 hB0
  go_upto_region 2 with fail
  refine of_worldV (fun W => Mk w0 W (.slice (some ⟨w0.heap.size, 0, none⟩) 2 2) [66, 86]) ⟨OwnB.lit w0 [66, 86] _ (by simp) rfl, fun k hk => by cases hk; exact Nat.le_refl _, (by (repeat (first | exact Below.refl _ _ | assumption | (refine Below.allocT ?_ _) | refine Below.drew ?_ | refine below_drewN ?_ _ | (refine Below.then ?_ (by assumption)) | (refine Below.setRow ?_ ?_ _; rotate_left; (focus (first | exact Nat.lt_succ_self _ | ((repeat rw [World.size_alloc]); omega) | (simp; done) | (simp; omega) | omega))) | (refine Below.setCell ?_ ?_ _; rotate_left; (focus (first | exact Nat.lt_succ_self _ | ((repeat rw [World.size_alloc]); omega) | (simp; done) | (simp; omega) | omega))) | (refine Below.then' ?_ (by assumption) ?_; rotate_left; (focus (first | exact Nat.lt_succ_self _ | ((repeat rw [World.size_alloc]); omega) | (simp; done) | (simp; omega) | omega))) | fail)); (first | done | fail))⟩ ?_
  intro w1 hM1
  have HM1 := Lib.hid hM1
  have k0 : w1.cell? ⟨w.heap.size, 0, none⟩ = some (.int .u64 (h.gen : Int)) := row_cell ((row_below hM1.bel hlt0).trans HR0.out) 0
  have HL8 : Hid (∀ W, Calls Try.prog 52 #[.int .u64 (h.gen : Int), .int .i64 8] W (RetB W (lit h.gen 8))) := Lib.hid fun W => little_any h.gen 8 (by omega) (by omega) W
  clear hM1
  go_wp2_with fail
  refine (HL8.out _).mono ?_
  intro e w2 hRet
  obtain ⟨A2, c2, rfl, hB2, hO2, hN2, hb2⟩ := hRet.bys
  rw [lit_len] at hO2 ⊢
  have HM2 := Lib.hid (HM1.out.stay hb2)
  have HB2 := Lib.hid hB2
  clear hB2 hO2 hN2 hb2 hRet HL8 HM1 k0
  go_upto_region 3 with (at_builtin; refine wpList_appb rfl _ _ rfl _ [66, 86] (lit h.gen 8) A2 8 c2 HM2.out.own HB2.out rfl rfl (lit_len _ _) (by rw [lit_len]; simp) ?_; intro v3 w3 hA3)
  have HM3 := Lib.hid (HM2.out.app hA3)
  have c1 : w3.cell? ⟨w.heap.size, 1, none⟩ = some (.int .i64 (h.area : Int)) := row_cell ((row_below HM3.out.bel hlt0).trans HR0.out) 1
  have E1 : IntKind.u8.wrap (h.area : Int) = (h.area : Int) := by rw [IntKind.wrap_u8]; omega
  clear hA3 HM2 HB2
  generalize hds3 : [66, 86] ++ lit h.gen 8 = ds3 at *
  have hl3 : ds3.length = 10 := by rw [← hds3, List.length_append, lit_len]; rfl
  have H3 := Lib.hid hds3
  clear hds3
  go_upto_region 4 with (at_builtin; refine wpList_app1 rfl _ _ rfl _ ds3 _ (h.area % 256) HM3.out.own rfl rfl ?_ ?_ ?_; (focus omega); (focus omega); intro v4 w4 a1 a2 a3)
  have HM4 := Lib.hid (HM3.out.app1 a1 a2 a3)
  have r4 := (row_below HM4.out.bel hlt0).trans HR0.out
  have c2' : w4.cell? ⟨w.heap.size, 2, none⟩ = some (.int .i64 (h.snap : Int)) := row_cell r4 2
  have c3' : w4.cell? ⟨w.heap.size, 3, none⟩ = some (.int .i64 (h.log : Int)) := row_cell r4 3
  have c4' : w4.cell? ⟨w.heap.size, 4, none⟩ = some (.int .i64 (h.all : Int)) := row_cell r4 4
  clear a1 a2 a3 HM3 r4 c1
  generalize hds4 : ds3 ++ [h.area % 256] = ds4 at *
  have hl4 : ds4.length = 11 := by rw [← hds4, List.length_append, hl3]; rfl
  have H4 := Lib.hid hds4
  clear hds4
  go_upto_region 5 with fail
  refine of_worldV (fun W => Mk w0 W v4 (preK h ds4 0) ∧ row W w4.heap.size = some #[.int .i64 (h.snap : Int), .int .i64 (h.log : Int), .int .i64 (h.all : Int)] ∧ v4.ownBlock ≠ some w4.heap.size) ⟨HM4.out.stay (by (repeat (first | exact Below.refl _ _ | assumption | (refine Below.allocT ?_ _) | refine Below.drew ?_ | refine below_drewN ?_ _ | (refine Below.then ?_ (by assumption)) | (refine Below.setRow ?_ ?_ _; rotate_left; (focus (first | exact Nat.lt_succ_self _ | ((repeat rw [World.size_alloc]); omega) | (simp; done) | (simp; omega) | omega))) | (refine Below.setCell ?_ ?_ _; rotate_left; (focus (first | exact Nat.lt_succ_self _ | ((repeat rw [World.size_alloc]); omega) | (simp; done) | (simp; omega) | omega))) | (refine Below.then' ?_ (by assumption) ?_; rotate_left; (focus (first | exact Nat.lt_succ_self _ | ((repeat rw [World.size_alloc]); omega) | (simp; done) | (simp; omega) | omega))) | fail)); (first | done | fail)), row_at _ _ _ _ rfl, fun e => Nat.lt_irrefl _ (HM4.out.own.lt _ e)⟩ ?_
  intro w5 hW5
  have HW5 := Lib.hid hW5
  clear hW5 HM4 c2' c3' c4'
  generalize w4.heap.size = gI at *
  have HnK : Hid (∀ k, k < 3 → nK h k < 4294967296) := Lib.hid fun k hk => by
    match k, hk with
    | 0, _ => exact b1
    | 1, _ => exact b2
    | 2, _ => exact b3
  have HpL : Hid (∀ k, (preK h ds4 k).length = 11 + 4 * k) := Lib.hid fun k => by
    induction k with
    | zero => exact hl4
    | succ k ih => rw [preK, List.length_append, ih, lit_len]; omega
  go_loopw [3, 26] (fun v i wr => ∃ k : Nat, i = .int .i64 k ∧ k ≤ 3 ∧ Hid (Mk w0 wr v (preK h ds4 k) ∧ row wr gI = some #[.int .i64 (h.snap : Int), .int .i64 (h.log : Int), .int .i64 (h.all : Int)] ∧ v.ownBlock ≠ some gI)) (fun _ i _ => 3 - (intOf i).toNat)
  case atStart => exact ⟨0, rfl, by omega, HW5⟩
  case round =>
    obtain ⟨k, rfl, hk, hK⟩ := hrel
    clear HW5
    by_cases hk3 : k < 3
    · have hcell : wr.cell? ⟨gI, k, none⟩ = some (.int .i64 ((nK h k : Nat) : Int)) := by
        have hc := row_cell hK.out.2.1 k
        match k, hk3 with
        | 0, _ => exact hc
        | 1, _ => exact hc
        | 2, _ => exact hc
      have hN := HnK.out k hk3
      have HpS : Hid (preK h ds4 (k + 1) = preK h ds4 k ++ lit (nK h k) 4) := Lib.hid rfl
      have hpl := HpL.out k
      generalize nK h k = N at *
      have EN : IntKind.u64.wrap (N : Int) = (N : Int) := by rw [IntKind.wrap_u64]; omega
      have HL4 : Hid (∀ W, Calls Try.prog 52 #[.int .u64 (N : Int), .int .i64 4] W (RetB W (lit N 4))) := Lib.hid fun W => little_any N 4 (by omega) (by omega) W
      have z1 : (0 : Int) ≤ (k : Int) := by omega
      have z2 : (k : Int) < 3 := by omega
      generalize preK h ds4 k = pk at *
      go_wp2_with fail
      refine (HL4.out _).mono ?_
      intro e w6 hRet
      obtain ⟨A6, c6, rfl, hB6, hO6, hN6, hb6⟩ := hRet.bys
      rw [lit_len] at hO6 ⊢
      have HM6 := Lib.hid (hK.out.1.stay hb6)
      have HR6 := Lib.hid (And.intro ((row_below hb6 (row_lt hK.out.2.1)).trans hK.out.2.1) hK.out.2.2)
      have HB6 := Lib.hid hB6
      clear hB6 hO6 hN6 hb6 hRet HL4 hcell
      go_wp2_with (at_builtin; refine wpList_appb rfl _ _ rfl _ pk (lit N 4) A6 4 c6 HM6.out.own HB6.out rfl rfl (lit_len _ _) (by rw [lit_len]; omega) ?_; intro v7 w7 hA7)
      have HNx : Hid (Mk w0 w7 v7 (preK h ds4 (k + 1)) ∧ row w7 gI = some #[.int .i64 (h.snap : Int), .int .i64 (h.log : Int), .int .i64 (h.all : Int)] ∧ v7.ownBlock ≠ some gI) := Lib.hid ⟨by rw [HpS.out]; exact HM6.out.app hA7, (hA7.chg.row (row_lt HR6.out.1) (fun e => HR6.out.2 e)).trans HR6.out.1, fun e => by
        rcases hA7.2.2 with q | q
        · exact HR6.out.2 (by rw [← q]; exact e)
        · rw [q] at e
          have h1 := row_lt HR6.out.1
          have h2 := Option.some.inj e
          omega⟩
      exact ⟨⟨k + 1, by go_num, by omega, HNx⟩, by simp [intOf]; omega⟩
    · obtain rfl : k = 3 := by omega
      have hpl := HpL.out 3
      have hpS : preK h ds4 3 = ds4 ++ lit h.snap 4 ++ lit h.log 4 ++ lit h.all 4 := rfl
      have HM := Lib.hid hK.out.1
      generalize preK h ds4 3 = p3 at *
      have HpS := Lib.hid hpS
      clear hpS
      clear hK
      obtain ⟨A8, c8, hv8, _⟩ := HM.out.own.form
      rw [hpl] at hv8
      subst hv8
      go_wp2_with (at_builtin; refine wpList_appz rfl _ _ rfl _ p3 41 HM.out.own rfl (by first | rfl | (simp; done)) (by omega) (by omega) (by omega) ?_; intro v9 w9 hA9)
      go_ret
      have hM9 := HM.out.app hA9
      have hR := hM9.retB HB0.out
      have hE : formH h = p3 ++ List.replicate 41 0 := by rw [HF.out]; exact congrArg (· ++ List.replicate 41 0) HpS.out.symm
      rw [hE]
      exact hR
end Go.Proofs.Ytkkncijbedfdfaa

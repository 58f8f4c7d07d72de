/-
  Layer 23's helpers: few, Plain; two lists of the same motions are the same.
-/
import Derived.Test.YtnakkjgnjffkpaaMoot1
import Derived.Test.YtnakkjgnjffkpaaSame5
import Derived.Test.YtnakkjgnjffkpaaDed
import Derived.BigQuiet
import Derived.BigRegion
namespace Go.Proofs.Ytnakkjgnjffkpaa
open Go.RowKit
set_option linter.unusedVariables false

theorem mot_range {W : World} {b o : Nat} {x : Mot × MotA} (h : ∀ j v, (motC x).toList[j]? = some v → W.cell? ⟨b, o + j, none⟩ = some v) : W.rangeAt b o (motC x).toList := fun j v hv => h j v hv
def fewM (xs : List (Mot × MotA)) : Bool := decide ((∀ x ∈ xs, x.1.yes.length ≤ 50 ∧ x.1.no.length ≤ 50) ∧ xs.length ≤ 60)
set_option maxRecDepth 100000 in
set_option maxHeartbeats 4000000 in
theorem few23_any (A : Option Addr) (n c : Nat) (xs : List (Mot × MotA)) (hn : xs.length = n) (hm : n ≤ 9223372036854775807) (w : World) (hX : ML w A xs) : Calls Try.prog 32 #[.slice A n c] w fun e w' => e = .returned (.bool (fewM xs)) ∧ Below w.heap.size w w' := by
  have HX := Lib.hid hX
  have HN := Lib.hid hn
  clear hX hn
  go_enter Try.func32, Try.ntmps32
  go_wp2_with fail
  go_loopw [7] (fun i wr => ∃ j : Nat, i = .int .i64 j ∧ j ≤ n ∧ Hid ((∀ x ∈ xs.take j, x.1.yes.length ≤ 50 ∧ x.1.no.length ≤ 50) ∧ Below w.heap.size w wr)) (fun i _ => n - (intOf i).toNat)
  case atStart => exact ⟨0, rfl, by omega, Lib.hid ⟨by simp, Below.refl _ _⟩⟩
  case round =>
    obtain ⟨j, rfl, hj, hH⟩ := hrel
    by_cases hlt : j < n
    · obtain ⟨b, off, rfl, hbb, hcell⟩ := HX.out.sl (by rw [HN.out]; omega)
      obtain ⟨⟨m, a⟩, hx⟩ : ∃ x, xs[j]? = some x := ⟨_, List.getElem?_eq_getElem (by rw [HN.out]; exact hlt)⟩
      have hr := range_below (hcell j _ hx) hH.out.2 hbb
      have hi : (Try.prog.info? 103).map (·.size) = some (motC (m, a)).toList.length := by rw [mot_info]; rfl
      have HXj := Lib.hid hx
      have z1 : (0 : Int) ≤ (j : Int) := by omega
      have z2 : (j : Int) < (n : Int) := by omega
      have hz := motC_one (m, a)
      clear hcell hx
      go_upto_region 4 with (refine wpList_load_mid rfl 103 _ (by rfl) b (off + j * 33) (by rfl) (motC (m, a)).toList _ hr mot_under rfl hi ?_)
      refine of_world (fun W => Below wr.heap.size wr W ∧ row W wr.heap.size = some (motC (m, a))) ⟨(by (repeat (first | exact Below.refl _ _ | assumption | (refine Below.allocT ?_ _) | refine Below.drew ?_ | refine below_drewN ?_ _ | (refine Below.then ?_ (by assumption)) | (refine Below.setRow ?_ ?_ _; rotate_left; (focus (first | exact Nat.lt_succ_self _ | ((repeat rw [World.size_alloc]); omega) | (simp; done) | (simp; omega) | omega))) | (refine Below.setCell ?_ ?_ _; rotate_left; (focus (first | exact Nat.lt_succ_self _ | ((repeat rw [World.size_alloc]); omega) | (simp; done) | (simp; omega) | omega))) | (refine Below.then' ?_ (by assumption) ?_; rotate_left; (focus (first | exact Nat.lt_succ_self _ | ((repeat rw [World.size_alloc]); omega) | (simp; done) | (simp; omega) | omega))) | fail)); (first | done | fail)), by first | exact row_at _ _ _ _ rfl | (rw [row_setRow_if, if_pos rfl, row_at _ _ _ _ rfl]; rfl)⟩ ?_
      rintro w4 ⟨hb4, r4⟩
      have HB4 := Lib.hid (Below.then hH.out.2 hb4)
      have k31 : w4.cell? ⟨wr.heap.size, 31, none⟩ = some (.slice a.a1 m.yes.length a.c1) := row_cell r4 31
      have k32 : w4.cell? ⟨wr.heap.size, 32, none⟩ = some (.slice a.a2 m.no.length a.c2) := row_cell r4 32
      clear hr hi hb4 r4 hz
      generalize wr.heap.size = g4 at *
      by_cases h1 : 50 < m.yes.length
      · have h1' : (50 : Int) < (m.yes.length : Int) := by omega
        have HV : Hid (fewM xs = false) := Lib.hid (decide_eq_false fun h => by have h9 : m.yes.length ≤ 50 := (h.1 _ (List.mem_of_getElem? HXj.out)).1; omega)
        clear h1
        go_wp2_with fail
        go_ret
        exact ⟨by rw [HV.out]; rfl, HB4.out⟩
      have h1' : ¬ (50 : Int) < (m.yes.length : Int) := by omega
      by_cases h2 : 50 < m.no.length
      · have h2' : (50 : Int) < (m.no.length : Int) := by omega
        have HV : Hid (fewM xs = false) := Lib.hid (decide_eq_false fun h => by have h9 : m.no.length ≤ 50 := (h.1 _ (List.mem_of_getElem? HXj.out)).2; omega)
        clear h1 h2
        go_wp2_with fail
        go_ret
        exact ⟨by rw [HV.out]; rfl, HB4.out⟩
      have h2' : ¬ (50 : Int) < (m.no.length : Int) := by omega
      have HI : Hid ((∀ x ∈ xs.take (j + 1), x.1.yes.length ≤ 50 ∧ x.1.no.length ≤ 50) ∧ Below w.heap.size w w4) := Lib.hid ⟨fun y hy => by
        obtain ⟨hjl, hjz⟩ := List.getElem?_eq_some_iff.1 HXj.out
        rw [List.take_succ_eq_append_getElem hjl, hjz] at hy
        rcases List.mem_append.1 hy with hy | hy
        · exact hH.out.1 y hy
        · rw [List.mem_singleton] at hy; subst hy; exact ⟨by show m.yes.length ≤ 50; omega, by show m.no.length ≤ 50; omega⟩, HB4.out⟩
      clear h1 h2
      go_wp2_with fail
      exact ⟨⟨j + 1, by go_num, by omega, HI⟩, by simp [intOf]; omega⟩
    · obtain rfl : j = n := by omega
      have hall := hH.out.1
      rw [List.take_of_length_le (by rw [HN.out]; exact Nat.le_refl _)] at hall
      by_cases h60 : j ≤ 60
      · have h60' : (j : Int) ≤ 60 := by omega
        have HV : Hid (fewM xs = true) := Lib.hid (decide_eq_true ⟨hall, by rw [HN.out]; exact h60⟩)
        clear hall
        go_wp2_with fail
        go_ret
        exact ⟨by rw [HV.out]; rfl, hH.out.2⟩
      · have h60' : ¬ (j : Int) ≤ 60 := by omega
        have HV : Hid (fewM xs = false) := Lib.hid (decide_eq_false fun h => by have := h.2; rw [HN.out] at this; omega)
        clear hall
        go_wp2_with fail
        go_ret
        exact ⟨by rw [HV.out]; rfl, hH.out.2⟩
/-- A list of the document's motions that a call owns: the same motions, their votes where they were. -/
def PlainPost (w : World) (xs : List (Mot × MotA)) (e : Ending) (w' : World) : Prop := ∃ A c, e = .returned (.slice A xs.length c) ∧ OwnC 107 33 motC w' w.heap.size (.slice A xs.length c) xs ∧ Below w.heap.size w w'
set_option maxRecDepth 100000 in
set_option maxHeartbeats 8000000 in
theorem plain23_any (A : Option Addr) (n c : Nat) (xs : List (Mot × MotA)) (hn : xs.length = n) (hm : n ≤ 90000) (w : World) (hX : SliceOf 33 motC w A xs) : Calls Try.prog 36 #[.slice A n c] w (PlainPost w xs) := by
  have HX := Lib.hid hX
  have HN := Lib.hid hn
  clear hX hn
  go_enter Try.func36, Try.ntmps36
  go_wp2_with fail
  go_loopw [3, 8] (fun u i wr => ∃ (j : Nat) (U : Value), i = .int .i64 j ∧ U = u ∧ j ≤ n ∧ Hid (OwnC 107 33 motC wr w.heap.size U (xs.take j) ∧ Below w.heap.size w wr)) (fun _ i _ => n - (intOf i).toNat)
  case atStart => exact ⟨0, _, rfl, rfl, by omega, Lib.hid ⟨by rw [List.take_zero]; exact OwnC.nil _ _, Below.refl _ _⟩⟩
  case round =>
    obtain ⟨j, U, rfl, rfl, hj, hH⟩ := hrel
    by_cases hlt : j < n
    · obtain ⟨b, off, rfl, hbb, hcell⟩ := HX.out (by rw [HN.out]; omega)
      obtain ⟨⟨m, a⟩, hx⟩ : ∃ x, xs[j]? = some x := ⟨_, List.getElem?_eq_getElem (by rw [HN.out]; exact hlt)⟩
      have hr := range_below (hcell j _ hx) hH.out.2 hbb
      have hi : (Try.prog.info? 103).map (·.size) = some (motC (m, a)).toList.length := by rw [mot_info]; rfl
      have HXj := Lib.hid hx
      have z1 : (0 : Int) ≤ (j : Int) := by omega
      have z2 : (j : Int) < (n : Int) := by omega
      have hz := motC_one (m, a)
      clear hcell hx
      go_upto_region 5 with (refine wpList_load_mid rfl 103 _ (by rfl) b (off + j * 33) (by rfl) (motC (m, a)).toList _ hr mot_under rfl hi ?_)
      refine of_world (fun W => Below wr.heap.size wr W ∧ row W wr.heap.size = some (motC (m, a))) ⟨(by (repeat (first | exact Below.refl _ _ | assumption | (refine Below.allocT ?_ _) | refine Below.drew ?_ | refine below_drewN ?_ _ | (refine Below.then ?_ (by assumption)) | (refine Below.setRow ?_ ?_ _; rotate_left; (focus (first | exact Nat.lt_succ_self _ | ((repeat rw [World.size_alloc]); omega) | (simp; done) | (simp; omega) | omega))) | (refine Below.setCell ?_ ?_ _; rotate_left; (focus (first | exact Nat.lt_succ_self _ | ((repeat rw [World.size_alloc]); omega) | (simp; done) | (simp; omega) | omega))) | (refine Below.then' ?_ (by assumption) ?_; rotate_left; (focus (first | exact Nat.lt_succ_self _ | ((repeat rw [World.size_alloc]); omega) | (simp; done) | (simp; omega) | omega))) | fail)); (first | done | fail)), by first | exact row_at _ _ _ _ rfl | (rw [row_setRow_if, if_pos rfl, row_at _ _ _ _ rfl]; rfl)⟩ ?_
      rintro w4 ⟨hb4, r4⟩
      have HB4 := Lib.hid (Below.then hH.out.2 hb4)
      have O4 := Lib.hid ((hH.out.1.stay hb4).stay ((Below.refl _ w4).alloc (Nat.le_refl _) (.cells (motC (m, a)) 107)))
      have cc := fun i => row_cell r4 i
      have HL : Hid ((xs.take j).length = j) := Lib.hid (by rw [List.length_take, HN.out]; omega)
      have HT : Hid (xs.take (j + 1) = xs.take j ++ [(m, a)]) := Lib.hid (by
        obtain ⟨hjl, hjz⟩ := List.getElem?_eq_some_iff.1 HXj.out
        rw [List.take_succ_eq_append_getElem hjl, hjz])
      clear hr hi hb4 hz
      generalize wr.heap.size = g4 at *
      go_wp2_with (first | (refine wpList_build_to (motC (m, a)) rfl 107 _ rfl (by kernel_rfl) ?_) | (refine wpList_slice1 rmots_under' rmot_info' rfl (by omega) (by omega) rfl _ (by rfl) (motC (m, a)) (by rfl) (motC_size _) ?_) | (at_builtin; refine wpList_append_d rmots_under' rmot_info' rfl (by omega) (by omega) motC_size motC_one rfl _ _ (by rfl) w.heap.size U (xs.take j) (by rfl) O4.out w4.heap.size 1 (m, a) (by rfl) (row_at _ _ _ _ rfl) j HL.out (by rw [HL.out]; omega) (by have := HB4.out.size; rw [World.size_alloc]; omega) ?_; intro A' cap w6 hO6 hg6 _; have HO6 := Lib.hid hO6; have HB6 := Lib.hid (below_grown_c (HB4.out.alloc HB4.out.size (.cells (motC (m, a)) 107)) (Nat.le_refl _) O4.out hg6); clear hO6 hg6))
      exact ⟨⟨j + 1, _, by go_num, rfl, by omega, by rw [HT.out]; exact Lib.hid ⟨HO6.out, HB6.out⟩⟩, by simp [intOf]; omega⟩
    · obtain rfl : j = n := by omega
      have hO' := hH.out.1
      rw [List.take_of_length_le (by rw [HN.out]; exact Nat.le_refl _)] at hO'
      obtain ⟨A', c', rfl, h⟩ := hO'.form motC_size
      clear h
      have HO' := Lib.hid hO'
      clear hO'
      go_wp2_with fail
      go_ret
      exact ⟨A', c', rfl, HO'.out, hH.out.2⟩
set_option maxRecDepth 100000 in
set_option maxHeartbeats 8000000 in
theorem same23_any (m : Mot) (a b : MotA) (hy : m.yes.length ≤ 9223372036854775807) (hn : m.no.length ≤ 9223372036854775807) (w : World) (hA : MotAt w (m, a)) (hB : MotAt w (m, b)) : Calls Try.prog 92 #[.agg (motC (m, a)), .agg (motC (m, b))] w fun e w' => e = .returned (.bool true) ∧ Below w.heap.size w w' := by
  have r0 : row ((w.alloc (.cells (motC (m, a)) 107)).alloc (.cells (motC (m, b)) 107)) w.heap.size = some (motC (m, a)) := (by (repeat (first | assumption | (refine row_at _ _ _ _ ?_; first | rfl | (simp only [World.size_alloc]; done) | (simp only [World.size_alloc]; omega)) | (refine (row_past _ _ _ ?_).trans ?_; (focus (first | exact Nat.lt_succ_self _ | ((repeat rw [World.size_alloc]); omega) | (simp; done) | (simp; omega) | omega))) | rw [row_drewN] | rw [row_drew])); (first | done | fail))
  have q0 : row ((w.alloc (.cells (motC (m, a)) 107)).alloc (.cells (motC (m, b)) 107)) (w.heap.size + 1) = some (motC (m, b)) := (by (repeat (first | assumption | (refine row_at _ _ _ _ ?_; first | rfl | (simp only [World.size_alloc]; done) | (simp only [World.size_alloc]; omega)) | (refine (row_past _ _ _ ?_).trans ?_; (focus (first | exact Nat.lt_succ_self _ | ((repeat rw [World.size_alloc]); omega) | (simp; done) | (simp; omega) | omega))) | rw [row_drewN] | rw [row_drew])); (first | done | fail))
  have hB0 : Below w.heap.size w ((w.alloc (.cells (motC (m, a)) 107)).alloc (.cells (motC (m, b)) 107)) := (by (repeat (first | exact Below.refl _ _ | assumption | (refine Below.allocT ?_ _) | refine Below.drew ?_ | refine below_drewN ?_ _ | (refine Below.then ?_ (by assumption)) | (refine Below.setRow ?_ ?_ _; rotate_left; (focus (first | exact Nat.lt_succ_self _ | ((repeat rw [World.size_alloc]); omega) | (simp; done) | (simp; omega) | omega))) | (refine Below.setCell ?_ ?_ _; rotate_left; (focus (first | exact Nat.lt_succ_self _ | ((repeat rw [World.size_alloc]); omega) | (simp; done) | (simp; omega) | omega))) | (refine Below.then' ?_ (by assumption) ?_; rotate_left; (focus (first | exact Nat.lt_succ_self _ | ((repeat rw [World.size_alloc]); omega) | (simp; done) | (simp; omega) | omega))) | fail)); (first | done | fail))
  have HS1 : Hid (∀ W, Below w.heap.size w W → Calls Try.prog 27 #[.slice a.a1 m.yes.length a.c1, .slice b.a1 m.yes.length b.c1] W fun e w' => e = .returned (.bool true) ∧ Below W.heap.size W w') := Lib.hid fun W h => by
    have := same5_any a.a1 b.a1 m.yes m.yes _ a.c1 _ b.c1 rfl rfl hy hy W (hA.yes.below h (Nat.le_refl _)) (hB.yes.below h (Nat.le_refl _))
    rwa [show sameL m.yes m.yes = true by simp [sameL]] at this
  have HS2 : Hid (∀ W, Below w.heap.size w W → Calls Try.prog 27 #[.slice a.a2 m.no.length a.c2, .slice b.a2 m.no.length b.c2] W fun e w' => e = .returned (.bool true) ∧ Below W.heap.size W w') := Lib.hid fun W h => by
    have := same5_any a.a2 b.a2 m.no m.no _ a.c2 _ b.c2 rfl rfl hn hn W (hA.no.below h (Nat.le_refl _)) (hB.no.below h (Nat.le_refl _))
    rwa [show sameL m.no m.no = true by simp [sameL]] at this
  obtain ⟨w0, hw0⟩ : ∃ x, x = (w.alloc (.cells (motC (m, a)) 107)).alloc (.cells (motC (m, b)) 107) := ⟨_, rfl⟩
  rw [← hw0] at r0 q0 hB0
  have c0 := fun i => row_cell r0 i
  have d0 := fun i => row_cell q0 i
  have HB0 := Lib.hid hB0
  have HR := Lib.hid (And.intro r0 q0)
  clear hB0 hA hB hy hn
  go_enter Try.func92, Try.ntmps92
  simp only [lapp_cons, lapp_nil]
  go_wp2_with (first | (rw [← hw0]; clear hw0) | go_big_skip | go_big_want | go_big_guard)
  refine (HS1.out _ HB0.out).mono ?_
  rintro e w1 ⟨rfl, hb1⟩
  have B1 := Lib.hid (Below.then HB0.out hb1)
  clear r0 q0 c0 d0
  have r0 := (row_below hb1 (row_lt HR.out.1)).trans HR.out.1
  have q0 := (row_below hb1 (row_lt HR.out.2)).trans HR.out.2
  have c0 := fun i => row_cell r0 i
  have d0 := fun i => row_cell q0 i
  clear hb1
  go_wp2_with (first | go_big_skip | go_big_want | go_big_guard)
  refine (HS2.out _ B1.out).mono ?_
  rintro e w2 ⟨rfl, hb2⟩
  have B2 := Lib.hid (Below.then B1.out hb2)
  clear hb2 r0 q0 c0 d0
  go_wp2_with (first | go_big_skip | go_big_want | go_big_guard)
  go_ret
  exact ⟨rfl, B2.out⟩
theorem rmotmid_quietO {C : World → Prop} {o : Oper} {x : Operand} (ho : o.op = .load 107 x) {a : Act} {w : World} {b off : Nat} {y : Mot × MotA}
    (h1 : a.eval x = .pointer (some ⟨b, off, none⟩)) (h2 : w.rangeAt b off (motC y).toList) : Oper.quietAt Try.prog o a C w (.agg (motC y)) := by
  have hi : (Try.prog.info? 107).map (·.size) = some (motC y).toList.length := by rw [rmot_info]; rfl
  have := run_loadVar_mid (P := Try.prog) w b off 107 (motC y).toList _ h2 rmot_under rfl hi
  unfold Oper.quietAt execOp
  simp only [ho, h1, Instr.loadAt, Instr.sureAddr, Sem.run_bind, Sem.run_pure, Result.andThen_ok, this]
  exact ⟨rfl, rfl⟩
set_option maxRecDepth 100000 in
set_option maxHeartbeats 8000000 in
theorem sameList_any (A B : Option Addr) (n c d : Nat) (xs ys : List (Mot × MotA)) (hn : xs.length = n) (hL : xs.map (·.1) = ys.map (·.1)) (hm : n ≤ 9223372036854775807) (w : World) (hX : ML w A xs) (hY : ML w B ys) : Calls Try.prog 38 #[.slice A n c, .slice B n d] w fun e w' => e = .returned (.bool true) ∧ Below w.heap.size w w' := by
  have HX := Lib.hid hX
  have HY := Lib.hid hY
  have HN := Lib.hid hn
  have HL := Lib.hid hL
  have HN2 : Hid (ys.length = n) := Lib.hid (by
    have := congrArg List.length hL
    rw [List.length_map, List.length_map] at this
    omega)
  clear hX hY hn hL
  go_enter Try.func38, Try.ntmps38
  go_wp2_with fail
  go_loopw [5] (fun i wr => ∃ j : Nat, i = .int .i64 j ∧ j ≤ n ∧ Hid (Below w.heap.size w wr)) (fun i _ => n - (intOf i).toNat)
  case atStart => exact ⟨0, rfl, by omega, Lib.hid (Below.refl _ _)⟩
  case round =>
    obtain ⟨j, rfl, hj, hH⟩ := hrel
    by_cases hlt : j < n
    · obtain ⟨b1, o1, rfl, hb1, hc1⟩ := HX.out.sl (by rw [HN.out]; omega)
      obtain ⟨b2, o2, rfl, hb2, hc2⟩ := HY.out.sl (by rw [HN2.out]; omega)
      obtain ⟨⟨m, a⟩, hx⟩ : ∃ x, xs[j]? = some x := ⟨_, List.getElem?_eq_getElem (by rw [HN.out]; exact hlt)⟩
      obtain ⟨⟨m', a'⟩, hy⟩ : ∃ x, ys[j]? = some x := ⟨_, List.getElem?_eq_getElem (by rw [HN2.out]; exact hlt)⟩
      have hmm : m = m' := by
        have h1 : (xs.map (·.1))[j]? = some m := by rw [List.getElem?_map, hx]; rfl
        have h2 : (ys.map (·.1))[j]? = some m' := by rw [List.getElem?_map, hy]; rfl
        rw [HL.out, h2] at h1
        exact (Option.some.inj h1).symm
      subst hmm
      have HM : Hid (∀ W, Below wr.heap.size wr W → W.rangeAt b1 (o1 + j * 33) (motC (m, a)).toList ∧ W.rangeAt b2 (o2 + j * 33) (motC (m, a')).toList) := Lib.hid fun W h => ⟨range_below (hc1 j _ hx) (Below.then hH.out h) hb1, range_below (hc2 j _ hy) (Below.then hH.out h) hb2⟩
      have hok := HX.out.ok _ (List.mem_of_getElem? hx)
      have HS : Hid (∀ W, Below wr.heap.size wr W → Calls Try.prog 92 #[.agg (motC (m, a)), .agg (motC (m, a'))] W fun e w' => e = .returned (.bool true) ∧ Below W.heap.size W w') := Lib.hid fun W h => same23_any m a a' hok.yes.2 hok.no.2 W ((HX.out.at_ _ (List.mem_of_getElem? hx)).below (Below.then hH.out h) (Nat.le_refl _)) ((HY.out.at_ _ (List.mem_of_getElem? hy)).below (Below.then hH.out h) (Nat.le_refl _))
      have z1 : (0 : Int) ≤ (j : Int) := by omega
      have z2 : (j : Int) < (n : Int) := by omega
      clear hc1 hc2 hx hy hok
      go_upto_region 6 with fail
      (refine wp_region_calm (by kernel_rfl) (by kernel_rfl) ?_; (repeat (first | go_big_quiet_skip | (go_big_quiet_want; apply calm_val; (focus (intro w' hb'; obtain ⟨q1, q2⟩ := HM.out w' hb'; first | exact rmotmid_quietO rfl rfl q1 | exact rmotmid_quietO rfl rfl q2 | (unfold Oper.quietAt; go_simp; first | rfl | (go_at_call 92; exact calm_call hb' (HS.out _ hb'))))); (try simp only [Act.put, List.setIfInBounds_toArray, List.set_cons_zero, List.set_cons_succ]); go_big_quiet_on))); refine wpQuiet_nil ?_; intro w' hb')
      have HE := Lib.hid (Below.then hH.out hb')
      go_wp2_with fail
      exact ⟨⟨j + 1, by go_num, by omega, HE⟩, by simp [intOf]; omega⟩
    · obtain rfl : j = n := by omega
      go_wp2_with fail
      go_ret
      exact ⟨rfl, hH.out⟩
end Go.Proofs.Ytnakkjgnjffkpaa

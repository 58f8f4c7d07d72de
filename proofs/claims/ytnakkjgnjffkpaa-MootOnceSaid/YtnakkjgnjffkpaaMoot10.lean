/-
  Which motions are ripe: moot.Ripe, and the reference's.
-/
import Derived.Test.YtnakkjgnjffkpaaMoot7
import Derived.Test.YtnakkjgnjffkpaaInts
namespace Go.Proofs.Ytnakkjgnjffkpaa
open Go.RowKit
set_option linter.unusedVariables false

def ripeM (ep : Int) (quo : Bool) (m : Mot) : Bool := decide (m.state = 2) && (decide (m.due ≤ ep) && (quo || (decide (m.what = 3) || decide (m.what = 4))))
def ripeK (ep : Int) (quo : Bool) (L : List Mot) : Nat → List Int
  | 0 => []
  | k + 1 => ripeK ep quo L k ++ (if (L[k]?).any (ripeM ep quo) then [(k : Int)] else [])
def ripeL (ep : Int) (quo : Bool) (L : List Mot) : List Int := ripeK ep quo L L.length
theorem ripeK_yes {ep : Int} {quo : Bool} {L : List Mot} {k : Nat} {m : Mot} (h : L[k]? = some m) (hr : ripeM ep quo m = true) : ripeK ep quo L (k + 1) = ripeK ep quo L k ++ [(k : Int)] := by rw [ripeK, h]; simp [hr]
theorem ripeK_no {ep : Int} {quo : Bool} {L : List Mot} {k : Nat} {m : Mot} (h : L[k]? = some m) (hr : ripeM ep quo m = false) : ripeK ep quo L (k + 1) = ripeK ep quo L k := by rw [ripeK, h]; simp [hr]
theorem ripeK_few (ep : Int) (quo : Bool) (L : List Mot) : ∀ k, (ripeK ep quo L k).length ≤ k
  | 0 => Nat.le_refl _
  | k + 1 => by
    rw [ripeK, List.length_append]
    have := ripeK_few ep quo L k
    split
    · rw [List.length_singleton]; omega
    · rw [List.length_nil]; omega
/-- A call that answers whole numbers. -/
def RetI (w : World) (l : List Int) (e : Ending) (w' : World) : Prop := ∃ A c, e = .returned (.slice A l.length c) ∧ SliceOf 1 intJ w' A l ∧ (A = none → c = 0) ∧ Below w.heap.size w w'
set_option maxRecDepth 100000 in
set_option maxHeartbeats 8000000 in
theorem mripe_any (A : Option Addr) (n c : Nat) (xs : List (Mot × MotA)) (ep : Int) (quo : Bool) (hn : xs.length = n) (hm : n ≤ 90000) (w : World) (hX : SliceOf 33 motC w A xs) :
    Calls Try.prog 50 #[.slice A n c, .int .i64 ep, .bool quo] w (RetI w (ripeL ep quo (xs.map (·.1)))) := by
  generalize hL : xs.map (·.1) = L
  have HLe := Lib.hid hL
  have HX := Lib.hid hX
  have HN := Lib.hid hn
  have HLn : Hid (L.length = n) := Lib.hid (by rw [← hL, List.length_map]; exact hn)
  clear hX hn hL
  go_enter Try.func50, Try.ntmps50
  go_wp2_with fail
  go_loopw [7, 12] (fun u i wr => ∃ (j : Nat) (U : Value), i = .int .i64 j ∧ U = u ∧ j ≤ n ∧ Hid (OwnC 3 1 intJ wr w.heap.size U (ripeK ep quo L j) ∧ Below w.heap.size w wr)) (fun _ i _ => n - (intOf i).toNat)
  case atStart => exact ⟨0, _, rfl, rfl, by omega, Lib.hid ⟨OwnC.nil _ _, Below.refl _ _⟩⟩
  case round =>
    obtain ⟨j, U, rfl, rfl, hj, hH⟩ := hrel
    by_cases hlt : j < n
    · obtain ⟨b, off, rfl, hbb, hcell⟩ := HX.out (by rw [HN.out]; omega)
      obtain ⟨⟨m, a⟩, hx⟩ : ∃ x, xs[j]? = some x := ⟨_, List.getElem?_eq_getElem (by rw [HN.out]; exact hlt)⟩
      have hLj : L[j]? = some m := by rw [← HLe.out, List.getElem?_map, hx]; rfl
      have HLj := Lib.hid hLj
      have hr := range_below (hcell j _ hx) hH.out.2 hbb
      have z1 : (0 : Int) ≤ (j : Int) := by omega
      have z2 : (j : Int) < (n : Int) := by omega
      have hi : (Try.prog.info? 103).map (·.size) = some (motC (m, a)).toList.length := by rw [mot_info]; rfl
      have hz := motC_one (m, a)
      clear hcell hx hLj
      go_upto_region 5 with (refine wpList_load_mid rfl 103 _ (by rfl) b (off + j * 33) (by rfl) (motC (m, a)).toList _ hr mot_under rfl hi ?_)
      refine of_world (fun W => Below wr.heap.size wr W ∧ row W wr.heap.size = some (motC (m, a))) ⟨(by (repeat (first | exact Below.refl _ _ | assumption | (refine Below.allocT ?_ _) | refine Below.drew ?_ | refine below_drewN ?_ _ | (refine Below.then ?_ (by assumption)) | (refine Below.setRow ?_ ?_ _; rotate_left; (focus (first | exact Nat.lt_succ_self _ | ((repeat rw [World.size_alloc]); omega) | (simp; done) | (simp; omega) | omega))) | (refine Below.setCell ?_ ?_ _; rotate_left; (focus (first | exact Nat.lt_succ_self _ | ((repeat rw [World.size_alloc]); omega) | (simp; done) | (simp; omega) | omega))) | (refine Below.then' ?_ (by assumption) ?_; rotate_left; (focus (first | exact Nat.lt_succ_self _ | ((repeat rw [World.size_alloc]); omega) | (simp; done) | (simp; omega) | omega))) | fail)); (first | done | fail)), by first | exact row_at _ _ _ _ rfl | (rw [row_setRow_if, if_pos rfl, row_at _ _ _ _ rfl]; rfl)⟩ ?_
      rintro w4 ⟨hb4, r4⟩
      have B4 := Lib.hid (Below.then hH.out.2 hb4)
      have O4 := Lib.hid (hH.out.1.stay hb4)
      have cS : w4.cell? ⟨wr.heap.size, 30, none⟩ = some (.int .i64 m.state) := row_cell r4 30
      have cD : w4.cell? ⟨wr.heap.size, 29, none⟩ = some (.int .i64 m.due) := row_cell r4 29
      have cW : w4.cell? ⟨wr.heap.size, 1, none⟩ = some (.int .i64 m.what) := row_cell r4 1
      clear hr hi hb4 hz r4
      generalize wr.heap.size = g4 at *
      by_cases h1 : m.state = 2
      rotate_left
      · have e1 : (m.state == 2) = false := beq_eq_false_iff_ne.2 h1
        have HR : Hid (ripeK ep quo L (j + 1) = ripeK ep quo L j) := Lib.hid (ripeK_no HLj.out (by unfold ripeM; rw [decide_eq_false h1]; rfl))
        clear h1
        go_wp2_with fail
        exact ⟨⟨j + 1, U, by go_num, rfl, by omega, by rw [HR.out]; exact Lib.hid ⟨O4.out, B4.out⟩⟩, by simp [intOf]; omega⟩
      have e1 : (m.state == 2) = true := beq_iff_eq.2 h1
      by_cases h2 : m.due ≤ ep
      rotate_left
      · have HR : Hid (ripeK ep quo L (j + 1) = ripeK ep quo L j) := Lib.hid (ripeK_no HLj.out (by unfold ripeM; rw [decide_eq_false h2, Bool.false_and, Bool.and_false]))
        go_wp2_with fail
        exact ⟨⟨j + 1, U, by go_num, rfl, by omega, by rw [HR.out]; exact Lib.hid ⟨O4.out, B4.out⟩⟩, by simp [intOf]; omega⟩
      cases quo with
      | true =>
        have HR : Hid (ripeK ep true L (j + 1) = ripeK ep true L j ++ [(j : Int)]) := Lib.hid (ripeK_yes HLj.out (by unfold ripeM; rw [decide_eq_true h1, decide_eq_true h2]; rfl))
        obtain ⟨K, hK⟩ : ∃ K, K = ripeK ep true L j := ⟨_, rfl⟩
        have hKl : K.length ≤ j := by rw [hK]; exact ripeK_few ep true L j
        have HK := Lib.hid hK
        have O5 := Lib.hid (OwnC.stay O4.out ((Below.refl _ w4).alloc (Nat.le_refl _) (.cells #[.int .i64 (j : Int)] 3)))
        rw [← hK] at O5
        clear hK
        go_wp2_with (at_builtin; refine wpList_append_c ints_underJ int_infoJ rfl (by decide) (by decide) intJ_size intJ_one rfl _ _ rfl w.heap.size U K rfl O5.out _ 1 (j : Int) rfl (row_at _ _ _ _ rfl) K.length rfl (by omega) (by have := B4.out.size; simp only [World.size_alloc]; omega) ?_; intro A' cap w6 hO6 hg6; have HO6 := Lib.hid hO6; have HB6 := Lib.hid (below_grown_c (B4.out.alloc B4.out.size _) (Nat.le_refl _) O5.out hg6); clear hO6 hg6)
        exact ⟨⟨j + 1, _, by go_num, rfl, by omega, by rw [HR.out, ← HK.out]; exact Lib.hid ⟨HO6.out, HB6.out⟩⟩, by simp [intOf]; omega⟩
      | false =>
        by_cases h3 : m.what = 3
        · have e3 : (m.what == 3) = true := beq_iff_eq.2 h3
          have HR : Hid (ripeK ep false L (j + 1) = ripeK ep false L j ++ [(j : Int)]) := Lib.hid (ripeK_yes HLj.out (by unfold ripeM; rw [decide_eq_true h1, decide_eq_true h2, decide_eq_true h3]; rfl))
          clear h3
          obtain ⟨K, hK⟩ : ∃ K, K = ripeK ep false L j := ⟨_, rfl⟩
          have hKl : K.length ≤ j := by rw [hK]; exact ripeK_few ep false L j
          have HK := Lib.hid hK
          have O5 := Lib.hid (OwnC.stay O4.out ((Below.refl _ w4).alloc (Nat.le_refl _) (.cells #[.int .i64 (j : Int)] 3)))
          rw [← hK] at O5
          clear hK
          go_wp2_with (at_builtin; refine wpList_append_c ints_underJ int_infoJ rfl (by decide) (by decide) intJ_size intJ_one rfl _ _ rfl w.heap.size U K rfl O5.out _ 1 (j : Int) rfl (row_at _ _ _ _ rfl) K.length rfl (by omega) (by have := B4.out.size; simp only [World.size_alloc]; omega) ?_; intro A' cap w6 hO6 hg6; have HO6 := Lib.hid hO6; have HB6 := Lib.hid (below_grown_c (B4.out.alloc B4.out.size _) (Nat.le_refl _) O5.out hg6); clear hO6 hg6)
          exact ⟨⟨j + 1, _, by go_num, rfl, by omega, by rw [HR.out, ← HK.out]; exact Lib.hid ⟨HO6.out, HB6.out⟩⟩, by simp [intOf]; omega⟩
        have e3 : (m.what == 3) = false := beq_eq_false_iff_ne.2 h3
        by_cases h4 : m.what = 4
        · have e4 : (m.what == 4) = true := beq_iff_eq.2 h4
          have HR : Hid (ripeK ep false L (j + 1) = ripeK ep false L j ++ [(j : Int)]) := Lib.hid (ripeK_yes HLj.out (by unfold ripeM; rw [decide_eq_true h1, decide_eq_true h2, decide_eq_true h4, Bool.or_true]; rfl))
          clear h3 h4
          obtain ⟨K, hK⟩ : ∃ K, K = ripeK ep false L j := ⟨_, rfl⟩
          have hKl : K.length ≤ j := by rw [hK]; exact ripeK_few ep false L j
          have HK := Lib.hid hK
          have O5 := Lib.hid (OwnC.stay O4.out ((Below.refl _ w4).alloc (Nat.le_refl _) (.cells #[.int .i64 (j : Int)] 3)))
          rw [← hK] at O5
          clear hK
          go_wp2_with (at_builtin; refine wpList_append_c ints_underJ int_infoJ rfl (by decide) (by decide) intJ_size intJ_one rfl _ _ rfl w.heap.size U K rfl O5.out _ 1 (j : Int) rfl (row_at _ _ _ _ rfl) K.length rfl (by omega) (by have := B4.out.size; simp only [World.size_alloc]; omega) ?_; intro A' cap w6 hO6 hg6; have HO6 := Lib.hid hO6; have HB6 := Lib.hid (below_grown_c (B4.out.alloc B4.out.size _) (Nat.le_refl _) O5.out hg6); clear hO6 hg6)
          exact ⟨⟨j + 1, _, by go_num, rfl, by omega, by rw [HR.out, ← HK.out]; exact Lib.hid ⟨HO6.out, HB6.out⟩⟩, by simp [intOf]; omega⟩
        have e4 : (m.what == 4) = false := beq_eq_false_iff_ne.2 h4
        have HR : Hid (ripeK ep false L (j + 1) = ripeK ep false L j) := Lib.hid (ripeK_no HLj.out (by unfold ripeM; rw [decide_eq_true h1, decide_eq_true h2, decide_eq_false h3, decide_eq_false h4]; rfl))
        clear h3 h4
        go_wp2_with fail
        exact ⟨⟨j + 1, U, by go_num, rfl, by omega, by rw [HR.out]; exact Lib.hid ⟨O4.out, B4.out⟩⟩, by simp [intOf]; omega⟩
    · obtain rfl : j = n := by omega
      obtain ⟨A', c', hU, hS, _⟩ := hH.out.1.form intJ_size
      have hz := OwnC.cap (hU ▸ hH.out.1)
      subst hU
      have HE : Hid (RetI w (ripeL ep quo L) (.returned (.slice A' (ripeK ep quo L j).length c')) wr) := Lib.hid (by
        unfold ripeL
        rw [HLn.out]
        exact ⟨A', c', rfl, hS, hz, hH.out.2⟩)
      clear hS hz
      go_wp2_with fail
      go_ret
      exact HE.out
set_option maxRecDepth 100000 in
set_option maxHeartbeats 8000000 in
theorem rripe_any (A : Option Addr) (n c : Nat) (xs : List (Mot × MotA)) (ep : Int) (quo : Bool) (hn : xs.length = n) (hm : n ≤ 90000) (w : World) (hX : SliceOf 33 motC w A xs) :
    Calls Try.prog 51 #[.slice A n c, .int .i64 ep, .bool quo] w (RetI w (ripeL ep quo (xs.map (·.1)))) := by
  generalize hL : xs.map (·.1) = L
  have HLe := Lib.hid hL
  have HX := Lib.hid hX
  have HN := Lib.hid hn
  have HLn : Hid (L.length = n) := Lib.hid (by rw [← hL, List.length_map]; exact hn)
  clear hX hn hL
  go_enter Try.func51, Try.ntmps51
  go_wp2_with fail
  go_loopw [7, 8] (fun u i wr => ∃ (j : Nat) (U : Value), i = .int .i64 j ∧ U = u ∧ j ≤ n ∧ Hid (OwnC 3 1 intJ wr w.heap.size U (ripeK ep quo L j) ∧ Below w.heap.size w wr)) (fun _ i _ => n - (intOf i).toNat)
  case atStart => exact ⟨0, _, rfl, rfl, by omega, Lib.hid ⟨OwnC.nil _ _, Below.refl _ _⟩⟩
  case round =>
    obtain ⟨j, U, rfl, rfl, hj, hH⟩ := hrel
    by_cases hlt : j < n
    · obtain ⟨b, off, rfl, hbb, hcell⟩ := HX.out (by rw [HN.out]; omega)
      obtain ⟨⟨m, a⟩, hx⟩ : ∃ x, xs[j]? = some x := ⟨_, List.getElem?_eq_getElem (by rw [HN.out]; exact hlt)⟩
      have hLj : L[j]? = some m := by rw [← HLe.out, List.getElem?_map, hx]; rfl
      have HLj := Lib.hid hLj
      have hr := range_below (hcell j _ hx) hH.out.2 hbb
      have z1 : (0 : Int) ≤ (j : Int) := by omega
      have z2 : (j : Int) < (n : Int) := by omega
      have cS : wr.cell? ⟨b, off + j * 33 + 30, none⟩ = some (.int .i64 m.state) := hr 30 _ (by rw [Array.getElem?_toList]; exact motC_at30 _)
      have cD : wr.cell? ⟨b, off + j * 33 + 29, none⟩ = some (.int .i64 m.due) := hr 29 _ (by rw [Array.getElem?_toList]; exact motC_at29 _)
      have cW : wr.cell? ⟨b, off + j * 33 + 1, none⟩ = some (.int .i64 m.what) := hr 1 _ (by rw [Array.getElem?_toList]; exact motC_at1 _)
      have B4 := Lib.hid hH.out.2
      have O4 := Lib.hid hH.out.1
      clear hr hcell hx hLj
      by_cases h1 : m.state = 2
      rotate_left
      · have e1 : (m.state == 2) = false := beq_eq_false_iff_ne.2 h1
        have HR : Hid (ripeK ep quo L (j + 1) = ripeK ep quo L j) := Lib.hid (ripeK_no HLj.out (by unfold ripeM; rw [decide_eq_false h1]; rfl))
        clear h1
        go_wp2_with fail
        exact ⟨⟨j + 1, U, by go_num, rfl, by omega, by rw [HR.out]; exact Lib.hid ⟨O4.out, B4.out⟩⟩, by simp [intOf]; omega⟩
      have e1 : (m.state == 2) = true := beq_iff_eq.2 h1
      by_cases h2 : m.due ≤ ep
      rotate_left
      · have HR : Hid (ripeK ep quo L (j + 1) = ripeK ep quo L j) := Lib.hid (ripeK_no HLj.out (by unfold ripeM; rw [decide_eq_false h2, Bool.false_and, Bool.and_false]))
        go_wp2_with fail
        exact ⟨⟨j + 1, U, by go_num, rfl, by omega, by rw [HR.out]; exact Lib.hid ⟨O4.out, B4.out⟩⟩, by simp [intOf]; omega⟩
      cases quo with
      | true =>
        have HR : Hid (ripeK ep true L (j + 1) = ripeK ep true L j ++ [(j : Int)]) := Lib.hid (ripeK_yes HLj.out (by unfold ripeM; rw [decide_eq_true h1, decide_eq_true h2]; rfl))
        obtain ⟨K, hK⟩ : ∃ K, K = ripeK ep true L j := ⟨_, rfl⟩
        have hKl : K.length ≤ j := by rw [hK]; exact ripeK_few ep true L j
        have HK := Lib.hid hK
        have O5 := Lib.hid (OwnC.stay O4.out ((Below.refl _ wr).alloc (Nat.le_refl _) (.cells #[.int .i64 (j : Int)] 3)))
        rw [← hK] at O5
        clear hK
        go_wp2_with (at_builtin; refine wpList_append_c ints_underJ int_infoJ rfl (by decide) (by decide) intJ_size intJ_one rfl _ _ rfl w.heap.size U K rfl O5.out _ 1 (j : Int) rfl (row_at _ _ _ _ rfl) K.length rfl (by omega) (by have := B4.out.size; simp only [World.size_alloc]; omega) ?_; intro A' cap w6 hO6 hg6; have HO6 := Lib.hid hO6; have HB6 := Lib.hid (below_grown_c (B4.out.alloc B4.out.size _) (Nat.le_refl _) O5.out hg6); clear hO6 hg6)
        exact ⟨⟨j + 1, _, by go_num, rfl, by omega, by rw [HR.out, ← HK.out]; exact Lib.hid ⟨HO6.out, HB6.out⟩⟩, by simp [intOf]; omega⟩
      | false =>
        by_cases h3 : m.what = 3
        · have e3 : (m.what == 3) = true := beq_iff_eq.2 h3
          have HR : Hid (ripeK ep false L (j + 1) = ripeK ep false L j ++ [(j : Int)]) := Lib.hid (ripeK_yes HLj.out (by unfold ripeM; rw [decide_eq_true h1, decide_eq_true h2, decide_eq_true h3]; rfl))
          clear h3
          obtain ⟨K, hK⟩ : ∃ K, K = ripeK ep false L j := ⟨_, rfl⟩
          have hKl : K.length ≤ j := by rw [hK]; exact ripeK_few ep false L j
          have HK := Lib.hid hK
          have O5 := Lib.hid (OwnC.stay O4.out ((Below.refl _ wr).alloc (Nat.le_refl _) (.cells #[.int .i64 (j : Int)] 3)))
          rw [← hK] at O5
          clear hK
          go_wp2_with (at_builtin; refine wpList_append_c ints_underJ int_infoJ rfl (by decide) (by decide) intJ_size intJ_one rfl _ _ rfl w.heap.size U K rfl O5.out _ 1 (j : Int) rfl (row_at _ _ _ _ rfl) K.length rfl (by omega) (by have := B4.out.size; simp only [World.size_alloc]; omega) ?_; intro A' cap w6 hO6 hg6; have HO6 := Lib.hid hO6; have HB6 := Lib.hid (below_grown_c (B4.out.alloc B4.out.size _) (Nat.le_refl _) O5.out hg6); clear hO6 hg6)
          exact ⟨⟨j + 1, _, by go_num, rfl, by omega, by rw [HR.out, ← HK.out]; exact Lib.hid ⟨HO6.out, HB6.out⟩⟩, by simp [intOf]; omega⟩
        have e3 : (m.what == 3) = false := beq_eq_false_iff_ne.2 h3
        by_cases h4 : m.what = 4
        · have e4 : (m.what == 4) = true := beq_iff_eq.2 h4
          have HR : Hid (ripeK ep false L (j + 1) = ripeK ep false L j ++ [(j : Int)]) := Lib.hid (ripeK_yes HLj.out (by unfold ripeM; rw [decide_eq_true h1, decide_eq_true h2, decide_eq_true h4, Bool.or_true]; rfl))
          clear h3 h4
          obtain ⟨K, hK⟩ : ∃ K, K = ripeK ep false L j := ⟨_, rfl⟩
          have hKl : K.length ≤ j := by rw [hK]; exact ripeK_few ep false L j
          have HK := Lib.hid hK
          have O5 := Lib.hid (OwnC.stay O4.out ((Below.refl _ wr).alloc (Nat.le_refl _) (.cells #[.int .i64 (j : Int)] 3)))
          rw [← hK] at O5
          clear hK
          go_wp2_with (at_builtin; refine wpList_append_c ints_underJ int_infoJ rfl (by decide) (by decide) intJ_size intJ_one rfl _ _ rfl w.heap.size U K rfl O5.out _ 1 (j : Int) rfl (row_at _ _ _ _ rfl) K.length rfl (by omega) (by have := B4.out.size; simp only [World.size_alloc]; omega) ?_; intro A' cap w6 hO6 hg6; have HO6 := Lib.hid hO6; have HB6 := Lib.hid (below_grown_c (B4.out.alloc B4.out.size _) (Nat.le_refl _) O5.out hg6); clear hO6 hg6)
          exact ⟨⟨j + 1, _, by go_num, rfl, by omega, by rw [HR.out, ← HK.out]; exact Lib.hid ⟨HO6.out, HB6.out⟩⟩, by simp [intOf]; omega⟩
        have e4 : (m.what == 4) = false := beq_eq_false_iff_ne.2 h4
        have HR : Hid (ripeK ep false L (j + 1) = ripeK ep false L j) := Lib.hid (ripeK_no HLj.out (by unfold ripeM; rw [decide_eq_true h1, decide_eq_true h2, decide_eq_false h3, decide_eq_false h4]; rfl))
        clear h3 h4
        go_wp2_with fail
        exact ⟨⟨j + 1, U, by go_num, rfl, by omega, by rw [HR.out]; exact Lib.hid ⟨O4.out, B4.out⟩⟩, by simp [intOf]; omega⟩
    · obtain rfl : j = n := by omega
      obtain ⟨A', c', hU, hS, _⟩ := hH.out.1.form intJ_size
      have hz := OwnC.cap (hU ▸ hH.out.1)
      subst hU
      have HE : Hid (RetI w (ripeL ep quo L) (.returned (.slice A' (ripeK ep quo L j).length c')) wr) := Lib.hid (by
        unfold ripeL
        rw [HLn.out]
        exact ⟨A', c', rfl, hS, hz, hH.out.2⟩)
      clear hS hz
      go_wp2_with fail
      go_ret
      exact HE.out
end Go.Proofs.Ytnakkjgnjffkpaa

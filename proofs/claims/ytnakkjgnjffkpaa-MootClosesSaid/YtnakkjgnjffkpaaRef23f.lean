/-
  The reference's Close.
-/
import Derived.Test.YtnakkjgnjffkpaaMoot9
import Derived.Test.YtnakkjgnjffkpaaRef23
import Derived.Test.YtnakkjgnjffkpaaBallot3
import Derived.Test.YtnakkjgnjffkpaaPass22
namespace Go.Proofs.Ytnakkjgnjffkpaa
open Go.RowKit
set_option linter.unusedVariables false

theorem dueV_eq {ep en : Int} (h1 : 0 ≤ ep) (h2 : ep ≤ 1073741824) (h3 : 0 ≤ en) (h4 : en ≤ 1000) : dueV ep en = ep + en := by
  unfold dueV
  rw [if_neg (show ¬ en < 0 by omega), if_neg (show ¬ ep < -2147483647 by omega)]
  have e1 : wrap64 (2147483647 - en) = 2147483647 - en := by unfold wrap64; omega
  rw [e1, if_neg (show ¬ 2147483647 - en < ep by omega)]
  unfold wrap64; omega
def clX (q en : Int) (ms : List Mb) (ep : Int) (x : Mot × MotA) : Mot × MotA := (closeM q en ms ep x.1, x.2)
def mixL (q en : Int) (ms : List Mb) (ep : Int) (xs : List (Mot × MotA)) (j : Nat) : List (Mot × MotA) := (xs.take j).map (clX q en ms ep) ++ xs.drop j
theorem mixL_step {q en : Int} {ms : List Mb} {ep : Int} {xs : List (Mot × MotA)} {j : Nat} {x : Mot × MotA} (h : xs[j]? = some x) : (mixL q en ms ep xs j).set j (clX q en ms ep x) = mixL q en ms ep xs (j + 1) := by
  obtain ⟨hl, he⟩ := List.getElem?_eq_some_iff.1 h
  have hlen : ((xs.take j).map (clX q en ms ep)).length = j := by rw [List.length_map, List.length_take]; omega
  unfold mixL
  rw [List.set_append_right _ _ (by omega), hlen, Nat.sub_self, List.drop_eq_getElem_cons hl, List.set_cons_zero, List.take_succ_eq_append_getElem hl, he, List.map_append, List.append_assoc]
  rfl
theorem mixL_at {q en : Int} {ms : List Mb} {ep : Int} {xs : List (Mot × MotA)} {j : Nat} {x : Mot × MotA} (h : xs[j]? = some x) : (mixL q en ms ep xs j)[j]? = some x := by
  obtain ⟨hl, he⟩ := List.getElem?_eq_some_iff.1 h
  have hlen : ((xs.take j).map (clX q en ms ep)).length = j := by rw [List.length_map, List.length_take]; omega
  unfold mixL
  rw [List.getElem?_append_right (by omega), hlen, Nat.sub_self, List.getElem?_drop, Nat.add_zero, h]
theorem mixL_same {q en : Int} {ms : List Mb} {ep : Int} {xs : List (Mot × MotA)} {j : Nat} {x : Mot × MotA} (h : xs[j]? = some x) (hc : closeM q en ms ep x.1 = x.1) : mixL q en ms ep xs (j + 1) = mixL q en ms ep xs j := by
  rw [← mixL_step h]
  have hx : clX q en ms ep x = x := by unfold clX; rw [hc]
  rw [hx]
  have h2 := mixL_at (q := q) (en := en) (ms := ms) (ep := ep) h
  obtain ⟨hl, he⟩ := List.getElem?_eq_some_iff.1 h2
  rw [← he]
  exact List.set_getElem_self hl
theorem mixL_len {q en : Int} {ms : List Mb} {ep : Int} {xs : List (Mot × MotA)} {j : Nat} : (mixL q en ms ep xs j).length = xs.length := by
  unfold mixL; rw [List.length_append, List.length_map, List.length_take, List.length_drop]; omega
theorem closeM_ok {q en : Int} {ms : List Mb} {ep : Int} {m : Mot} (h : m.Ok) : (closeM q en ms ep m).Ok := by
  unfold closeM
  split
  · split
    · exact dueC_ok' (stateC_ok' (s := 2) h (by unfold i64ok; omega)) (i64_wrap_ok _)
    · exact stateC_ok' h (by unfold i64ok; omega)
  · exact h
theorem closeM_votes {q en : Int} {ms : List Mb} {ep : Int} {m : Mot} : (closeM q en ms ep m).yes = m.yes ∧ (closeM q en ms ep m).no = m.no := by
  unfold closeM
  split
  · split <;> exact ⟨rfl, rfl⟩
  · exact ⟨rfl, rfl⟩
theorem clX_at {q en : Int} {ms : List Mb} {ep : Int} {W : World} {x : Mot × MotA} (h : MotAt W x) : MotAt W (clX q en ms ep x) :=
  ⟨by have := h.yes; unfold clX; rw [closeM_votes.1]; exact this, by have := h.no; unfold clX; rw [closeM_votes.2]; exact this, h.n1, h.n2⟩
set_option maxRecDepth 100000 in
set_option maxHeartbeats 8000000 in
theorem rclose_any (p : Par) (A : Option Addr) (n c : Nat) (xs : List (Mot × MotA)) (A1 : Option Addr) (n1 c1 : Nat) (ms : List Mb) (ep : Int) (hq : i64ok p.quorum) (hen : 0 ≤ p.enact ∧ p.enact ≤ 1000) (hep : 0 ≤ ep ∧ ep ≤ 1073741824) (hn : xs.length = n) (hm : n ≤ 1000) (hn1 : ms.length = n1) (hm1 : n1 ≤ 300) (hok : ∀ m ∈ ms, m.Ok) (w : World) (hX : ML w A xs) (hU : SliceOf 6 Mb.cells w A1 ms) :
    Calls Try.prog 45 #[.agg p.cells, .slice A n c, .slice A1 n1 c1, .int .i64 ep] w (RetM w (closeL p.quorum p.enact ms ep (xs.map (·.1)))) := by
  have r0 : row (w.alloc (.cells p.cells 88)) w.heap.size = some p.cells := (by (repeat (first | assumption | (refine row_at _ _ _ _ ?_; first | rfl | (simp only [World.size_alloc]; done) | (simp only [World.size_alloc]; omega)) | (refine (row_past _ _ _ ?_).trans ?_; (focus (first | exact Nat.lt_succ_self _ | ((repeat rw [World.size_alloc]); omega) | (simp; done) | (simp; omega) | omega))) | rw [row_drewN] | rw [row_drew])); (first | done | fail))
  have hB0 : Below w.heap.size w (w.alloc (.cells p.cells 88)) := (by (repeat (first | exact Below.refl _ _ | assumption | (refine Below.allocT ?_ _) | refine Below.drew ?_ | refine below_drewN ?_ _ | (refine Below.then ?_ (by assumption)) | (refine Below.setRow ?_ ?_ _; rotate_left; (focus (first | exact Nat.lt_succ_self _ | ((repeat rw [World.size_alloc]); omega) | (simp; done) | (simp; omega) | omega))) | (refine Below.setCell ?_ ?_ _; rotate_left; (focus (first | exact Nat.lt_succ_self _ | ((repeat rw [World.size_alloc]); omega) | (simp; done) | (simp; omega) | omega))) | (refine Below.then' ?_ (by assumption) ?_; rotate_left; (focus (first | exact Nat.lt_succ_self _ | ((repeat rw [World.size_alloc]); omega) | (simp; done) | (simp; omega) | omega))) | fail)); (first | done | fail))
  have HOwn := Lib.hid (rown_any A n c xs hn (by omega) _ (hX.stay hB0).sl)
  have HX := Lib.hid hX
  have HN := Lib.hid hn
  have HU := Lib.hid hU
  have HN1 := Lib.hid hn1
  have HOk := Lib.hid (fun m hm => (hok m hm).s.eff)
  clear hX hU hn hn1 hok
  go_enter Try.func45, Try.ntmps45
  go_upto_region 1 with fail
  generalize w.alloc (.cells p.cells 88) = w0 at *
  have HB0 := Lib.hid hB0
  have HR0 := Lib.hid r0
  clear hB0 r0
  go_wp2_with fail
  refine (HOwn.out).mono ?_
  rintro e w1 ⟨A6, c6, rfl, hO6, hb1, hz6⟩
  rw [HN.out] at hO6 ⊢
  have hw0 : w.heap.size < w0.heap.size := row_lt HR0.out
  have H1 : Hid (OwnC 107 33 motC w1 w0.heap.size (.slice A6 n c6) (mixL p.quorum p.enact ms ep xs 0) ∧ Below w.heap.size w w1 ∧ row w1 w.heap.size = some p.cells) := Lib.hid ⟨by unfold mixL; rw [List.take_zero]; exact hO6, Below.then HB0.out hb1, below_row' hb1 HR0.out⟩
  have HZ6 := Lib.hid hz6
  clear hO6 hb1 HOwn HB0 HR0 hz6
  go_wp2_with fail
  go_loopw [10] (fun i wr => ∃ (j : Nat), i = .int .i64 j ∧ j ≤ n ∧ Hid (OwnC 107 33 motC wr w0.heap.size (.slice A6 n c6) (mixL p.quorum p.enact ms ep xs j) ∧ Below w.heap.size w wr ∧ row wr w.heap.size = some p.cells)) (fun i _ => n - (intOf i).toNat)
  case atStart => exact ⟨0, rfl, by omega, H1⟩
  case round =>
    obtain ⟨j, rfl, hj, hH⟩ := hrel
    clear H1
    by_cases hlt : j < n
    · obtain ⟨b, off, rfl, hbb, hcell⟩ := HX.out.sl (by rw [HN.out]; omega)
      obtain ⟨⟨m, a⟩, hx⟩ : ∃ x, xs[j]? = some x := ⟨_, List.getElem?_eq_getElem (by rw [HN.out]; exact hlt)⟩
      have hr := range_below (hcell j _ hx) hH.out.2.1 hbb
      have hi : (Try.prog.info? 107).map (·.size) = some (motC (m, a)).toList.length := by rw [rmot_info]; rfl
      have HXj := Lib.hid hx
      have hmem := List.mem_of_getElem? hx
      have HMok := Lib.hid (HX.out.ok _ hmem)
      have HAt := Lib.hid (HX.out.at_ _ hmem)
      obtain ⟨g6, rfl⟩ : ∃ g6, A6 = some ⟨g6, 0, none⟩ := by
        rcases hH.out.1.2 with ⟨_, h2⟩ | ⟨g', cap', cur, h1, _⟩
        · rw [mixL_len, HN.out] at h2; omega
        · cases h1; exact ⟨_, rfl⟩
      have z1 : (0 : Int) ≤ (j : Int) := by omega
      have z2 : (j : Int) < (n : Int) := by omega
      have hz := motC_one (m, a)
      clear hcell hx hmem
      go_upto_region 6 with (refine wpList_load_mid rfl 107 _ (by rfl) b (off + j * 33) (by rfl) (motC (m, a)).toList _ hr rmot_under rfl hi ?_)
      refine of_world (fun W => Below wr.heap.size wr W ∧ row W wr.heap.size = some (motC (m, a))) ⟨(by (repeat (first | exact Below.refl _ _ | assumption | (refine Below.allocT ?_ _) | refine Below.drew ?_ | refine below_drewN ?_ _ | (refine Below.then ?_ (by assumption)) | (refine Below.setRow ?_ ?_ _; rotate_left; (focus (first | exact Nat.lt_succ_self _ | ((repeat rw [World.size_alloc]); omega) | (simp; done) | (simp; omega) | omega))) | (refine Below.setCell ?_ ?_ _; rotate_left; (focus (first | exact Nat.lt_succ_self _ | ((repeat rw [World.size_alloc]); omega) | (simp; done) | (simp; omega) | omega))) | (refine Below.then' ?_ (by assumption) ?_; rotate_left; (focus (first | exact Nat.lt_succ_self _ | ((repeat rw [World.size_alloc]); omega) | (simp; done) | (simp; omega) | omega))) | fail)); (first | done | fail)), by first | exact row_at _ _ _ _ rfl | (rw [row_setRow_if, if_pos rfl, row_at _ _ _ _ rfl]; rfl)⟩ ?_
      rintro w4 ⟨hb4, r4⟩
      have H4 : Hid (OwnC 107 33 motC w4 w0.heap.size (.slice (some ⟨g6, 0, none⟩) n c6) (mixL p.quorum p.enact ms ep xs j) ∧ Below w.heap.size w w4 ∧ row w4 w.heap.size = some p.cells ∧ row w4 wr.heap.size = some (motC (m, a))) := Lib.hid ⟨hH.out.1.stay hb4, Below.then hH.out.2.1 hb4, below_row' hb4 hH.out.2.2, r4⟩
      have hg6 : g6 < wr.heap.size := hH.out.1.inBlock.2
      have hwr : w.heap.size < wr.heap.size := row_lt hH.out.2.2
      have k30 : w4.cell? ⟨wr.heap.size, 30, none⟩ = some (.int .i64 m.state) := row_cell r4 30
      have k28 : w4.cell? ⟨wr.heap.size, 28, none⟩ = some (.int .i64 m.ends) := row_cell r4 28
      clear hr hi hb4 hz r4
      generalize wr.heap.size = g4 at *
      by_cases hs : m.state = 1 ∧ m.ends ≤ ep
      case neg =>
        have hC : closeM p.quorum p.enact ms ep m = m := by unfold closeM; rw [if_neg hs]
        have HNext : Hid (OwnC 107 33 motC w4 w0.heap.size (.slice (some ⟨g6, 0, none⟩) n c6) (mixL p.quorum p.enact ms ep xs (j + 1)) ∧ Below w.heap.size w w4 ∧ row w4 w.heap.size = some p.cells) := Lib.hid ⟨by rw [mixL_same HXj.out hC]; exact H4.out.1, H4.out.2.1, H4.out.2.2.1⟩
        by_cases h1 : m.state = 1
        · have e1 : (m.state != 1) = false := bne_eq_false_iff_eq.2 h1
          have e2 : ep < m.ends := by have : ¬ m.ends ≤ ep := fun h => hs ⟨h1, h⟩; omega
          clear h1 hs hC
          go_wp2_with fail
          exact ⟨⟨j + 1, by go_num, by omega, HNext⟩, by simp [intOf]; omega⟩
        · have e1 : (m.state != 1) = true := bne_iff_ne.2 h1
          clear h1 hs hC
          go_wp2_with fail
          exact ⟨⟨j + 1, by go_num, by omega, HNext⟩, by simp [intOf]; omega⟩
      case pos =>
      obtain ⟨hs1, hs2⟩ := hs
      have e1 : (m.state != 1) = false := bne_eq_false_iff_eq.2 hs1
      have e2 : ¬ ep < m.ends := by omega
      have HC : Hid (closeM p.quorum p.enact ms ep m = if okC p.quorum ms m then { m with state := 2, due := dueV ep p.enact } else { m with state := 4 }) := Lib.hid (by unfold closeM; rw [if_pos ⟨hs1, hs2⟩])
      clear hs1 hs2
      have HEnd : Hid (∀ (X : Mot) W, closeM p.quorum p.enact ms ep m = X → Below w.heap.size w W → row W w.heap.size = some p.cells → OwnC 107 33 motC W w0.heap.size (.slice (some ⟨g6, 0, none⟩) n c6) (mixL p.quorum p.enact ms ep xs j) → OwnC 107 33 motC (W.setCells g6 (j * 33) (motC (X, a)).toList) w0.heap.size (.slice (some ⟨g6, 0, none⟩) n c6) (mixL p.quorum p.enact ms ep xs (j + 1)) ∧ Below w.heap.size w (W.setCells g6 (j * 33) (motC (X, a)).toList) ∧ row (W.setCells g6 (j * 33) (motC (X, a)).toList) w.heap.size = some p.cells) := Lib.hid fun X W hX h1 h2 h3 => by
        have hg : w.heap.size < g6 := Nat.lt_of_lt_of_le hw0 h3.inBlock.1
        have hc : Chg (fun k => k = g6) W (W.setCells g6 (j * 33) (motC (X, a)).toList) := chg_setCells' (S := fun k => k = g6) rfl _ _ _ (Chg.refl _ W)
        refine ⟨?_, h1.trans (hc.toBelow (fun k hk => by have hk' : k = g6 := hk; omega) h1.size), (hc.row (row_lt h2) (fun h => Nat.ne_of_lt hg h)).trans h2⟩
        have h5 := h3.putAll motC_size (j := j) (by rw [mixL_len, HN.out]; exact hlt) (X, a)
        have h6 : clX p.quorum p.enact ms ep (m, a) = (X, a) := by unfold clX; rw [hX]
        rw [← mixL_step HXj.out, h6]
        exact h5
      have HTh : Hid (∀ W, OwnC 107 33 motC W w0.heap.size (.slice (some ⟨g6, 0, none⟩) n c6) (mixL p.quorum p.enact ms ep xs j) → W.there g6 (j * 33) 33) := Lib.hid fun W h k hk => by
        refine ⟨?_, h.free _⟩
        have hv := Array.getElem?_eq_getElem (xs := motC (m, a)) (i := k) (by rw [motC_size]; exact hk)
        rw [h.cellAt motC_size (mixL_at HXj.out) hv]
        rfl
      have HAct := Lib.hid (fun W h => ractive22_any A1 n1 c1 ms HN1.out hm1 HOk.out W (HU.out.below (Below.then H4.out.2.1 h) (Nat.le_refl _)))
      have HWy := Lib.hid (fun W h => rweigh22_any A1 n1 c1 ms a.a1 m.yes.length a.c1 m.yes rfl HMok.out.yes.2 HMok.out.yes.1 HN1.out hm1 HOk.out W (HU.out.below (Below.then H4.out.2.1 h) (Nat.le_refl _)) (HAt.out.yes.below (Below.then H4.out.2.1 h) (Nat.le_refl _)))
      have HWn := Lib.hid (fun W h => rweigh22_any A1 n1 c1 ms a.a2 m.no.length a.c2 m.no rfl HMok.out.no.2 HMok.out.no.1 HN1.out hm1 HOk.out W (HU.out.below (Below.then H4.out.2.1 h) (Nat.le_refl _)) (HAt.out.no.below (Below.then H4.out.2.1 h) (Nat.le_refl _)))
      have hla := selL_total HOk.out (fun _ => true) n1 (by omega)
      have hly := selL_total HOk.out (fun k => getB m.yes k) n1 (by omega)
      have hln := selL_total HOk.out (fun k => getB m.no k) n1 (by omega)
      have HOC : Hid (okC p.quorum ms m = (decide (total (selL ms (fun _ => true) n1) ≤ 18446744073709551615) && passB p.quorum (fit (total (selL ms (fun k => getB m.yes k) n1))) (fit (total (selL ms (fun k => getB m.no k) n1))) (total (selL ms (fun _ => true) n1)))) := Lib.hid (by unfold okC actN votN; rw [HN1.out])
      generalize total (selL ms (fun _ => true) n1) = act at *
      generalize total (selL ms (fun k => getB m.yes k) n1) = vy at *
      generalize total (selL ms (fun k => getB m.no k) n1) = vn at *
      have HSet : Hid (∀ q u W cs, Below w.heap.size w W ∧ row W w.heap.size = some p.cells ∧ row W g4 = some cs ∧ OwnC 107 33 motC W w0.heap.size (.slice (some ⟨g6, 0, none⟩) n c6) (mixL p.quorum p.enact ms ep xs j) → Below w.heap.size w (W.setCell ⟨g4, q, none⟩ u) ∧ row (W.setCell ⟨g4, q, none⟩ u) w.heap.size = some p.cells ∧ row (W.setCell ⟨g4, q, none⟩ u) g4 = some (cs.setIfInBounds q u) ∧ OwnC 107 33 motC (W.setCell ⟨g4, q, none⟩ u) w0.heap.size (.slice (some ⟨g6, 0, none⟩) n c6) (mixL p.quorum p.enact ms ep xs j)) := Lib.hid fun q u W cs ⟨h1, h2, h3, h4⟩ =>
        ⟨Below.setCell h1 (p := ⟨g4, q, none⟩) (Nat.le_of_lt hwr) _, (row_far W ⟨g4, q, none⟩ u _ (Nat.ne_of_lt hwr)).trans h2, row_set h3 q u, h4.chg ((Chg.refl (fun k => k = g4) W).setCell (p := ⟨g4, q, none⟩) (.inl rfl) u) (fun k hk he => by
          have h5 : g6 = k := Option.some.inj hk
          have h6 : k = g4 := he
          omega)⟩
      go_wp2_with fail
      refine (HAct.out _ (Below.refl _ _)).mono ?_
      rintro e w5 ⟨A5, x5, rfl, hN5, hb5, _⟩
      go_wp2_with fail
      refine (uint_any A5 _ x5 act _ hN5 (by omega)).mono ?_
      rintro e w6 ⟨rfl, hb6⟩
      have H46 := Lib.hid (Below.then hb5 hb6)
      have r6 := below_row' H46.out H4.out.2.2.2
      have k31 : w6.cell? ⟨g4, 31, none⟩ = some (.slice a.a1 m.yes.length a.c1) := row_cell r6 31
      clear hb5 hb6 hN5 k30 k28 r6
      go_wp2_with fail
      refine (HWy.out _ H46.out).mono ?_
      rintro e w7 ⟨A7, x7, rfl, hN7, hb7, _⟩
      go_wp2_with fail
      refine (uint_any A7 _ x7 vy _ hN7 (by omega)).mono ?_
      rintro e w8 ⟨rfl, hb8⟩
      have H48 := Lib.hid (Below.then (Below.then H46.out hb7) hb8)
      have r8 := below_row' H48.out H4.out.2.2.2
      have k32 : w8.cell? ⟨g4, 32, none⟩ = some (.slice a.a2 m.no.length a.c2) := row_cell r8 32
      clear hb7 hb8 hN7 k31 H46 r8
      go_wp2_with fail
      refine (HWn.out _ H48.out).mono ?_
      rintro e w9 ⟨A9, x9, rfl, hN9, hb9, _⟩
      go_wp2_with fail
      refine (uint_any A9 _ x9 vn _ hN9 (by omega)).mono ?_
      rintro e w10 ⟨rfl, hb10⟩
      have H410 := Lib.hid (Below.then (Below.then H48.out hb9) hb10)
      have H10 : Hid (Below w.heap.size w w10 ∧ row w10 w.heap.size = some p.cells ∧ row w10 g4 = some (motC (m, a)) ∧ OwnC 107 33 motC w10 w0.heap.size (.slice (some ⟨g6, 0, none⟩) n c6) (mixL p.quorum p.enact ms ep xs j)) := Lib.hid ⟨Below.then H4.out.2.1 H410.out, below_row' H410.out H4.out.2.2.1, below_row' H410.out H4.out.2.2.2, H4.out.1.stay H410.out⟩
      clear hb9 hb10 hN9 k32 H48 H410 H4 HAct HWy HWn hla hly hln
      have hvy : fit vy < 18446744073709551616 := fit_lt' vy
      have hvn : fit vn < 18446744073709551616 := fit_lt' vn
      generalize fit vy = fy at *
      generalize fit vn = fn at *
      by_cases hact : act ≤ 18446744073709551615
      case neg =>
        have hF : fitB act = false := by unfold fitB; exact decide_eq_false (show ¬ act ≤ mostN from hact)
        have HCl : Hid (closeM p.quorum p.enact ms ep m = { m with state := 4 }) := Lib.hid (by rw [HC.out, HOC.out, decide_eq_false hact]; rfl)
        rw [hF]
        clear hF hact
        have r10 := H10.out.2.2.1
        have k10 : w10.cell? ⟨g4, 30, none⟩ = some (.int .i64 m.state) := row_cell r10 30
        have f10 := row_frozen r10 30
        go_upto_region 16 with fail
        obtain ⟨X, hXe⟩ : ∃ X : Mot, X = ({ m with state := 4 } : Mot) := ⟨_, rfl⟩
        have HX2 := Lib.hid (HCl.out.trans hXe.symm)
        refine of_world (fun W => Below w.heap.size w W ∧ row W w.heap.size = some p.cells ∧ row W g4 = some (motC (X, a)) ∧ OwnC 107 33 motC W w0.heap.size (.slice (some ⟨g6, 0, none⟩) n c6) (mixL p.quorum p.enact ms ep xs j)) (by have h := HSet.out 30 (.int .i64 4) w10 _ H10.out; rw [hXe]; exact h) ?_
        rintro w12 ⟨hb12, p12, r12, hO12⟩
        have hth := HTh.out w12 hO12
        have HN' := Lib.hid (HEnd.out X w12 HX2.out hb12 p12 hO12)
        clear hXe HX2
        clear hb12 p12 hO12 r10 k10 f10
        go_upto_region 4 with (refine wpList_store_mid rfl 107 _ _ (by rfl) g6 (j * 33) (motC (X, a)) (by rfl) (by rfl) hth rmot_info (motC_one _) ?_)
        refine of_world (fun W => OwnC 107 33 motC W w0.heap.size (.slice (some ⟨g6, 0, none⟩) n c6) (mixL p.quorum p.enact ms ep xs (j + 1)) ∧ Below w.heap.size w W ∧ row W w.heap.size = some p.cells) HN'.out ?_
        intro w14 hW14
        have HN2 := Lib.hid hW14
        clear hW14 r12 HN'
        go_wp2_with fail
        exact ⟨⟨j + 1, by go_num, by omega, HN2⟩, by simp [intOf]; omega⟩
      case pos =>
      have hF : fitB act = true := by unfold fitB; exact decide_eq_true (show act ≤ mostN from hact)
      have hF2 : fit act = act := fit_le hact
      have HO2 : Hid (okC p.quorum ms m = passB p.quorum fy fn act) := Lib.hid (by rw [HOC.out, decide_eq_true hact]; rfl)
      have HPs := Lib.hid (fun W => rpasses22_any p.quorum fy fn act hq hvy hvn (by omega) W)
      rw [hF, hF2]
      clear hF hF2 HOC hact
      have c23 : w10.cell? ⟨w.heap.size, 23, none⟩ = some (.int .i64 p.quorum) := row_cell H10.out.2.1 23
      cases hpb : passB p.quorum fy fn act
      case false =>
        rw [hpb] at HPs HO2
        have HCl : Hid (closeM p.quorum p.enact ms ep m = { m with state := 4 }) := Lib.hid (by rw [HC.out, HO2.out]; rfl)
        go_wp2_with fail
        refine (HPs.out _).mono ?_
        rintro e w11 ⟨rfl, hb11⟩
        have H11 : Hid (Below w.heap.size w w11 ∧ row w11 w.heap.size = some p.cells ∧ row w11 g4 = some (motC (m, a)) ∧ OwnC 107 33 motC w11 w0.heap.size (.slice (some ⟨g6, 0, none⟩) n c6) (mixL p.quorum p.enact ms ep xs j)) := Lib.hid ⟨Below.then H10.out.1 hb11, below_row' hb11 H10.out.2.1, below_row' hb11 H10.out.2.2.1, H10.out.2.2.2.stay hb11⟩
        clear hb11 c23 hpb
        have r10 := H11.out.2.2.1
        have k10 : w11.cell? ⟨g4, 30, none⟩ = some (.int .i64 m.state) := row_cell r10 30
        have f10 := row_frozen r10 30
        go_upto_region 16 with fail
        obtain ⟨X, hXe⟩ : ∃ X : Mot, X = ({ m with state := 4 } : Mot) := ⟨_, rfl⟩
        have HX2 := Lib.hid (HCl.out.trans hXe.symm)
        refine of_world (fun W => Below w.heap.size w W ∧ row W w.heap.size = some p.cells ∧ row W g4 = some (motC (X, a)) ∧ OwnC 107 33 motC W w0.heap.size (.slice (some ⟨g6, 0, none⟩) n c6) (mixL p.quorum p.enact ms ep xs j)) (by have h := HSet.out 30 (.int .i64 4) w11 _ H11.out; rw [hXe]; exact h) ?_
        rintro w12 ⟨hb12, p12, r12, hO12⟩
        have hth := HTh.out w12 hO12
        have HN' := Lib.hid (HEnd.out X w12 HX2.out hb12 p12 hO12)
        clear hXe HX2
        clear hb12 p12 hO12 r10 k10 f10
        go_upto_region 4 with (refine wpList_store_mid rfl 107 _ _ (by rfl) g6 (j * 33) (motC (X, a)) (by rfl) (by rfl) hth rmot_info (motC_one _) ?_)
        refine of_world (fun W => OwnC 107 33 motC W w0.heap.size (.slice (some ⟨g6, 0, none⟩) n c6) (mixL p.quorum p.enact ms ep xs (j + 1)) ∧ Below w.heap.size w W ∧ row W w.heap.size = some p.cells) HN'.out ?_
        intro w14 hW14
        have HN2 := Lib.hid hW14
        clear hW14 r12 HN'
        go_wp2_with fail
        exact ⟨⟨j + 1, by go_num, by omega, HN2⟩, by simp [intOf]; omega⟩
      case true =>
        rw [hpb] at HPs HO2
        have HCl : Hid (closeM p.quorum p.enact ms ep m = { m with state := 2, due := ep + p.enact }) := Lib.hid (by rw [HC.out, HO2.out, dueV_eq hep.1 hep.2 hen.1 hen.2]; rfl)
        go_wp2_with fail
        refine (HPs.out _).mono ?_
        rintro e w11 ⟨rfl, hb11⟩
        have H11 : Hid (Below w.heap.size w w11 ∧ row w11 w.heap.size = some p.cells ∧ row w11 g4 = some (motC (m, a)) ∧ OwnC 107 33 motC w11 w0.heap.size (.slice (some ⟨g6, 0, none⟩) n c6) (mixL p.quorum p.enact ms ep xs j)) := Lib.hid ⟨Below.then H10.out.1 hb11, below_row' hb11 H10.out.2.1, below_row' hb11 H10.out.2.2.1, H10.out.2.2.2.stay hb11⟩
        clear hb11 c23 hpb
        have r10 := H11.out.2.2.1
        have k10 : w11.cell? ⟨g4, 30, none⟩ = some (.int .i64 m.state) := row_cell r10 30
        have f10 := row_frozen r10 30
        go_upto_region 12 with fail
        refine of_world (fun W => Below w.heap.size w W ∧ row W w.heap.size = some p.cells ∧ row W g4 = some (motC (({ m with state := 2 } : Mot), a)) ∧ OwnC 107 33 motC W w0.heap.size (.slice (some ⟨g6, 0, none⟩) n c6) (mixL p.quorum p.enact ms ep xs j)) (HSet.out 30 (.int .i64 2) w11 _ H11.out) ?_
        intro w13 hW13
        have H13 := Lib.hid hW13
        have r13 := H13.out.2.2.1
        have k13 : w13.cell? ⟨g4, 29, none⟩ = some (.int .i64 m.due) := row_cell r13 29
        have f13 := row_frozen r13 29
        have c22 : w13.cell? ⟨w.heap.size, 22, none⟩ = some (.int .i64 p.enact) := row_cell H13.out.2.1 22
        have e5 : IntKind.i64.wrap (ep + p.enact) = ep + p.enact := IntWalk.i64_in _ (by omega)
        have e6 : ¬ (2147483647 < ep + p.enact) := by omega
        clear hW13 k10 f10 r10
        go_upto_region 16 with fail
        obtain ⟨X, hXe⟩ : ∃ X : Mot, X = ({ m with state := 2, due := ep + p.enact } : Mot) := ⟨_, rfl⟩
        have HX2 := Lib.hid (HCl.out.trans hXe.symm)
        refine of_world (fun W => Below w.heap.size w W ∧ row W w.heap.size = some p.cells ∧ row W g4 = some (motC (X, a)) ∧ OwnC 107 33 motC W w0.heap.size (.slice (some ⟨g6, 0, none⟩) n c6) (mixL p.quorum p.enact ms ep xs j)) (by have h := HSet.out 29 (.int .i64 (ep + p.enact)) w13 _ H13.out; rw [hXe]; exact h) ?_
        rintro w12 ⟨hb12, p12, r12, hO12⟩
        have hth := HTh.out w12 hO12
        have HN' := Lib.hid (HEnd.out X w12 HX2.out hb12 p12 hO12)
        clear hXe HX2
        clear hb12 p12 hO12 r13 k13 f13 c22
        go_upto_region 4 with (refine wpList_store_mid rfl 107 _ _ (by rfl) g6 (j * 33) (motC (X, a)) (by rfl) (by rfl) hth rmot_info (motC_one _) ?_)
        refine of_world (fun W => OwnC 107 33 motC W w0.heap.size (.slice (some ⟨g6, 0, none⟩) n c6) (mixL p.quorum p.enact ms ep xs (j + 1)) ∧ Below w.heap.size w W ∧ row W w.heap.size = some p.cells) HN'.out ?_
        intro w14 hW14
        have HN2 := Lib.hid hW14
        clear hW14 r12 HN'
        go_wp2_with fail
        exact ⟨⟨j + 1, by go_num, by omega, HN2⟩, by simp [intOf]; omega⟩
    · obtain rfl : j = n := by omega
      have hEnd : RetM w (closeL p.quorum p.enact ms ep (xs.map (·.1))) (.returned (.slice A6 j c6)) wr := by
        have hl : mixL p.quorum p.enact ms ep xs j = xs.map (clX p.quorum p.enact ms ep) := by
          unfold mixL
          rw [List.take_of_length_le (by rw [HN.out]; exact Nat.le_refl _), List.drop_eq_nil_of_le (by rw [HN.out]; exact Nat.le_refl _), List.append_nil]
        have hO := hH.out.1
        rw [hl] at hO
        obtain ⟨A9, c9, e9, hs9, _⟩ := hO.form motC_size
        rw [List.length_map, HN.out] at e9
        cases e9
        refine ⟨A6, j, c6, xs.map (clX p.quorum p.enact ms ep), rfl, by rw [List.length_map]; exact HN.out, ⟨hs9, fun y hy => ?_, fun y hy => ?_⟩, ?_, hO.cap, hH.out.2.1⟩
        · obtain ⟨x, hx, rfl⟩ := List.mem_map.1 hy
          exact clX_at ((HX.out.at_ x hx).stay hH.out.2.1)
        · obtain ⟨x, hx, rfl⟩ := List.mem_map.1 hy
          exact closeM_ok (HX.out.ok x hx)
        · unfold closeL
          rw [List.map_map, List.map_map]; rfl
      have HEnd := Lib.hid hEnd
      clear hEnd
      go_wp2_with fail
      go_ret
      exact HEnd.out
end Go.Proofs.Ytnakkjgnjffkpaa

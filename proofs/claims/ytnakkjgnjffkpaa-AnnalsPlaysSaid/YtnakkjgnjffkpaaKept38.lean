/-
  Layer 38: kept: the span and the sums of all are the document's.
-/
import Derived.Test.YtnakkjgnjffkpaaRA38
import Derived.Test.YtnakkjgnjffkpaaCalmV
namespace Go.Proofs.Ytnakkjgnjffkpaa
open Go.RowKit
set_option linter.unusedVariables false
set_option linter.unusedSimpArgs false

theorem spanV_cons {l : List (Rep × RepA)} {xs : List (Rep × RepA)} {most : Nat} (hrel : l.map (·.1) = (xs.map (·.1)).drop (xs.length - most)) (hp : 0 < most) {x y : Rep × RepA} (hx : xs[xs.length - most]? = some x) (hy : xs[xs.length - 1]? = some y) : spanV l = .tuple #[.int .i64 x.1.epoch, .int .i64 y.1.epoch, .bool true] := by
  rw [spanR_eq, hrel]
  have hxl := (List.getElem?_eq_some_iff.1 hx).1
  unfold spanR
  have h1 : ((xs.map (·.1)).drop (xs.length - most)).head? = some x.1 := by
    rw [List.head?_drop, List.getElem?_map, hx]; rfl
  have h2 : ((xs.map (·.1)).drop (xs.length - most)).getLast? = some y.1 := by
    rw [List.getLast?_eq_getElem?, List.length_drop, List.length_map, List.getElem?_drop, List.getElem?_map, show xs.length - most + (xs.length - (xs.length - most) - 1) = xs.length - 1 by omega, hy]; rfl
  rw [h1, h2]
set_option maxRecDepth 100000 in
set_option maxHeartbeats 4000000 in
theorem kept38_any (E : Nat → Prop) (g gw most : Nat) (s : Sm) (v : Value) (l : List (Rep × RepA)) (A : Option Addr) (c : Nat) (xs : List (Rep × RepA)) (w : World) (hA : AnAt w E g most s v l) (hF : RfA w gw most A c xs)
    (hrel : l.map (·.1) = (xs.map (·.1)).drop (xs.length - most)) (hs : s = totS (sumX xs)) (hfit : fitsS s) :
    Calls Try.prog 17 #[.pointer (some ⟨g, 0, none⟩), .pointer (some ⟨gw, 0, none⟩)] w fun e w' => e = .returned (.bool true) ∧ Below w.heap.size w w' := by
  have HA := Lib.hid hA
  have HF := Lib.hid hF
  have HTg : Hid (togV (sumX xs) = s) := Lib.hid (by unfold togV; rw [← hs, if_pos hfit])
  have hp := hA.pos
  have hl := hF.len
  by_cases h0 : xs.length = 0
  · have hl0 : l = [] := by
      have : (l.map (·.1)).length = 0 := by rw [hrel, List.length_drop, List.length_map]; omega
      rw [List.length_map] at this
      exact List.eq_nil_of_length_eq_zero this
    have HSp : Hid (spanV l = .tuple #[.int .i64 0, .int .i64 0, .bool false]) := Lib.hid (by rw [hl0]; rfl)
    clear hA hF hrel hs hfit hl0
    go_enter Try.func17, Try.ntmps17
    go_wp2_with fail
    refine (span38_any E g most s v l w HA.out).mono ?_
    rw [HSp.out]
    rintro e w1 ⟨rfl, n1, rfl⟩
    have B1 := Lib.hid (show Below w.heap.size w (w.drewN n1) from below_drewN (Below.refl _ _) _)
    generalize w.drewN n1 = w1 at *
    have F1 := Lib.hid (HF.out.stay B1.out)
    have A1 := Lib.hid (HA.out.stay B1.out)
    have k1 : w1.cell? ⟨gw, 1, none⟩ = some (.slice A 0 c) := by rw [← h0]; exact row_cell F1.out.row 1
    go_wp2_with fail
    refine (rsum38_any A 0 c xs h0 (by omega) w1 F1.out.list F1.out.ok F1.out.right).mono ?_
    rw [HTg.out]
    rintro e w2 ⟨rfl, hb2⟩
    go_upto_region 4 with fail
    refine of_world (fun W => Below w2.heap.size w2 W ∧ row W w2.heap.size = some (smC s)) ⟨(by (repeat (first | exact Below.refl _ _ | assumption | (refine Below.allocT ?_ _) | refine Below.drew ?_ | refine below_drewN ?_ _ | (refine Below.then ?_ (by assumption)) | (refine Below.setRow ?_ ?_ _; rotate_left; (focus (first | exact Nat.lt_succ_self _ | ((repeat rw [World.size_alloc]); omega) | (simp; done) | (simp; omega) | omega))) | (refine Below.setCell ?_ ?_ _; rotate_left; (focus (first | exact Nat.lt_succ_self _ | ((repeat rw [World.size_alloc]); omega) | (simp; done) | (simp; omega) | omega))) | (refine Below.then' ?_ (by assumption) ?_; rotate_left; (focus (first | exact Nat.lt_succ_self _ | ((repeat rw [World.size_alloc]); omega) | (simp; done) | (simp; omega) | omega))) | fail)); (first | done | fail)), by first | exact row_at _ _ _ _ rfl | (rw [row_setRow_if, if_pos rfl, row_at _ _ _ _ rfl]; rfl)⟩ ?_
    rintro w3 ⟨hb3, r3⟩
    have A3 := Lib.hid (A1.out.stay (Below.then hb2 hb3))
    have B3 := Lib.hid (Below.then B1.out (Below.then hb2 hb3))
    clear hb2 hb3 k1
    generalize w2.heap.size = g9 at *
    have HM : Hid (∀ w', Below w3.heap.size w3 w' → row w' g9 = some (smC s)) := Lib.hid fun w' h => (row_below h (row_lt r3)).trans r3
    have HL := Lib.hid (fun W (h : Below w3.heap.size w3 W) => all38_any E g most s v l W (A3.out.stay h))
    clear r3
    (refine wp_region_calm (by kernel_rfl) (by kernel_rfl) ?_; (repeat (first | go_big_quiet_skip | (go_big_quiet_want; apply calm_val; (focus (intro w' hb'; have c1 := HM.out w' hb'; first | exact rsums_quietO rfl rfl c1 | (unfold Oper.quietAt; go_simp; first | rfl | (go_at_call 24; exact calm_call hb' (HL.out _ hb'))))); (try simp only [Act.put, List.setIfInBounds_toArray, List.set_cons_zero, List.set_cons_succ]); go_big_quiet_on))); refine wpQuiet_nil ?_; intro w' hb')
    go_wp2_with (first | go_big_skip | go_big_want)
    go_ret
    exact ⟨rfl, Below.then B3.out hb'⟩
  · obtain ⟨x, hx⟩ : ∃ x, xs[xs.length - most]? = some x := ⟨_, List.getElem?_eq_getElem (by omega)⟩
    obtain ⟨y, hy⟩ : ∃ y, xs[xs.length - 1]? = some y := ⟨_, List.getElem?_eq_getElem (by omega)⟩
    have HSp := Lib.hid (spanV_cons hrel hp hx hy)
    have HX := Lib.hid hx
    have HY := Lib.hid hy
    have e0 : ((xs.length : Int) == 0) = false := beq_eq_false_iff_ne.2 (by omega)
    clear hA hF hrel hs hfit hx hy
    go_enter Try.func17, Try.ntmps17
    go_wp2_with fail
    refine (span38_any E g most s v l w HA.out).mono ?_
    rw [HSp.out]
    rintro e w1 ⟨rfl, n1, rfl⟩
    have B1 := Lib.hid (show Below w.heap.size w (w.drewN n1) from below_drewN (Below.refl _ _) _)
    generalize w.drewN n1 = w1 at *
    have F1 := Lib.hid (HF.out.stay B1.out)
    have A1 := Lib.hid (HA.out.stay B1.out)
    have k1 : w1.cell? ⟨gw, 1, none⟩ = some (.slice A xs.length c) := row_cell F1.out.row 1
    go_wp2_with fail
    refine (rsum38_any A xs.length c xs rfl hl w1 F1.out.list F1.out.ok F1.out.right).mono ?_
    rw [HTg.out]
    rintro e w2 ⟨rfl, hb2⟩
    go_upto_region 4 with fail
    refine of_world (fun W => Below w2.heap.size w2 W ∧ row W w2.heap.size = some (smC s)) ⟨(by (repeat (first | exact Below.refl _ _ | assumption | (refine Below.allocT ?_ _) | refine Below.drew ?_ | refine below_drewN ?_ _ | (refine Below.then ?_ (by assumption)) | (refine Below.setRow ?_ ?_ _; rotate_left; (focus (first | exact Nat.lt_succ_self _ | ((repeat rw [World.size_alloc]); omega) | (simp; done) | (simp; omega) | omega))) | (refine Below.setCell ?_ ?_ _; rotate_left; (focus (first | exact Nat.lt_succ_self _ | ((repeat rw [World.size_alloc]); omega) | (simp; done) | (simp; omega) | omega))) | (refine Below.then' ?_ (by assumption) ?_; rotate_left; (focus (first | exact Nat.lt_succ_self _ | ((repeat rw [World.size_alloc]); omega) | (simp; done) | (simp; omega) | omega))) | fail)); (first | done | fail)), by first | exact row_at _ _ _ _ rfl | (rw [row_setRow_if, if_pos rfl, row_at _ _ _ _ rfl]; rfl)⟩ ?_
    rintro w3 ⟨hb3, r3⟩
    have A3 := Lib.hid (A1.out.stay (Below.then hb2 hb3))
    have F3 := Lib.hid (F1.out.stay (Below.then hb2 hb3))
    have B3 := Lib.hid (Below.then B1.out (Below.then hb2 hb3))
    clear hb2 hb3 k1
    generalize w2.heap.size = g9 at *
    have HM : Hid (∀ w', Below w3.heap.size w3 w' → row w' g9 = some (smC s)) := Lib.hid fun w' h => (row_below h (row_lt r3)).trans r3
    have HL := Lib.hid (fun W (h : Below w3.heap.size w3 W) => all38_any E g most s v l W (A3.out.stay h))
    clear r3
    (refine wp_region_calm (by kernel_rfl) (by kernel_rfl) ?_; (repeat (first | go_big_quiet_skip | (go_big_quiet_want; apply calm_val; (focus (intro w' hb'; have c1 := HM.out w' hb'; first | exact rsums_quietO rfl rfl c1 | (unfold Oper.quietAt; go_simp; first | rfl | (go_at_call 24; exact calm_call hb' (HL.out _ hb'))))); (try simp only [Act.put, List.setIfInBounds_toArray, List.set_cons_zero, List.set_cons_succ]); go_big_quiet_on))); refine wpQuiet_nil ?_; intro w' hb')
    have F4 := Lib.hid (F3.out.stay hb')
    have B4 := Lib.hid (Below.then B3.out hb')
    clear HM HL A3 F3 B3
    go_upto_region 8 with fail
    refine of_world (fun W => Below w.heap.size w W ∧ RfA W gw most A c xs) ⟨B4.out, F4.out⟩ ?_
    rintro w5 ⟨hb5, h5⟩
    have B5 := Lib.hid hb5
    have F5 := Lib.hid h5
    clear hb5 h5 hb' F4 B4 A1 F1 B1
    obtain ⟨b, off, rfl, hbb, hcell⟩ := F5.out.list (by omega)
    have HM : Hid (∀ w', Below w5.heap.size w5 w' → w'.cell? ⟨gw, 1, none⟩ = some (.slice (some ⟨b, off, none⟩) xs.length c) ∧ w'.cell? ⟨b, off + (xs.length - most) * 14, none⟩ = some (.int .i64 x.1.epoch) ∧ w'.cell? ⟨b, off + (xs.length - 1) * 14, none⟩ = some (.int .i64 y.1.epoch)) := Lib.hid fun w' h => by
      refine ⟨row_cell (F5.out.stay h).row 1, ?_, ?_⟩
      · exact (h.cell hbb).trans (by have := hcell _ x HX.out 0 _ rfl; simpa using this)
      · exact (h.cell hbb).trans (by have := hcell _ y HY.out 0 _ rfl; simpa using this)
    have HFi := Lib.hid (fun W (h : Below w5.heap.size w5 W) => rfirst_any gw most (some ⟨b, off, none⟩) c xs W (F5.out.stay h))
    have z0 : IntKind.i64.wrap ((xs.length : Int) - 1) = ((xs.length - 1 : Nat) : Int) := by rw [IntKind.wrap_i64]; omega
    have z1 : (0 : Int) ≤ ((xs.length - most : Nat) : Int) := by omega
    have z2 : ((xs.length - most : Nat) : Int) < (xs.length : Int) := by omega
    have z3 : (0 : Int) ≤ ((xs.length - 1 : Nat) : Int) := by omega
    have z4 : ((xs.length - 1 : Nat) : Int) < (xs.length : Int) := by omega
    have z5 : xs.length - most < xs.length := by omega
    have z6 : xs.length - 1 < xs.length := by omega
    clear hcell HSp HTg HF HA F5
    generalize xs.length - most = f at *
    generalize xs.length - 1 = m at *
    generalize x.1.epoch = xe at *
    generalize y.1.epoch = ye at *
    generalize xs.length = n at *
    (refine wp_region_calm (by kernel_rfl) (by kernel_rfl) ?_; (repeat (first | go_big_quiet_skip | (go_big_quiet_want; apply calm_val; (focus (intro w' hb'; obtain ⟨c1, c2, c3⟩ := HM.out w' hb'; first | fail | (unfold Oper.quietAt; go_simp; first | rfl | (go_at_call 60; exact calm_call hb' (HFi.out _ hb'))))); (try simp only [Act.put, List.setIfInBounds_toArray, List.set_cons_zero, List.set_cons_succ]); go_big_quiet_on))); refine wpQuiet_nil ?_; intro w' hb')
    go_wp2_with (first | go_big_skip | go_big_want)
    go_ret
    exact ⟨rfl, Below.then B5.out hb'⟩
end Go.Proofs.Ytnakkjgnjffkpaa

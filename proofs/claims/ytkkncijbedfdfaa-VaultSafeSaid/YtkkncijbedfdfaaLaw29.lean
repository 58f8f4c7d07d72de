/-
  Layer 29: few; the chapter's example.
-/
import Derived.Test.YtkkncijbedfdfaaVaultP
import Derived.Test.YtkkncijbedfdfaaOpenV
import Derived.Test.YtkkncijbedfdfaaSame5
import Derived.Lib.SlBytesConst
namespace Go.Proofs.Ytkkncijbedfdfaa
open Go.RowKit
set_option linter.unusedVariables false

def fewV (xs : List Op29) (most : Int) : Bool := decide ((∀ o ∈ xs, o.keep.length ≤ 100 ∧ o.b.length ≤ 3000) ∧ (xs.length : Int) ≤ most)
set_option maxHeartbeats 2000000 in
theorem few29_any (A : Option Addr) (n c : Nat) (xs : List Op29) (most : Int) (hn : xs.length = n) (hm : n ≤ 9223372036854775807) (hl : ∀ x ∈ xs, x.keep.length ≤ 9223372036854775807 ∧ x.b.length ≤ 9223372036854775807) (w : World) (hU : SliceOf 4 Op29.cells w A xs) :
    Calls Try.prog 8 #[.slice A n c, .int .i64 most] w fun e w' => e = .returned (.bool (fewV xs most)) ∧ Below w.heap.size w w' := by
  have HN := Lib.hid hn
  have HU := Lib.hid hU
  have HLen := Lib.hid hl
  clear hn hU hl
  go_enter Try.func8, Try.ntmps8
  go_wp2_with fail
  go_loopw [9] (fun i wr => ∃ j : Nat, i = .int .i64 j ∧ j ≤ n ∧ Hid (∀ k, k < j → ∀ o, xs[k]? = some o → o.keep.length ≤ 100 ∧ o.b.length ≤ 3000) ∧ Below w.heap.size w wr) (fun i _ => n - (intOf i).toNat)
  case atStart => exact ⟨0, rfl, by omega, Lib.hid (fun k hk => by omega), Below.refl _ _⟩
  case round =>
    obtain ⟨j, rfl, hj, hI, hB⟩ := hrel
    by_cases hlt : j < n
    · obtain ⟨b, off, rfl, hbb, hcell⟩ := HU.out (by rw [HN.out]; omega)
      obtain ⟨o, hxj⟩ : ∃ o, xs[j]? = some o := ⟨_, List.getElem?_eq_getElem (by rw [HN.out]; omega)⟩
      have hrg := range_below (hcell j _ hxj) hB hbb
      obtain ⟨k0, k1, k2, k3⟩ := op29_cells hrg
      have hlen := HLen.out o (List.mem_of_getElem? hxj)
      have HXJ := Lib.hid hxj
      have HK : Hid (∃ m q, m = o.keep.length ∧ q = o.b.length) := Lib.hid ⟨_, _, rfl, rfl⟩
      obtain ⟨m, q, hmk, hqk⟩ := HK.out
      rw [← hmk] at k3
      rw [← hqk] at k2
      rw [← hmk, ← hqk] at hlen
      have HMk := Lib.hid (And.intro hmk hqk)
      have z1 : (0 : Int) ≤ (j : Int) := by omega
      have z2 : (j : Int) < (n : Int) := by omega
      clear hcell hrg hxj HK hmk hqk
      by_cases hs : (100 : Int) < (m : Int) ∨ (3000 : Int) < (q : Int)
      · have HF : Hid (fewV xs most = false) := Lib.hid (decide_eq_false fun h => by
          have h1 := h.1 o (List.mem_of_getElem? HXJ.out)
          have h2 := HMk.out
          omega)
        by_cases hs1 : (100 : Int) < (m : Int)
        · clear hs
          go_wp2_with fail
          go_ret
          exact ⟨by rw [HF.out]; rfl, (hB.alloc hB.size _)⟩
        · have hs2 : (3000 : Int) < (q : Int) := by omega
          clear hs
          go_wp2_with fail
          go_ret
          exact ⟨by rw [HF.out]; rfl, (hB.alloc hB.size _)⟩
      · have hs1 : ¬ (100 : Int) < (m : Int) := by omega
        have hs2 : ¬ (3000 : Int) < (q : Int) := by omega
        have HI2 : Hid (∀ k, k < j + 1 → ∀ o, xs[k]? = some o → o.keep.length ≤ 100 ∧ o.b.length ≤ 3000) := Lib.hid fun k hk o' ho' => by
          rcases Nat.lt_or_ge k j with h | h
          · exact hI.out k h o' ho'
          · obtain rfl : k = j := by omega
            rw [HXJ.out] at ho'
            cases ho'
            have h2 := HMk.out
            omega
        clear hs
        go_wp2_with fail
        exact ⟨⟨j + 1, by go_num, by omega, HI2, (hB.alloc hB.size _)⟩, by simp [intOf]; omega⟩
    · obtain rfl : j = n := by omega
      have HAll : Hid (∀ o ∈ xs, o.keep.length ≤ 100 ∧ o.b.length ≤ 3000) := Lib.hid fun o ho => by
        obtain ⟨k, hk, rfl⟩ := List.mem_iff_getElem.1 ho
        exact hI.out k (by rw [← HN.out]; exact hk) _ (List.getElem?_eq_getElem hk)
      clear HU
      by_cases h60 : (j : Int) ≤ most
      · have HF : Hid (fewV xs most = true) := Lib.hid (decide_eq_true ⟨HAll.out, by rw [HN.out]; exact h60⟩)
        go_wp2_with fail
        go_ret
        exact ⟨by rw [HF.out]; rfl, hB⟩
      · have HF : Hid (fewV xs most = false) := Lib.hid (decide_eq_false fun h => by have := h.2; rw [HN.out] at this; omega)
        go_wp2_with fail
        go_ret
        exact ⟨by rw [HF.out]; rfl, hB⟩
/-- Bytes that have been made of a constant. -/
theorem bytes_mark (W : World) (l : List Nat) (cs : Array Value) (fr : Nat × Nat) (h : cs = (l.map fun x : Nat => Value.int .u8 ((x : Nat) : Int)).toArray) : Bys (W.alloc (.cells cs 5 fr)) (some ⟨W.heap.size, 0, none⟩) l := fun _ => by
  refine ⟨W.heap.size, 0, rfl, by simp, fun i hi => ?_⟩
  rw [World.cell?_alloc_mark, h, Nat.zero_add]
  simp [hi]
set_option maxRecDepth 100000 in
set_option maxHeartbeats 8000000 in
theorem awake29_any (w : World) : Calls Try.prog 7 #[] w fun e w' => e = .returned (.bool true) ∧ Below w.heap.size w w' := by
  obtain ⟨s0, hs0⟩ : ∃ s, s = newPs 10 := ⟨_, rfl⟩
  have hbare : Bare s0 4 := by rw [hs0]; exact bare_new 10 (by omega)
  have ha0 : s0.armed = false := by rw [hs0]; rfl
  have HNw := Lib.hid (fun W => new_any 10 (by omega) (by omega) W)
  unfold NewPost at HNw
  rw [← hs0] at HNw
  have HS0 := Lib.hid (And.intro hbare ha0)
  clear hbare ha0 hs0
  go_enter Try.func7, Try.ntmps7
  go_wp2_with fail
  refine (HNw.out _).mono ?_
  rintro e w1 ⟨g, gs, rfl, hg, hgs, hP, hb⟩
  have I1 := Lib.hid (PlIn.of_new hg hgs hP hb)
  clear hg hgs hP hb HNw
  obtain ⟨p1, hp1, hop⟩ := I1.out.first (W := w1.alloc (.cells #[.int .u8 97, .int .u8 98, .int .u8 99] 5 (3, 4))) (by (repeat (first | exact Below.refl _ _ | assumption | (refine Below.allocT ?_ _) | refine Below.drew ?_ | refine below_drewN ?_ _ | (refine Below.then ?_ (by assumption)) | (refine Below.setRow ?_ ?_ _; rotate_left; (focus (first | exact Nat.lt_succ_self _ | ((repeat rw [World.size_alloc]); omega) | (simp; done) | (simp; omega) | omega))) | (refine Below.setCell ?_ ?_ _; rotate_left; (focus (first | exact Nat.lt_succ_self _ | ((repeat rw [World.size_alloc]); omega) | (simp; done) | (simp; omega) | omega))) | (refine Below.then' ?_ (by assumption) ?_; rotate_left; (focus (first | exact Nat.lt_succ_self _ | ((repeat rw [World.size_alloc]); omega) | (simp; done) | (simp; omega) | omega))) | fail)); (first | done | fail)) HS0.out.1 (by omega) 3 3 (some ⟨w1.heap.size, 0, none⟩) [97, 98, 99] rfl (by omega) (by omega) (by omega) (bytes_mark w1 [97, 98, 99] _ _ rfl) (fun _ a ha => by cases ha; exact .inl (Nat.le_refl _))
  have hc1 := (bare_first HS0.out.1 (by omega) [97, 98, 99] (by decide)).calm HS0.out.1.down HS0.out.2
  rw [← hp1] at hc1
  have HC1 := Lib.hid hc1
  have HOp := Lib.hid hop
  clear hop hc1 hp1
  have hcvt := Lib.run_convert_bytes_const (P := Try.prog) w1 22 5 #[.int .u8 97, .int .u8 98, .int .u8 99] 3 3 u8s_under u8_under
  go_wp2_with fail
  refine (HOp.out).mono ?_
  rintro e w2 ⟨hq, _⟩
  obtain ⟨_, hz, _⟩ := hq (by decide)
  obtain ⟨gv, rfl, hV⟩ := hz HC1.out.1
  have I2 := Lib.hid hV
  clear hq hz hV HOp
  obtain ⟨v1, hv1⟩ : ∃ v, v = cmpV 1 0 [97, 98, 99] := ⟨_, rfl⟩
  rw [← hv1] at HC1 I2
  have hr7 := rawF_len (bs := [7]) (by decide)
  have hfit : secs v1.snap.length + secs (v1.log ++ rawF [7]).length ≤ 4 := by
    rw [hv1]
    show secs 3 + secs ([] ++ rawF [7]).length ≤ 4
    rw [List.nil_append]
    have h7 : ([7] : List Nat).length = 1 := rfl
    unfold secs
    omega
  obtain ⟨s2, hG2, ha2, hap⟩ := I2.out.app (W := w2.alloc (.cells #[.int .u8 7] 5)) (by (repeat (first | exact Below.refl _ _ | assumption | (refine Below.allocT ?_ _) | refine Below.drew ?_ | refine below_drewN ?_ _ | (refine Below.then ?_ (by assumption)) | (refine Below.setRow ?_ ?_ _; rotate_left; (focus (first | exact Nat.lt_succ_self _ | ((repeat rw [World.size_alloc]); omega) | (simp; done) | (simp; omega) | omega))) | (refine Below.setCell ?_ ?_ _; rotate_left; (focus (first | exact Nat.lt_succ_self _ | ((repeat rw [World.size_alloc]); omega) | (simp; done) | (simp; omega) | omega))) | (refine Below.then' ?_ (by assumption) ?_; rotate_left; (focus (first | exact Nat.lt_succ_self _ | ((repeat rw [World.size_alloc]); omega) | (simp; done) | (simp; omega) | omega))) | fail)); (first | done | fail)) HC1.out.2.1 HC1.out.2.2 (by rw [hv1]; decide) (by rw [hv1]; decide) 1 1 (some ⟨w2.heap.size, 0, none⟩) [7] rfl (by omega) (by omega) (.of fun x hx => by simp at hx; omega) (bytes_new w2 [7] _ rfl) (fun a ha => by cases ha; exact .inl (Nat.le_refl _)) hfit
  have HG2 := Lib.hid hG2
  have HAp := Lib.hid hap
  clear hG2 hap hfit hr7 ha2
  go_wp2_with fail
  refine (HAp.out).mono ?_
  rintro e w3 ⟨rfl, hV⟩
  have I3 := Lib.hid hV
  clear hV HAp I2 HC1
  have HAg := Lib.hid (I3.out.pl.again HG2.out (by rw [hv1]; decide) none 0 0)
  go_wp2_with fail
  refine (HAg.out).mono ?_
  rintro e w4 ⟨gw, rfl, hV, _, _⟩
  have I4 := Lib.hid hV
  obtain ⟨gs4, pv4, A4, c4, x4, k4, _, _⟩ := hV
  have hsn : (appV v1 [7]).snap = [97, 98, 99] := by rw [hv1]; rfl
  have hrc : (appV v1 [7]).recs = [[7]] := by rw [hv1]; rfl
  have hgn : (appV v1 [7]).hd.gen = 2 := by rw [hv1]; rfl
  have HSn := Lib.hid (fun W (hb : Below w4.heap.size w4 W) => snapshot_any gw g 4 false _ x4 (by rw [hsn]; decide) W (k4.vt.stay hb))
  rw [hsn] at HSn
  have HRc := Lib.hid (fun W (hb : Below w4.heap.size w4 W) => records_any gw g 4 false _ x4 (by rw [hrc]; decide) (by rw [hrc]; intro r hr; rw [List.mem_singleton] at hr; rw [hr]; decide) W (k4.vt.stay hb))
  rw [hrc] at HRc
  have HGn := Lib.hid (fun W (hb : Below w4.heap.size w4 W) => generation_any gw g 4 false _ x4 W (k4.vt.stay hb))
  rw [hgn] at HGn
  clear k4 hsn hrc hgn I3 HAg HG2
  go_wp2_with fail
  refine (HSn.out _ (Below.refl _ _)).mono ?_
  rintro e w5 ⟨A5, c5, rfl, hy5, _, hb5⟩
  have HB5 := Lib.hid hb5
  have hst : strB [97, 98, 99] = ⟨#[97, 98, 99]⟩ := by rfl
  have hcv : (convert 22 9 (.slice A5 3 c5)).run Try.prog w5 = .ok (.string ⟨#[97, 98, 99]⟩) w5 := by rw [← hst]; exact run_strB hy5 (by decide) c5
  clear hy5 hb5 HSn hst
  go_wp2_with fail
  refine (HRc.out _ HB5.out).mono ?_
  rintro e w6 ⟨A6, c6, rs6, rfl, _, _, hb6⟩
  have HB6 := Lib.hid (Below.then HB5.out hb6)
  clear hb6 hcv HRc
  go_wp2_with fail
  refine (HGn.out _ HB6.out).mono ?_
  rintro e w7 ⟨rfl, rfl⟩
  go_wp2_with fail
  refine (min_any _).mono ?_
  rintro e w7 ⟨rfl, rfl⟩
  go_wp2_with fail
  go_ret
  exact ⟨rfl, Below.then I4.out.below HB6.out⟩
end Go.Proofs.Ytkkncijbedfdfaa

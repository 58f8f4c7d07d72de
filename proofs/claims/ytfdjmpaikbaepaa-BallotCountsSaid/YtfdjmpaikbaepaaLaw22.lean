/-
  Layer 22: the functions of the statements' package; what passes passes with one yes more, and with less active.
-/
import Derived.Test.YtfdjmpaikbaepaaBallot2
import Derived.Test.YtfdjmpaikbaepaaPlain19
import Derived.Test.YtfdjmpaikbaepaaCalm0
import Derived.Deep.DeepCutAuto
namespace Go.Proofs.Ytfdjmpaikbaepaa
open Go.RowKit
set_option linter.unusedVariables false

theorem passB_of {q : Int} {y n a : Nat} (h : passB q y n a = true) : y + n ≤ 18446744073709551615 ∧ a ≠ 0 ∧ n < y ∧ 0 ≤ q ∧ q.toNat * a ≤ (y + n) * 10000 := by
  unfold passB at h
  obtain ⟨h1, h⟩ := Bool.and_eq_true_iff.1 h
  obtain ⟨h2, h⟩ := Bool.and_eq_true_iff.1 h
  obtain ⟨h3, h⟩ := Bool.and_eq_true_iff.1 h
  obtain ⟨h4, h5⟩ := Bool.and_eq_true_iff.1 h
  exact ⟨of_decide_eq_true h1, of_decide_eq_true h2, of_decide_eq_true h3, of_decide_eq_true h4, of_decide_eq_true h5⟩
theorem passB_mk {q : Int} {y n a : Nat} (h1 : y + n ≤ 18446744073709551615) (h2 : a ≠ 0) (h3 : n < y) (h4 : 0 ≤ q) (h5 : q.toNat * a ≤ (y + n) * 10000) : passB q y n a = true := by
  unfold passB
  exact Bool.and_eq_true_iff.2 ⟨decide_eq_true h1, Bool.and_eq_true_iff.2 ⟨decide_eq_true h2, Bool.and_eq_true_iff.2 ⟨decide_eq_true h3, Bool.and_eq_true_iff.2 ⟨decide_eq_true h4, decide_eq_true h5⟩⟩⟩⟩
theorem passB_more {q : Int} {y n a : Nat} (hy : y ≤ 4611686018427387904) (hn : n ≤ 4611686018427387904) (h : passB q y n a = true) : n < y ∧ 0 < a ∧ passB q (y + 1) n a = true ∧ passB q y n (a - a / 2) = true := by
  obtain ⟨h1, h2, h3, h4, h5⟩ := passB_of h
  have h6 : q.toNat * (a - a / 2) ≤ q.toNat * a := Nat.mul_le_mul_left _ (by omega)
  have g1 : y + 1 + n ≤ 18446744073709551615 := by omega
  have g2 : n < y + 1 := by omega
  have g3 : q.toNat * a ≤ (y + 1 + n) * 10000 := Nat.le_trans h5 (Nat.mul_le_mul_right _ (by omega))
  have g4 : a - a / 2 ≠ 0 := by omega
  have g5 : q.toNat * (a - a / 2) ≤ (y + n) * 10000 := Nat.le_trans h6 h5
  have g6 : 0 < a := by omega
  clear h
  exact ⟨h3, g6, passB_mk g1 h2 g2 h4 g3, passB_mk h1 g4 h3 h4 g5⟩
theorem selL_idle {ms : List Mb} (h : ∀ m ∈ ms, countsB m.status = false) (sel : Nat → Bool) : ∀ k, selL ms sel k = []
  | 0 => rfl
  | k + 1 => by
    rw [selL, selL_idle h sel k]
    unfold oneS
    cases hk : ms[k]? with
    | none => rfl
    | some m => simp [h m (List.mem_of_getElem? hk)]
def few22B (n n1 n2 : Nat) : Bool := decide ((n : Int) ≤ 300) && (decide ((n1 : Int) ≤ 100) && decide ((n2 : Int) ≤ 100))
theorem few22_of {n n1 n2 : Nat} (h : few22B n n1 n2 = true) : n ≤ 300 ∧ n1 ≤ 100 ∧ n2 ≤ 100 := by
  simp [few22B] at h; omega
theorem few22_any (A A1 A2 : Option Addr) (n c n1 c1 n2 c2 : Nat) (w : World) : Calls Try.prog 53 #[.slice A n c, .slice A1 n1 c1, .slice A2 n2 c2] w fun e w' => e = .returned (.bool (few22B n n1 n2)) ∧ Below w.heap.size w w' := by
  by_cases h : (n : Int) ≤ 300
  · by_cases h1 : (n1 : Int) ≤ 100
    · by_cases h2 : (n2 : Int) ≤ 100
      · have HV : Hid (few22B n n1 n2 = true) := Lib.hid (by unfold few22B; rw [decide_eq_true h, decide_eq_true h1, decide_eq_true h2]; rfl)
        go_enter Try.func53, Try.ntmps53
        go_wp2_with fail
        go_ret
        exact ⟨by rw [HV.out]; rfl, Below.refl _ _⟩
      · have HV : Hid (few22B n n1 n2 = false) := Lib.hid (by unfold few22B; rw [decide_eq_true h, decide_eq_true h1, decide_eq_false h2]; rfl)
        have d2 := decide_eq_false h2
        clear h2
        go_enter Try.func53, Try.ntmps53
        go_wp2_with fail
        go_ret
        exact ⟨by rw [HV.out]; rfl, Below.refl _ _⟩
    · have HV : Hid (few22B n n1 n2 = false) := Lib.hid (by unfold few22B; rw [decide_eq_true h, decide_eq_false h1]; rfl)
      have d2 := decide_eq_false h1
      clear h1
      go_enter Try.func53, Try.ntmps53
      go_wp2_with fail
      go_ret
      exact ⟨by rw [HV.out]; rfl, Below.refl _ _⟩
  · have HV : Hid (few22B n n1 n2 = false) := Lib.hid (by unfold few22B; rw [decide_eq_false h]; rfl)
    have d2 := decide_eq_false h
    clear h
    go_enter Try.func53, Try.ntmps53
    go_wp2_with fail
    go_ret
    exact ⟨by rw [HV.out]; rfl, Below.refl _ _⟩
set_option maxRecDepth 100000 in
set_option maxHeartbeats 4000000 in
theorem awake22_any (w : World) : Calls Try.prog 50 #[] w fun e w' => e = .returned (.bool true) ∧ Below w.heap.size w w' := by
  have H1 := Lib.hid (fun W => bpasses_any simpleP 20 10 100 (by omega) (by omega) (by omega) (by have : simpleP.quorum = 3000 := rfl; unfold i64ok; omega) W)
  have H2 := Lib.hid (fun W => bpasses_any simpleP 20 9 100 (by omega) (by omega) (by omega) (by have : simpleP.quorum = 3000 := rfl; unfold i64ok; omega) W)
  rw [show passB simpleP.quorum 20 10 100 = true by decide] at H1
  rw [show passB simpleP.quorum 20 9 100 = false by decide] at H2
  go_enter Try.func50, Try.ntmps50
  go_wp2_with fail
  refine (simple_any _).mono ?_
  rintro e w1 ⟨rfl, hb1⟩
  have r1 : row (w1.alloc (.cells simpleP.cells 24)) w1.heap.size = some simpleP.cells := row_at _ _ _ _ rfl
  have B1 := Lib.hid (hb1.alloc hb1.size (.cells simpleP.cells 24))
  clear hb1
  go_wp2_with fail
  generalize w1.alloc (.cells simpleP.cells 24) = w2 at *
  refine (H1.out _).mono ?_
  rintro e w3 ⟨rfl, hb3⟩
  have r3 := (row_below hb3 (row_lt r1)).trans r1
  have B3 := Lib.hid (Below.then B1.out hb3)
  clear r1 hb3
  go_wp2_with fail
  refine (H2.out _).mono ?_
  rintro e w4 ⟨rfl, hb4⟩
  have B4 := Lib.hid (Below.then B3.out hb4)
  clear hb4
  go_wp2_with fail
  go_ret
  exact ⟨rfl, B4.out⟩
theorem ambs_under : Try.prog.underlying 69 = some (.slice 73) := by kernel_rfl
theorem amb_three : (Try.prog.info? 73).map (fun i => (i.zero, i.size, i.bytes)) = some (some (.agg #[.int .u64 0, .int .u64 0, .int .u64 0, .int .i64 0, .int .i64 0, .int .i64 0]), 6, 48) := by kernel_rfl
set_option maxRecDepth 100000 in
set_option maxHeartbeats 8000000 in
theorem shrinks_few (P : Par) (y nn a : Nat) (A : Option Addr) (n c : Nat) (ms : List Mb) (hq : i64ok P.quorum) (hy : y ≤ 4611686018427387904) (hnn : nn ≤ 4611686018427387904) (ha : a < 18446744073709551616) (hn : ms.length = n) (hok : ∀ m ∈ ms, m.Ok) (hm : n ≤ 100) (w : World) (hU : SliceOf 6 Mb.cells w A ms) :
    Calls Try.prog 13 #[.agg P.cells, .agg #[.int .u64 (y : Int), .int .u64 (nn : Int), .int .u64 (a : Int)], .slice A n c] w fun e w' => e = .returned (.bool true) ∧ Below w.heap.size w w' := by
  have r0 : row ((w.alloc (.cells P.cells 24)).alloc (.cells #[.int .u64 (y : Int), .int .u64 (nn : Int), .int .u64 (a : Int)] 68)) w.heap.size = some P.cells := (by (repeat (first | assumption | (refine row_at _ _ _ _ ?_; first | rfl | (simp only [World.size_alloc]; done) | (simp only [World.size_alloc]; omega)) | (refine (row_past _ _ _ ?_).trans ?_; (focus (first | exact Nat.lt_succ_self _ | ((repeat rw [World.size_alloc]); omega) | (simp; done) | (simp; omega) | omega))) | rw [row_drewN] | rw [row_drew])); (first | done | fail))
  have s0 : row ((w.alloc (.cells P.cells 24)).alloc (.cells #[.int .u64 (y : Int), .int .u64 (nn : Int), .int .u64 (a : Int)] 68)) (w.heap.size + 1) = some #[.int .u64 (y : Int), .int .u64 (nn : Int), .int .u64 (a : Int)] := (by (repeat (first | assumption | (refine row_at _ _ _ _ ?_; first | rfl | (simp only [World.size_alloc]; done) | (simp only [World.size_alloc]; omega)) | (refine (row_past _ _ _ ?_).trans ?_; (focus (first | exact Nat.lt_succ_self _ | ((repeat rw [World.size_alloc]); omega) | (simp; done) | (simp; omega) | omega))) | rw [row_drewN] | rw [row_drew])); (first | done | fail))
  have hB0 : Below w.heap.size w ((w.alloc (.cells P.cells 24)).alloc (.cells #[.int .u64 (y : Int), .int .u64 (nn : Int), .int .u64 (a : Int)] 68)) := (by (repeat (first | exact Below.refl _ _ | assumption | (refine Below.allocT ?_ _) | refine Below.drew ?_ | refine below_drewN ?_ _ | (refine Below.then ?_ (by assumption)) | (refine Below.setRow ?_ ?_ _; rotate_left; (focus (first | exact Nat.lt_succ_self _ | ((repeat rw [World.size_alloc]); omega) | (simp; done) | (simp; omega) | omega))) | (refine Below.setCell ?_ ?_ _; rotate_left; (focus (first | exact Nat.lt_succ_self _ | ((repeat rw [World.size_alloc]); omega) | (simp; done) | (simp; omega) | omega))) | (refine Below.then' ?_ (by assumption) ?_; rotate_left; (focus (first | exact Nat.lt_succ_self _ | ((repeat rw [World.size_alloc]); omega) | (simp; done) | (simp; omega) | omega))) | fail)); (first | done | fail))
  have HU := Lib.hid hU
  have HN := Lib.hid hn
  have HOk := Lib.hid hok
  have t1 : ¬ (y : Int) > 4611686018427387904 := by omega
  have t2 : ¬ (nn : Int) > 4611686018427387904 := by omega
  have t3 : ¬ (n : Int) > 100 := by omega
  have HP := Lib.hid (fun W => bpasses_any P y nn a (by omega) (by omega) ha hq W)
  have HP1 := Lib.hid (fun W => bpasses_any P (y + 1) nn a (by omega) (by omega) ha hq W)
  have HP2 := Lib.hid (fun W => bpasses_any P y nn (a - a / 2) (by omega) (by omega) (by omega) hq W)
  clear hU hn hok
  go_enter Try.func13, Try.ntmps13
  go_wp2_with fail
  generalize (w.alloc (.cells P.cells 24)).alloc (.cells #[.int .u64 (y : Int), .int .u64 (nn : Int), .int .u64 (a : Int)] 68) = w0 at *
  refine (awake22_any _).mono ?_
  rintro e w1 ⟨rfl, hb1⟩
  have r1 := (row_below hb1 (row_lt r0)).trans r0
  have s1 := (row_below hb1 (row_lt s0)).trans s0
  have hB1 := Below.then hB0 hb1
  have c1 := fun i => row_cell s1 i
  have U1 := Lib.hid (HU.out.below hB1 (Nat.le_refl _))
  clear r0 s0 hB0 hb1 HU
  go_wp2_with fail
  go_loopw [32, 7] (fun i v wr => ∃ (j : Nat) (u : Value) (l : List Mb), i = .int .i64 j ∧ u = v ∧ j ≤ n ∧ Hid (OwnC 73 6 Mb.cells wr w1.heap.size u l ∧ (∀ m ∈ l, countsB m.status = false ∧ m.Ok) ∧ l.length ≤ j) ∧ Hid (Below w1.heap.size w1 wr)) (fun i _ _ => n - (intOf i).toNat)
  case atStart => exact ⟨0, _, [], rfl, rfl, by omega, Lib.hid ⟨OwnC.nil _ _, by simp, by simp⟩, Lib.hid (Below.refl _ _)⟩
  case round =>
    obtain ⟨j, u, l, rfl, rfl, hj, hO, hB⟩ := hrel
    clear c1
    by_cases hlt : j < n
    · obtain ⟨b, off, rfl, hbb, hcell⟩ := U1.out (by rw [HN.out]; omega)
      obtain ⟨m, hxj⟩ : ∃ m, ms[j]? = some m := ⟨_, List.getElem?_eq_getElem (by rw [HN.out]; omega)⟩
      obtain ⟨k0, k1, k2, k3, k4, k5⟩ := mb_range (range_below (hcell j _ hxj) hB.out hbb)
      have z1 : (0 : Int) ≤ (j : Int) := by omega
      have z2 : (j : Int) < (n : Int) := by omega
      have hmo := Lib.hid (HOk.out m (List.mem_of_getElem? hxj))
      have B1 : Hid (Below wr.heap.size wr (wr.alloc (.cells m.cells 73))) := Lib.hid (by (repeat (first | exact Below.refl _ _ | assumption | (refine Below.allocT ?_ _) | refine Below.drew ?_ | refine below_drewN ?_ _ | (refine Below.then ?_ (by assumption)) | (refine Below.setRow ?_ ?_ _; rotate_left; (focus (first | exact Nat.lt_succ_self _ | ((repeat rw [World.size_alloc]); omega) | (simp; done) | (simp; omega) | omega))) | (refine Below.setCell ?_ ?_ _; rotate_left; (focus (first | exact Nat.lt_succ_self _ | ((repeat rw [World.size_alloc]); omega) | (simp; done) | (simp; omega) | omega))) | (refine Below.then' ?_ (by assumption) ?_; rotate_left; (focus (first | exact Nat.lt_succ_self _ | ((repeat rw [World.size_alloc]); omega) | (simp; done) | (simp; omega) | omega))) | fail)); (first | done | fail))
      have B1w := Lib.hid (hB.out.trans (B1.out.mono hB.out.size))
      have HO1 := Lib.hid (hO.out.1.stay B1.out)
      obtain ⟨p, hp⟩ : ∃ p, p = l.length := ⟨_, rfl⟩
      have HLen : Hid (l.length = p) := Lib.hid hp.symm
      have hpj : p ≤ j := by have := hO.out.2.2; omega
      clear hcell hxj hp
      by_cases h2 : m.status = 2
      · have d2 : (m.status != 2) = false := by rw [h2]; rfl
        clear h2
        go_wp2_with fail
        exact ⟨⟨j + 1, u, l, by go_num, rfl, by omega, Lib.hid ⟨HO1.out, hO.out.2.1, by have := hO.out.2.2; omega⟩, B1w⟩, by simp [intOf]; omega⟩
      · have d2 : (m.status != 2) = true := bne_iff_ne.2 h2
        by_cases h3 : m.status = 3
        · have d3 : (m.status != 3) = false := by rw [h3]; rfl
          clear h2 h3
          go_wp2_with fail
          exact ⟨⟨j + 1, u, l, by go_num, rfl, by omega, Lib.hid ⟨HO1.out, hO.out.2.1, by have := hO.out.2.2; omega⟩, B1w⟩, by simp [intOf]; omega⟩
        · have d3 : (m.status != 3) = true := bne_iff_ne.2 h3
          have HCt : Hid (countsB m.status = false) := Lib.hid (by simp [countsB, h2, h3])
          clear h2 h3
          go_wp2_with (at_builtin; refine wpList_append_c ambs_under amb_three rfl (by decide) (by decide) Mb.cells_size Mb.cells_one rfl _ _ rfl w1.heap.size u l rfl (HO1.out.stay ((Below.refl _ _).alloc (Nat.le_refl _) _)) _ 1 m rfl (row_at _ _ _ _ (by simp)) p HLen.out (by rw [HLen.out]; omega) (by have := B1w.out.size; simp only [World.size_alloc] at *; omega) ?_; intro A' cap w4 hO4 hg4; have HO4 := Lib.hid hO4; have B4 := Lib.hid (below_grown_c (B1w.out.alloc B1w.out.size _) (Nat.le_refl _) (HO1.out.stay ((Below.refl _ _).alloc (Nat.le_refl _) _)) hg4); clear hO4 hg4)
          exact ⟨⟨j + 1, _, _, by go_num, rfl, by omega, Lib.hid ⟨HO4.out, fun x hx => by
            rcases List.mem_append.1 hx with hx | hx
            · exact hO.out.2.1 x hx
            · rw [List.mem_singleton.1 hx]; exact ⟨HCt.out, hmo.out⟩, by rw [List.length_append, HLen.out]; simp; omega⟩, B4⟩, by simp [intOf]; omega⟩
    · obtain rfl : n = j := by omega
      have hO' := hO.out.1
      have hidle := hO.out.2.1
      have hll := hO.out.2.2
      obtain ⟨A', c', rfl, h1, _, _⟩ := hO'.form Mb.cells_size
      have hby : bytesOk [255, 255, 255, 255] := .of (by decide)
      have HWg := Lib.hid (fun W B d (hb : Below wr.heap.size wr W) (hV : Bys W B [255, 255, 255, 255]) => bweigh_any A' B l.length c' 4 d l [255, 255, 255, 255] rfl (by omega) (fun m hm => (hidle m hm).2.s.eff) rfl hby W (h1.below hb (Nat.le_refl _)) hV)
      rw [selL_idle (fun m hm => (hidle m hm).1), show total [] = 0 from rfl, fit_le (by omega), told_le (by omega)] at HWg
      generalize l.length = ln at *
      have r2 := (row_below hB.out (row_lt r1)).trans r1
      have s2 := (row_below hB.out (row_lt s1)).trans s1
      have B2 := Lib.hid (Below.then hB1 hB.out)
      clear hO hO' hidle hll h1 hby HOk U1 r1 s1 hB hB1
      go_wp2_with fail
      refine (HWg.out _ _ _ ((Below.refl _ _).alloc (Nat.le_refl _) _) (bytes_new _ [255, 255, 255, 255] _ rfl)).mono ?_
      rintro e w3 ⟨rfl, hb3⟩
      have hb3' := Below.then ((Below.refl wr.heap.size wr).alloc (Nat.le_refl _) _) hb3
      have r3 := (row_below hb3' (row_lt r2)).trans r2
      have s3 := (row_below hb3' (row_lt s2)).trans s2
      have B3 := Lib.hid (Below.then B2.out hb3')
      clear r2 s2 B2 hb3 hb3' HWg
      go_wp2_with fail
      refine (HP.out _).mono ?_
      rintro e w4 ⟨rfl, hb4⟩
      have r4 := (row_below hb4 (row_lt r3)).trans r3
      have s4 := (row_below hb4 (row_lt s3)).trans s3
      have B4 := Lib.hid (Below.then B3.out hb4)
      clear r3 s3 B3 hb4 HP
      cases hps : passB P.quorum y nn a
      · clear hps
        go_wp2_with fail
        go_ret
        exact ⟨rfl, B4.out⟩
      · obtain ⟨g1, g2, g3, g4⟩ := passB_more hy hnn hps
        rw [g3] at HP1
        rw [g4] at HP2
        clear hps g3 g4
        go_upto_region 18 with fail
        go_cut [13, 14] (fun s13 s14 wx => ∃ (U : World) (g h : Nat), s13 = .pointer (some ⟨g, 0, none⟩) ∧ s14 = .pointer (some ⟨h, 0, none⟩) ∧ U = wx ∧ Below w4.heap.size w4 U ∧ row U g = some #[.int .u64 (y : Int), .int .u64 (nn : Int), .int .u64 (a : Int)] ∧ row U h = some #[.int .u64 (y : Int), .int .u64 (nn : Int), .int .u64 (a : Int)] ∧ g ≠ h ∧ w4.heap.size ≤ g ∧ w4.heap.size ≤ h)
        case first =>
          have HM : Hid (∀ w', Below w4.heap.size w4 w' → row w' (w.heap.size + 1) = some #[.int .u64 (y : Int), .int .u64 (nn : Int), .int .u64 (a : Int)]) := Lib.hid fun w' h => (row_below h (row_lt s4)).trans s4
          clear s4 r4
          go_region_held3 (fun w' => row w' (w.heap.size + 1) = some #[.int .u64 (y : Int), .int .u64 (nn : Int), .int .u64 (a : Int)]) (exact HM.out _ (by (repeat (first | exact Below.refl _ _ | assumption | (refine Below.allocT ?_ _) | refine Below.drew ?_ | refine below_drewN ?_ _ | (refine Below.then ?_ (by assumption)) | (refine Below.setRow ?_ ?_ _; rotate_left; (focus (first | exact Nat.lt_succ_self _ | ((repeat rw [World.size_alloc]); omega) | (simp; done) | (simp; omega) | omega))) | (refine Below.setCell ?_ ?_ _; rotate_left; (focus (first | exact Nat.lt_succ_self _ | ((repeat rw [World.size_alloc]); omega) | (simp; done) | (simp; omega) | omega))) | (refine Below.then' ?_ (by assumption) ?_; rotate_left; (focus (first | exact Nat.lt_succ_self _ | ((repeat rw [World.size_alloc]); omega) | (simp; done) | (simp; omega) | omega))) | fail)); (first | done | fail))) (fail)
          all_goals
            go_wp2_with fail
            go_meet
            refine ⟨_, _, _, rfl, rfl, rfl, (by (repeat (first | exact Below.refl _ _ | assumption | (refine Below.allocT ?_ _) | refine Below.drew ?_ | refine below_drewN ?_ _ | (refine Below.then ?_ (by assumption)) | (refine Below.setRow ?_ ?_ _; rotate_left; (focus (first | exact Nat.lt_succ_self _ | ((repeat rw [World.size_alloc]); omega) | (simp; done) | (simp; omega) | omega))) | (refine Below.setCell ?_ ?_ _; rotate_left; (focus (first | exact Nat.lt_succ_self _ | ((repeat rw [World.size_alloc]); omega) | (simp; done) | (simp; omega) | omega))) | (refine Below.then' ?_ (by assumption) ?_; rotate_left; (focus (first | exact Nat.lt_succ_self _ | ((repeat rw [World.size_alloc]); omega) | (simp; done) | (simp; omega) | omega))) | fail)); (first | done | fail)), ?_, ?_, by omega, by omega, by omega⟩
            all_goals go_simp
        case rest =>
          obtain ⟨U, g, h, rfl, rfl, rfl, hBU, a1, b1, hgh, hgw, hhw⟩ := hcut
          have lg : w.heap.size ≤ g := Nat.le_trans B4.out.size hgw
          have lh : w.heap.size ≤ h := Nat.le_trans B4.out.size hhw
          have r5 := (row_below hBU (row_lt r4)).trans r4
          have s5 := (row_below hBU (row_lt s4)).trans s4
          have B5 := Below.then B4.out hBU
          have hz := row_lt s4
          have E2 : IntKind.u64.wrap ((a : Int) - (a : Int) / 2) = ((a - a / 2 : Nat) : Int) := by rw [show (a : Int) - (a : Int) / 2 = ((a - a / 2 : Nat) : Int) by omega]; exact Bits.wrapN _ (by omega)
          have n1 : w.heap.size ≠ g := by omega
          have n2 : w.heap.size + 1 ≠ g := by omega
          have n3 : w.heap.size ≠ h := by omega
          have n4 : w.heap.size + 1 ≠ h := by omega
          have n5 : g ≠ w.heap.size := by omega
          have n6 : g ≠ w.heap.size + 1 := by omega
          have n7 : h ≠ w.heap.size := by omega
          have n8 : h ≠ w.heap.size + 1 := by omega
          have n9 : h ≠ g := fun e => hgh e.symm
          have ca := fun i => row_cell a1 i
          have cs := fun i => row_cell s5 i
          have cb := fun i => row_cell b1 i
          have fa := fun i => row_frozen a1 i
          have fb := fun i => row_frozen b1 i
          clear r4 s4 hBU hz B4 hgw hhw
          rw [show ((y + 1 : Nat) : Int) = (y : Int) + 1 by omega] at HP1
          have r6 : row ((U.setCell ⟨g, 0, none⟩ (.int .u64 ((y : Int) + 1))).setCell ⟨h, 2, none⟩ (.int .u64 ((a - a / 2 : Nat) : Int))) w.heap.size = some P.cells := (row_far _ _ _ _ n3).trans ((row_far _ _ _ _ n1).trans r5)
          have b6 : row ((U.setCell ⟨g, 0, none⟩ (.int .u64 ((y : Int) + 1))).setCell ⟨h, 2, none⟩ (.int .u64 ((a - a / 2 : Nat) : Int))) h = some #[.int .u64 (y : Int), .int .u64 (nn : Int), .int .u64 ((a - a / 2 : Nat) : Int)] := row_set ((row_far _ _ _ _ n9).trans b1) 2 _
          have B6 := Lib.hid (Below.setCell (Below.setCell B5 (p := ⟨g, 0, none⟩) lg (.int .u64 ((y : Int) + 1))) (p := ⟨h, 2, none⟩) lh (.int .u64 ((a - a / 2 : Nat) : Int)))
          clear lg lh r5 s5 a1 b1 B5
          go_wp2_with fail
          generalize (U.setCell ⟨g, 0, none⟩ (.int .u64 ((y : Int) + 1))).setCell ⟨h, 2, none⟩ (.int .u64 ((a - a / 2 : Nat) : Int)) = w6 at *
          refine (HP1.out _).mono ?_
          rintro e w7 ⟨rfl, hb7⟩
          have r7 := (row_below hb7 (row_lt r6)).trans r6
          have b7 := (row_below hb7 (row_lt b6)).trans b6
          have B7 := Lib.hid (Below.then B6.out hb7)
          clear hb7 r6 b6 B6 HP1
          go_wp2_with fail
          refine (HP2.out _).mono ?_
          rintro e w8 ⟨rfl, hb8⟩
          have B8 := Lib.hid (Below.then B7.out hb8)
          clear hb8
          go_wp2_with fail
          go_ret
          exact ⟨rfl, B8.out⟩
theorem ballotShrinks_any (P : Par) (y nn a : Nat) (A : Option Addr) (n c : Nat) (ms : List Mb) (hq : i64ok P.quorum) (hy : y < 18446744073709551616) (hnn : nn < 18446744073709551616) (ha : a < 18446744073709551616) (hn : ms.length = n) (hok : ∀ m ∈ ms, m.Ok) (hm : n ≤ 9223372036854775807) (w : World) (hU : SliceOf 6 Mb.cells w A ms) :
    Calls Try.prog 13 #[.agg P.cells, .agg #[.int .u64 (y : Int), .int .u64 (nn : Int), .int .u64 (a : Int)], .slice A n c] w fun e w' => e = .returned (.bool true) ∧ Below w.heap.size w w' := by
  by_cases h1 : (4611686018427387904 : Int) < (y : Int)
  · skip
    have s0 : row ((w.alloc (.cells P.cells 24)).alloc (.cells #[.int .u64 (y : Int), .int .u64 (nn : Int), .int .u64 (a : Int)] 68)) (w.heap.size + 1) = some #[.int .u64 (y : Int), .int .u64 (nn : Int), .int .u64 (a : Int)] := (by (repeat (first | assumption | (refine row_at _ _ _ _ ?_; first | rfl | (simp only [World.size_alloc]; done) | (simp only [World.size_alloc]; omega)) | (refine (row_past _ _ _ ?_).trans ?_; (focus (first | exact Nat.lt_succ_self _ | ((repeat rw [World.size_alloc]); omega) | (simp; done) | (simp; omega) | omega))) | rw [row_drewN] | rw [row_drew])); (first | done | fail))
    have hB0 : Below w.heap.size w ((w.alloc (.cells P.cells 24)).alloc (.cells #[.int .u64 (y : Int), .int .u64 (nn : Int), .int .u64 (a : Int)] 68)) := (by (repeat (first | exact Below.refl _ _ | assumption | (refine Below.allocT ?_ _) | refine Below.drew ?_ | refine below_drewN ?_ _ | (refine Below.then ?_ (by assumption)) | (refine Below.setRow ?_ ?_ _; rotate_left; (focus (first | exact Nat.lt_succ_self _ | ((repeat rw [World.size_alloc]); omega) | (simp; done) | (simp; omega) | omega))) | (refine Below.setCell ?_ ?_ _; rotate_left; (focus (first | exact Nat.lt_succ_self _ | ((repeat rw [World.size_alloc]); omega) | (simp; done) | (simp; omega) | omega))) | (refine Below.then' ?_ (by assumption) ?_; rotate_left; (focus (first | exact Nat.lt_succ_self _ | ((repeat rw [World.size_alloc]); omega) | (simp; done) | (simp; omega) | omega))) | fail)); (first | done | fail))
    clear hn hok hU hq
    go_enter Try.func13, Try.ntmps13
    go_wp2_with fail
    generalize (w.alloc (.cells P.cells 24)).alloc (.cells #[.int .u64 (y : Int), .int .u64 (nn : Int), .int .u64 (a : Int)] 68) = w0 at *
    refine (awake22_any _).mono ?_
    rintro e w1 ⟨rfl, hb1⟩
    have s1 := (row_below hb1 (row_lt s0)).trans s0
    have hB1 := Below.then hB0 hb1
    have c1 := fun i => row_cell s1 i
    clear s0 hB0 hb1
    go_wp2_with fail
    go_ret
    exact ⟨rfl, hB1⟩
  · by_cases h2 : (4611686018427387904 : Int) < (nn : Int)
    · skip
      have s0 : row ((w.alloc (.cells P.cells 24)).alloc (.cells #[.int .u64 (y : Int), .int .u64 (nn : Int), .int .u64 (a : Int)] 68)) (w.heap.size + 1) = some #[.int .u64 (y : Int), .int .u64 (nn : Int), .int .u64 (a : Int)] := (by (repeat (first | assumption | (refine row_at _ _ _ _ ?_; first | rfl | (simp only [World.size_alloc]; done) | (simp only [World.size_alloc]; omega)) | (refine (row_past _ _ _ ?_).trans ?_; (focus (first | exact Nat.lt_succ_self _ | ((repeat rw [World.size_alloc]); omega) | (simp; done) | (simp; omega) | omega))) | rw [row_drewN] | rw [row_drew])); (first | done | fail))
      have hB0 : Below w.heap.size w ((w.alloc (.cells P.cells 24)).alloc (.cells #[.int .u64 (y : Int), .int .u64 (nn : Int), .int .u64 (a : Int)] 68)) := (by (repeat (first | exact Below.refl _ _ | assumption | (refine Below.allocT ?_ _) | refine Below.drew ?_ | refine below_drewN ?_ _ | (refine Below.then ?_ (by assumption)) | (refine Below.setRow ?_ ?_ _; rotate_left; (focus (first | exact Nat.lt_succ_self _ | ((repeat rw [World.size_alloc]); omega) | (simp; done) | (simp; omega) | omega))) | (refine Below.setCell ?_ ?_ _; rotate_left; (focus (first | exact Nat.lt_succ_self _ | ((repeat rw [World.size_alloc]); omega) | (simp; done) | (simp; omega) | omega))) | (refine Below.then' ?_ (by assumption) ?_; rotate_left; (focus (first | exact Nat.lt_succ_self _ | ((repeat rw [World.size_alloc]); omega) | (simp; done) | (simp; omega) | omega))) | fail)); (first | done | fail))
      clear hn hok hU hq
      go_enter Try.func13, Try.ntmps13
      go_wp2_with fail
      generalize (w.alloc (.cells P.cells 24)).alloc (.cells #[.int .u64 (y : Int), .int .u64 (nn : Int), .int .u64 (a : Int)] 68) = w0 at *
      refine (awake22_any _).mono ?_
      rintro e w1 ⟨rfl, hb1⟩
      have s1 := (row_below hb1 (row_lt s0)).trans s0
      have hB1 := Below.then hB0 hb1
      have c1 := fun i => row_cell s1 i
      clear s0 hB0 hb1
      go_wp2_with fail
      go_ret
      exact ⟨rfl, hB1⟩
    · by_cases h3 : (100 : Int) < (n : Int)
      · skip
        have s0 : row ((w.alloc (.cells P.cells 24)).alloc (.cells #[.int .u64 (y : Int), .int .u64 (nn : Int), .int .u64 (a : Int)] 68)) (w.heap.size + 1) = some #[.int .u64 (y : Int), .int .u64 (nn : Int), .int .u64 (a : Int)] := (by (repeat (first | assumption | (refine row_at _ _ _ _ ?_; first | rfl | (simp only [World.size_alloc]; done) | (simp only [World.size_alloc]; omega)) | (refine (row_past _ _ _ ?_).trans ?_; (focus (first | exact Nat.lt_succ_self _ | ((repeat rw [World.size_alloc]); omega) | (simp; done) | (simp; omega) | omega))) | rw [row_drewN] | rw [row_drew])); (first | done | fail))
        have hB0 : Below w.heap.size w ((w.alloc (.cells P.cells 24)).alloc (.cells #[.int .u64 (y : Int), .int .u64 (nn : Int), .int .u64 (a : Int)] 68)) := (by (repeat (first | exact Below.refl _ _ | assumption | (refine Below.allocT ?_ _) | refine Below.drew ?_ | refine below_drewN ?_ _ | (refine Below.then ?_ (by assumption)) | (refine Below.setRow ?_ ?_ _; rotate_left; (focus (first | exact Nat.lt_succ_self _ | ((repeat rw [World.size_alloc]); omega) | (simp; done) | (simp; omega) | omega))) | (refine Below.setCell ?_ ?_ _; rotate_left; (focus (first | exact Nat.lt_succ_self _ | ((repeat rw [World.size_alloc]); omega) | (simp; done) | (simp; omega) | omega))) | (refine Below.then' ?_ (by assumption) ?_; rotate_left; (focus (first | exact Nat.lt_succ_self _ | ((repeat rw [World.size_alloc]); omega) | (simp; done) | (simp; omega) | omega))) | fail)); (first | done | fail))
        clear hn hok hU hq
        go_enter Try.func13, Try.ntmps13
        go_wp2_with fail
        generalize (w.alloc (.cells P.cells 24)).alloc (.cells #[.int .u64 (y : Int), .int .u64 (nn : Int), .int .u64 (a : Int)] 68) = w0 at *
        refine (awake22_any _).mono ?_
        rintro e w1 ⟨rfl, hb1⟩
        have s1 := (row_below hb1 (row_lt s0)).trans s0
        have hB1 := Below.then hB0 hb1
        have c1 := fun i => row_cell s1 i
        clear s0 hB0 hb1
        go_wp2_with fail
        go_ret
        exact ⟨rfl, hB1⟩
      · exact shrinks_few P y nn a A n c ms hq (by omega) (by omega) ha hn hok (by omega) w hU
end Go.Proofs.Ytfdjmpaikbaepaa

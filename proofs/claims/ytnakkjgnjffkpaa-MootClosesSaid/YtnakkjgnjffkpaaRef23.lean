/-
  The reference's motions: in, own.
  The reference's Vote.
  The reference's Finish.
-/
import Derived.Test.YtnakkjgnjffkpaaMoot7
import Derived.Test.YtnakkjgnjffkpaaMoot1
import Derived.Test.YtnakkjgnjffkpaaBits7
import Derived.Test.YtnakkjgnjffkpaaOwnA
namespace Go.Proofs.Ytnakkjgnjffkpaa
open Go.RowKit
set_option linter.unusedVariables false

theorem in23_any (n lo hi : Int) (w : World) : Calls Try.prog 90 #[.int .i64 n, .int .i64 lo, .int .i64 hi] w fun e w' => e = .returned (.bool (betw n lo hi)) ∧ w = w' := by
  by_cases h1 : lo ≤ n
  · by_cases h2 : n ≤ hi
    · have HV : Hid (betw n lo hi = true) := Lib.hid (decide_eq_true ⟨h1, h2⟩)
      go_enter Try.func90, Try.ntmps90
      go_wp2_with fail
      go_ret
      exact ⟨by rw [HV.out]; rfl, rfl⟩
    · have HV : Hid (betw n lo hi = false) := Lib.hid (decide_eq_false fun h => h2 h.2)
      go_enter Try.func90, Try.ntmps90
      go_wp2_with fail
      go_ret
      exact ⟨by rw [HV.out]; rfl, rfl⟩
  · have HV : Hid (betw n lo hi = false) := Lib.hid (decide_eq_false fun h => h1 h.1)
    go_enter Try.func90, Try.ntmps90
    go_wp2_with fail
    go_ret
    exact ⟨by rw [HV.out]; rfl, rfl⟩
set_option maxHeartbeats 2000000 in
set_option maxRecDepth 100000 in
/-- The reference's own list: the same cells (and the same votes' bytes) in a block of its own. -/
theorem rown_any (A : Option Addr) (n c : Nat) (l : List (Mot × MotA)) (hn : l.length = n) (hm : n ≤ 1000000) (w : World) (hA : SliceOf 33 motC w A l) : Calls Try.prog 91 #[.slice A n c] w (ClonePost 107 33 motC w A l) := by
  have HA := Lib.hid hA
  have HN := Lib.hid hn
  clear hA hn
  go_enter Try.func91, Try.ntmps91
  go_wp2_with (at_builtin; refine wpList_append_a rmots_under' rmot_info' rfl (by decide) (by decide) motC_size motC_one rfl _ _ rfl w.heap.size _ _ l _ _ _ (OwnC.nil _ _) (HA.out.below (show Below w.heap.size w _ from (by (repeat (first | exact Below.refl _ _ | assumption | (refine Below.allocT ?_ _) | refine Below.drew ?_ | refine below_drewN ?_ _ | (refine Below.then ?_ (by assumption)) | (refine Below.setRow ?_ ?_ _; rotate_left; (focus (first | exact Nat.lt_succ_self _ | ((repeat rw [World.size_alloc]); omega) | (simp; done) | (simp; omega) | omega))) | (refine Below.setCell ?_ ?_ _; rotate_left; (focus (first | exact Nat.lt_succ_self _ | ((repeat rw [World.size_alloc]); omega) | (simp; done) | (simp; omega) | omega))) | (refine Below.then' ?_ (by assumption) ?_; rotate_left; (focus (first | exact Nat.lt_succ_self _ | ((repeat rw [World.size_alloc]); omega) | (simp; done) | (simp; omega) | omega))) | fail)); (first | done | fail))) (Nat.le_refl _)) rfl rfl HN.out (by rw [HN.out]; simp; omega) (by first | exact Nat.le_refl _ | (rw [World.size_alloc]; omega)) ?_; intro v' w' hAp; have HAp := Lib.hid hAp; clear hAp)
  obtain ⟨A', c', rfl⟩ := HAp.out.form (k := l.length) (by simp)
  go_ret
  have h1 : OwnC 107 33 motC w' w.heap.size (.slice A' l.length c') l := by simpa using HAp.out.1
  refine ⟨A', c', rfl, h1, ?_, h1.cap⟩
  have hb : Below w.heap.size w w := (by (repeat (first | exact Below.refl _ _ | assumption | (refine Below.allocT ?_ _) | refine Below.drew ?_ | refine below_drewN ?_ _ | (refine Below.then ?_ (by assumption)) | (refine Below.setRow ?_ ?_ _; rotate_left; (focus (first | exact Nat.lt_succ_self _ | ((repeat rw [World.size_alloc]); omega) | (simp; done) | (simp; omega) | omega))) | (refine Below.setCell ?_ ?_ _; rotate_left; (focus (first | exact Nat.lt_succ_self _ | ((repeat rw [World.size_alloc]); omega) | (simp; done) | (simp; omega) | omega))) | (refine Below.then' ?_ (by assumption) ?_; rotate_left; (focus (first | exact Nat.lt_succ_self _ | ((repeat rw [World.size_alloc]); omega) | (simp; done) | (simp; omega) | omega))) | fail)); (first | done | fail))
  exact hb.grown HAp.out.2.1 (Nat.le_refl _) (fun k hk => by cases hk)
theorem bools_under : Try.prog.underlying 124 = some (.slice 4) := by kernel_rfl
theorem bool_info' : (Try.prog.info? 4).map (fun i => (i.zero, i.size, i.bytes)) = some (some (.bool false), 1, 1) := by kernel_rfl
theorem boolC_size (b : Bool) : (boolC b).size = 1 := rfl
theorem boolC_one (b : Bool) : allOne (boolC b) = true := by unfold allOne boolC; simp [Value.oneCell']
theorem withL_succ (bs : List Nat) (i : Int) (j : Nat) : withL bs i (j + 1) = withL bs i j ++ [decide ((j : Int) = i) || getB bs (j : Int)] := by
  unfold withL; rw [List.range_succ, List.map_append]; rfl
set_option maxRecDepth 100000 in
set_option maxHeartbeats 4000000 in
theorem with23_any (A : Option Addr) (n c k : Nat) (bs : List Nat) (hn : bs.length = n) (hm : n ≤ 100) (hb : bytesOk bs) (hk : k / 8 < n) (w : World) (hU : Bys w A bs) : Calls Try.prog 98 #[.slice A n c, .int .i64 (k : Int)] w (PackPost w (setB bs k)) := by
  have HU := Lib.hid hU
  have HN := Lib.hid hn
  have HB := Lib.hid hb
  have HK := Lib.hid hk
  have E8 : IntKind.i64.wrap (8 * (n : Int)) = 8 * (n : Int) := IntWalk.i64_in _ (by omega)
  clear hU hn hb hk
  go_enter Try.func98, Try.ntmps98
  go_wp2_with fail
  go_loopw [6, 5] (fun i v wr => ∃ (j : Nat) (u : Value), i = .int .i64 j ∧ u = v ∧ j ≤ 8 * n ∧ Hid (OwnC 4 1 boolC wr w.heap.size u (withL bs (k : Int) j) ∧ Below w.heap.size w wr)) (fun i _ _ => 8 * n - (intOf i).toNat)
  case atStart => exact ⟨0, _, rfl, rfl, by omega, Lib.hid ⟨OwnC.nil _ _, Below.refl _ _⟩⟩
  case round =>
    obtain ⟨j, u, rfl, rfl, hj, hH⟩ := hrel
    by_cases hlt : j < 8 * n
    · have z1 : (j : Int) < 8 * (n : Int) := by omega
      have E1 : IntKind.i64.wrap ((j : Int) + 1) = (j : Int) + 1 := IntWalk.i64_in _ (by omega)
      have HL : Hid ((withL bs (k : Int) j).length = j) := Lib.hid (withL_len _ _ _)
      have HT := Lib.hid (withL_succ bs (k : Int) j)
      have HJ : Hid (j ≤ 800) := Lib.hid (by omega)
      by_cases hjk : j = k
      · subst hjk
        have ek : ((j : Int) == (j : Int)) = true := beq_self_eq_true _
        have HV : Hid ((decide ((j : Int) = (j : Int)) || getB bs (j : Int)) = true) := Lib.hid (by simp)
        have O4 := Lib.hid (hH.out.1.stay ((Below.refl _ wr).alloc (Nat.le_refl _) (.cells #[.bool true] 4)))
        have HB4 := Lib.hid hH.out.2
        clear hH
        go_wp2_with (first | (refine wpList_slice1 bools_under bool_info' rfl (by omega) (by omega) rfl _ (by rfl) (boolC true) (by rfl) (boolC_size _) ?_) | (at_builtin; refine wpList_append_d bools_under bool_info' rfl (by omega) (by omega) boolC_size boolC_one rfl _ _ (by rfl) w.heap.size u (withL bs (j : Int) j) (by rfl) O4.out wr.heap.size 1 true (by rfl) (row_at _ _ _ _ rfl) j HL.out (by rw [HL.out]; have := HJ.out; omega) (by have := HB4.out.size; rw [World.size_alloc]; omega) ?_; intro A' cap w6 hO6 hg6 _; have HO6 := Lib.hid hO6; have HB6 := Lib.hid (below_grown_c (HB4.out.alloc HB4.out.size (.cells (boolC true) 4)) (Nat.le_refl _) O4.out hg6); clear hO6 hg6))
        exact ⟨⟨j + 1, _, by go_num, rfl, by omega, by rw [HT.out, HV.out]; exact Lib.hid ⟨HO6.out, HB6.out⟩⟩, by simp [intOf]; omega⟩
      · have ek : ((j : Int) == (k : Int)) = false := beq_eq_false_iff_ne.2 (by omega)
        have HV : Hid ((decide ((j : Int) = (k : Int)) || getB bs (j : Int)) = getB bs (j : Int)) := Lib.hid (by rw [decide_eq_false (by omega)]; rfl)
        have HG := Lib.hid (rget_any A n c bs (j : Int) HN.out (by omega) HB.out (by omega) wr (HU.out.below hH.out.2 (Nat.le_refl _)))
        have HO4 := Lib.hid hH.out.1
        have HB0 := Lib.hid hH.out.2
        generalize hv : getB bs (j : Int) = v at *
        clear hH hjk hv
        go_upto_region 5 with fail
        go_wp2_with (first | (go_at_call 97; refine (HG.out).mono ?_; rintro e w4 ⟨rfl, hb4⟩; have HB4 := Lib.hid (Below.then HB0.out hb4); have O4 := Lib.hid ((HO4.out.stay hb4).stay ((Below.refl _ w4).alloc (Nat.le_refl _) (.cells (boolC v) 4))); clear hb4) | (refine wpList_slice1 bools_under bool_info' rfl (by omega) (by omega) rfl _ (by rfl) (boolC v) (by rfl) (boolC_size _) ?_) | (at_builtin; refine wpList_append_d bools_under bool_info' rfl (by omega) (by omega) boolC_size boolC_one rfl _ _ (by rfl) w.heap.size u (withL bs (k : Int) j) (by rfl) O4.out w4.heap.size 1 v (by rfl) (row_at _ _ _ _ rfl) j HL.out (by rw [HL.out]; have := HJ.out; omega) (by have := HB4.out.size; rw [World.size_alloc]; omega) ?_; intro A' cap w6 hO6 hg6 _; have HO6 := Lib.hid hO6; have HB6 := Lib.hid (below_grown_c (HB4.out.alloc HB4.out.size (.cells (boolC v) 4)) (Nat.le_refl _) O4.out hg6); clear hO6 hg6))
        exact ⟨⟨j + 1, _, by go_num, rfl, by omega, by rw [HT.out, HV.out]; exact Lib.hid ⟨HO6.out, HB6.out⟩⟩, by simp [intOf]; omega⟩
    · obtain rfl : j = 8 * n := by omega
      have hO' := hH.out.1
      have hl8 : (withL bs (k : Int) (8 * n)).length = 8 * n := withL_len _ _ _
      obtain ⟨A', c', rfl, hs, _⟩ := hO'.form boolC_size
      have HPk := Lib.hid (rpack_any A' (8 * n) c' (withL bs (k : Int) (8 * n)) hl8 (by omega) wr hs)
      have hq : (8 * n + 7) / 8 = n := by omega
      have hset : packN (withL bs (k : Int) (8 * n)) n 0 = setB bs k := by
        have h := packN_with HB.out (k := k) (by rw [HN.out]; exact HK.out)
        rw [HN.out] at h; exact h
      rw [hq, hset] at HPk
      rw [hl8]
      have HBw := Lib.hid hH.out.2
      clear hH hO' hs hl8 hq hset
      have z1 : ¬ ((8 * n : Nat) : Int) < 8 * (n : Int) := by omega
      go_wp2_with (go_at_call 141; refine (HPk.out).mono ?_; rintro e w4 ⟨g4, rfl, hO4, hg4, hb4⟩)
      go_ret
      exact ⟨g4, rfl, hO4, Nat.le_trans HBw.out.size hg4, Below.then HBw.out hb4⟩
end Go.Proofs.Ytnakkjgnjffkpaa

namespace Go.Proofs.Ytnakkjgnjffkpaa
open Go.RowKit
set_option linter.unusedVariables false

theorem RetL.put {w W : World} {A : Option Addr} {T : TypeId} {B g n c : Nat} {xs : List (Mot × MotA)} {k : Nat} {x' : Mot × MotA} (hX : ML w A xs) (hO : OwnC T 33 motC W B (.slice (some ⟨g, 0, none⟩) n c) xs) (hb : Below w.heap.size w W) (hg : w.heap.size ≤ g)
    (hA : MotAt W x' ∧ ∀ j, MotB x' j → j ≠ g) (hok : x'.1.Ok) (hk : k < xs.length) :
    RetL w ((xs.map (·.1)).set k x'.1) 0 (.returned (.tuple #[.slice (some ⟨g, 0, none⟩) n c, .int .i64 0])) (W.setCells g (k * 33) (motC x').toList) := by
  have hc : Chg (fun j => j = g) W (W.setCells g (k * 33) (motC x').toList) := chg_setCells' (S := fun j => j = g) rfl _ _ _ (Chg.refl _ W)
  have hO' := hO.putAll motC_size hk x'
  obtain ⟨A', c', e, hs, _⟩ := hO'.form motC_size
  have e1 : some (⟨g, 0, none⟩ : Addr) = A' := by injection e
  subst e1
  refine ⟨_, n, c, xs.set k x', rfl, by rw [List.length_set]; exact hO.num.symm, ⟨hs, fun y hy => ?_, fun y hy => ?_⟩, by rw [List.map_set], (fun h => by cases h), hb.trans (hc.toBelow (fun j hj => by have hj' : j = g := hj; omega) hb.size)⟩
  · rcases mem_set hy with hy | rfl
    · exact ((hX.at_ y hy).stay hb).chg hc (fun j hj he => by
        have h1 := (hX.at_ y hy).lt hj
        have he' : j = g := he
        omega)
    · exact hA.1.chg hc hA.2
  · rcases mem_set hy with hy | rfl
    · exact hX.ok y hy
    · exact hok
set_option maxRecDepth 100000 in
set_option maxHeartbeats 8000000 in
theorem rvote_any (A : Option Addr) (n c : Nat) (xs : List (Mot × MotA)) (i mem : Int) (yes : Bool) (hn : xs.length = n) (hm : n ≤ 1000) (hmem : i64ok mem) (w : World) (hX : ML w A xs) (hf : ∀ x ∈ xs, x.1.yes.length ≤ 100 ∧ x.1.no.length ≤ 100) :
    Calls Try.prog 40 #[.slice A n c, .int .i64 i, .int .i64 mem, .bool yes] w (RetL w (voteL (xs.map (·.1)) i mem yes).1 (voteL (xs.map (·.1)) i mem yes).2) := by
  by_cases h0 : i < 0
  case pos =>
    have hv : voteL (xs.map (·.1)) i mem yes = ([], 230) := by unfold voteL; rw [atL_no (by omega)]
    have HV := Lib.hid hv
    clear hX hf hn hv
    go_enter Try.func40, Try.ntmps40
    go_wp2_with fail
    go_ret2
    rw [HV.out]
    exact RetL.no (Below.refl _ _)
  case neg =>
  by_cases h1 : (n : Int) ≤ i
  case pos =>
    have hv : voteL (xs.map (·.1)) i mem yes = ([], 230) := by unfold voteL; rw [atL_no (by rw [List.length_map, hn]; omega)]
    have HV := Lib.hid hv
    clear hX hf hn hv
    go_enter Try.func40, Try.ntmps40
    go_wp2_with fail
    go_ret2
    rw [HV.out]
    exact RetL.no (Below.refl _ _)
  case neg =>
  obtain ⟨k, rfl⟩ := Int.eq_ofNat_of_zero_le (show 0 ≤ i by omega)
  obtain ⟨⟨m, a⟩, hx⟩ : ∃ x, xs[k]? = some x := ⟨_, List.getElem?_eq_getElem (by omega)⟩
  have hV : voteL (xs.map (·.1)) (k : Int) mem yes = if voteE m mem = 0 then ((xs.map (·.1)).set k (voteM m mem yes), 0) else ([], voteE m mem) := by unfold voteL; rw [atL_yes hx, Int.toNat_natCast]
  obtain ⟨b, off, rfl, hbb, hcell⟩ := hX.sl (by omega)
  have hr := hcell k _ hx
  have hi : (Try.prog.info? 107).map (·.size) = some (motC (m, a)).toList.length := by rw [rmot_info]; rfl
  have hf0 := hf _ (List.mem_of_getElem? hx)
  have hA0 := hX.at_ _ (List.mem_of_getElem? hx)
  have hOk := hX.ok _ (List.mem_of_getElem? hx)
  have HX := Lib.hid hX
  have HN := Lib.hid hn
  have HXk := Lib.hid hx
  have HV := Lib.hid hV
  have HA0 := Lib.hid hA0
  have HOk := Lib.hid hOk
  have hfy : m.yes.length ≤ 100 := hf0.1
  have hfn : m.no.length ≤ 100 := hf0.2
  have z1 : (0 : Int) ≤ (k : Int) := by omega
  have z2 : (k : Int) < (n : Int) := by omega
  have HW := Lib.hid (fun W => in23_any mem 0 127 W)
  have hz := motC_one (m, a)
  clear hX hf hf0 hA0 hOk hcell hx hV hn
  go_enter Try.func40, Try.ntmps40
  go_upto_region 4 with (refine wpList_load_mid rfl 107 _ (by rfl) b (off + k * 33) (by rfl) (motC (m, a)).toList _ hr rmot_under rfl hi ?_)
  refine of_world (fun W => Below w.heap.size w W ∧ row W w.heap.size = some (motC (m, a))) ⟨(by (repeat (first | exact Below.refl _ _ | assumption | (refine Below.allocT ?_ _) | refine Below.drew ?_ | refine below_drewN ?_ _ | (refine Below.then ?_ (by assumption)) | (refine Below.setRow ?_ ?_ _; rotate_left; (focus (first | exact Nat.lt_succ_self _ | ((repeat rw [World.size_alloc]); omega) | (simp; done) | (simp; omega) | omega))) | (refine Below.setCell ?_ ?_ _; rotate_left; (focus (first | exact Nat.lt_succ_self _ | ((repeat rw [World.size_alloc]); omega) | (simp; done) | (simp; omega) | omega))) | (refine Below.then' ?_ (by assumption) ?_; rotate_left; (focus (first | exact Nat.lt_succ_self _ | ((repeat rw [World.size_alloc]); omega) | (simp; done) | (simp; omega) | omega))) | fail)); (first | done | fail)), by first | exact row_at _ _ _ _ rfl | (rw [row_setRow_if, if_pos rfl, row_at _ _ _ _ rfl]; rfl)⟩ ?_
  rintro w1 ⟨hb1, r1⟩
  have HB1 := Lib.hid hb1
  have HYb := Lib.hid (HA0.out.yes.below hb1 (Nat.le_refl _))
  have HNb := Lib.hid (HA0.out.no.below hb1 (Nat.le_refl _))
  have cS : w1.cell? ⟨w.heap.size, 30, none⟩ = some (.int .i64 m.state) := row_cell r1 30
  clear hr hi hz hb1
  by_cases hs : m.state = 1
  case neg =>
    have e1 : (m.state != 1) = true := bne_iff_ne.2 hs
    have hE : voteE m mem = 232 := by unfold voteE; rw [if_neg hs]
    have HE : Hid (voteL (xs.map (·.1)) (k : Int) mem yes = ([], 232)) := Lib.hid (by rw [HV.out, hE]; rfl)
    clear hE hs HV
    go_wp2_with fail
    go_ret2
    rw [HE.out]
    exact RetL.no HB1.out
  case pos =>
  have e1 : (m.state != 1) = false := bne_eq_false_iff_eq.2 hs
  have HSt := Lib.hid hs
  clear hs
  have k8 : w1.cell? ⟨w.heap.size, 31, none⟩ = some (.slice a.a1 m.yes.length a.c1) := row_cell r1 31
  have k9 : w1.cell? ⟨w.heap.size, 32, none⟩ = some (.slice a.a2 m.no.length a.c2) := row_cell r1 32
  by_cases hg : betw mem 0 127 = true ∧ mem / 8 < (m.yes.length : Int) ∧ mem / 8 < (m.no.length : Int)
  case neg =>
    have hE : voteE m mem = 2 := by
      unfold voteE; rw [if_pos HSt.out, if_neg]
      intro h
      simp only [Bool.and_eq_true] at h
      exact hg ⟨h.1, (of_decide_eq_true h.2.1).2, (of_decide_eq_true h.2.2).2⟩
    have HE : Hid (voteL (xs.map (·.1)) (k : Int) mem yes = ([], 2)) := Lib.hid (by rw [HV.out, hE]; rfl)
    clear hE HV
    cases hbt : betw mem 0 127
    · rw [hbt] at HW
      clear hg hbt
      go_wp2_with (go_at_call 90; refine (HW.out _).mono ?_; rintro e w2 ⟨rfl, rfl⟩)
      go_ret2
      rw [HE.out]
      exact RetL.no HB1.out
    · rw [hbt] at HW
      have hbd := of_decide_eq_true hbt
      have zr : (0 : Int) ≤ mem := hbd.1
      have zr2 : mem ≤ 127 := hbd.2
      have z8 : (0 : Int) ≤ mem / 8 := by omega
      have e8 : IntKind.i64.wrap (mem / 8) = mem / 8 := IntWalk.i64_in _ (by omega)
      by_cases h8 : mem / 8 < (m.yes.length : Int)
      · have h9 : (m.no.length : Int) ≤ mem / 8 := by
          by_cases h : mem / 8 < (m.no.length : Int)
          · exact absurd ⟨hbt, h8, h⟩ hg
          · omega
        clear hg hbt
        go_wp2_with (go_at_call 90; refine (HW.out _).mono ?_; rintro e w2 ⟨rfl, rfl⟩)
        go_ret2
        rw [HE.out]
        exact RetL.no HB1.out
      · have h8' : (m.yes.length : Int) ≤ mem / 8 := by omega
        clear hg hbt h8
        go_wp2_with (go_at_call 90; refine (HW.out _).mono ?_; rintro e w2 ⟨rfl, rfl⟩)
        go_ret2
        rw [HE.out]
        exact RetL.no HB1.out
  case pos =>
  obtain ⟨hbt, h8, h9⟩ := hg
  rw [hbt] at HW
  have hbd := of_decide_eq_true hbt
  obtain ⟨r, rfl⟩ := Int.eq_ofNat_of_zero_le hbd.1
  have zr : (0 : Int) ≤ (r : Int) := hbd.1
  have zr2 : (r : Int) ≤ 127 := hbd.2
  have z8 : (0 : Int) ≤ (r : Int) / 8 := by omega
  have e8 : IntKind.i64.wrap ((r : Int) / 8) = (r : Int) / 8 := IntWalk.i64_in _ (by omega)
  have HOy : Hid (okB m.yes.length (r : Int) = true) := Lib.hid (decide_eq_true ⟨hbd.1, h8⟩)
  have HOn : Hid (okB m.no.length (r : Int) = true) := Lib.hid (decide_eq_true ⟨hbd.1, h9⟩)
  have HGy := Lib.hid (fun W (h : Below w1.heap.size w1 W) => rget_any a.a1 m.yes.length a.c1 m.yes (r : Int) rfl (by omega) HOk.out.yes.1 (by omega) W (HYb.out.below h (Nat.le_refl _)))
  have HGn := Lib.hid (fun W (h : Below w1.heap.size w1 W) => rget_any a.a2 m.no.length a.c2 m.no (r : Int) rfl (by omega) HOk.out.no.1 (by omega) W (HNb.out.below h (Nat.le_refl _)))
  have hEq : voteE m (r : Int) = if getB m.yes (r : Int) || getB m.no (r : Int) then 231 else 0 := by
    unfold voteE; rw [if_pos HSt.out, hbt, HOy.out, HOn.out]; rfl
  have HEq := Lib.hid hEq
  have HWy := Lib.hid (fun W (h : Below w1.heap.size w1 W) => with23_any a.a1 m.yes.length a.c1 r m.yes rfl hfy HOk.out.yes.1 (by omega) W (HYb.out.below h (Nat.le_refl _)))
  have HWn := Lib.hid (fun W (h : Below w1.heap.size w1 W) => with23_any a.a2 m.no.length a.c2 r m.no rfl hfn HOk.out.no.1 (by omega) W (HNb.out.below h (Nat.le_refl _)))
  clear hbt hbd hEq
  cases hgy : getB m.yes (r : Int)
  case true =>
    have HE : Hid (voteL (xs.map (·.1)) (k : Int) (r : Int) yes = ([], 231)) := Lib.hid (by rw [HV.out, HEq.out, hgy]; rfl)
    rw [hgy] at HGy
    clear hgy HV HEq HWy HWn
    go_wp2_with (first | (go_at_call 90; refine (HW.out _).mono ?_; rintro e w2 ⟨rfl, rfl⟩) | (go_at_call 97; refine (HGy.out _ (Below.refl _ _)).mono ?_; rintro e w2 ⟨rfl, hb2⟩))
    go_ret2
    rw [HE.out]
    exact RetL.no (Below.then HB1.out hb2)
  case false =>
  rw [hgy] at HGy
  cases hgn : getB m.no (r : Int)
  case true =>
    have HE : Hid (voteL (xs.map (·.1)) (k : Int) (r : Int) yes = ([], 231)) := Lib.hid (by rw [HV.out, HEq.out, hgy, hgn]; rfl)
    rw [hgn] at HGn
    clear hgy hgn HV HEq HWy HWn
    go_upto_region 8 with (go_at_call 90; refine (HW.out _).mono ?_; rintro e w2 ⟨rfl, rfl⟩)
    go_wp2_with fail
    refine (HGy.out _ (Below.refl _ _)).mono ?_
    rintro e w2 ⟨rfl, hb2⟩
    have k9' : w2.cell? ⟨w.heap.size, 32, none⟩ = some (.slice a.a2 m.no.length a.c2) := row_cell (below_row' hb2 r1) 32
    go_wp2_with fail
    refine (HGn.out _ hb2).mono ?_
    rintro e w3 ⟨rfl, hb3⟩
    go_wp2_with fail
    go_ret2
    rw [HE.out]
    exact RetL.no (Below.then HB1.out (Below.then hb2 hb3))
  case false =>
  have HE : Hid (voteL (xs.map (·.1)) (k : Int) (r : Int) yes = ((xs.map (·.1)).set k (voteM m (r : Int) yes), 0)) := Lib.hid (by rw [HV.out, HEq.out, hgy, hgn]; rfl)
  rw [hgn] at HGn
  clear hgy hgn HV HEq
  go_upto_region 8 with (go_at_call 90; refine (HW.out _).mono ?_; rintro e w2 ⟨rfl, rfl⟩)
  go_wp2_with fail
  refine (HGy.out _ (Below.refl _ _)).mono ?_
  rintro e w2 ⟨rfl, hb2⟩
  have k9' : w2.cell? ⟨w.heap.size, 32, none⟩ = some (.slice a.a2 m.no.length a.c2) := row_cell (below_row' hb2 r1) 32
  go_wp2_with fail
  refine (HGn.out _ hb2).mono ?_
  rintro e w3 ⟨rfl, hb3⟩
  have hb13 : Below w1.heap.size w1 w3 := Below.then hb2 hb3
  have r3 := below_row' hb13 r1
  have HB3 := Lib.hid hb13
  have kk8 : w3.cell? ⟨w.heap.size, 31, none⟩ = some (.slice a.a1 m.yes.length a.c1) := row_cell r3 31
  have kk9 : w3.cell? ⟨w.heap.size, 32, none⟩ = some (.slice a.a2 m.no.length a.c2) := row_cell r3 32
  clear hb2 hb3 k8 k9 k9' cS HGy HGn hb13
  have HX3 := Lib.hid (HX.out.stay (Below.then HB1.out HB3.out))
  cases yes
  case true =>
    go_wp2_with fail
    refine (HWy.out _ HB3.out).mono ?_
    rintro e w4 ⟨g4, rfl, hO4, hg4, hb4⟩
    have r4 := below_row' hb4 r3
    have kk4 : w4.cell? ⟨w.heap.size, 31, none⟩ = some (.slice a.a1 m.yes.length a.c1) := row_cell r4 31
    have ff4 := row_frozen r4 31
    clear kk8 kk9
    go_upto_region 13 with fail
    have hBw4 : Below w.heap.size w w4 := Below.then HB1.out (Below.then HB3.out hb4)
    have hg4' : w.heap.size < g4 := Nat.lt_of_lt_of_le (row_lt r3) hg4
    refine of_world (fun W => Below w.heap.size w W ∧ row W w.heap.size = some (motC (voteM m (r : Int) true, ⟨some ⟨g4, 0, none⟩, (setB m.yes r).length, a.a2, a.c2⟩)) ∧ OwnB W (.slice (some ⟨g4, 0, none⟩) (setB m.yes r).length (setB m.yes r).length) (setB m.yes r)) ⟨Below.setCell hBw4 (p := ⟨w.heap.size, 31, none⟩) (Nat.le_refl _) _, ?_, ?_⟩ ?_
    · rw [row_set r4 31 _]; rfl
    · exact hO4.chg ((Chg.refl (fun j => j = w.heap.size) w4).setCell (p := ⟨w.heap.size, 31, none⟩) (.inl rfl) _) (fun j hj he => by
        have h1 : g4 = j := Option.some.inj hj
        have h2 : j = w.heap.size := he
        omega)
    rintro w5 ⟨hb5, r5, hO5⟩
    have hkx : k < xs.length := by rw [HN.out]; omega
    have HOwn := Lib.hid (rown_any (some ⟨b, off, none⟩) n c xs HN.out (by omega) w5 (HX.out.stay hb5).sl)
    have HB5 := Lib.hid hb5
    have HO5 := Lib.hid hO5
    have HKx := Lib.hid hkx
    clear kk4 ff4 r4 hBw4 hO4 hg4 hb4 hb5 hO5 hkx
    go_upto_region 14 with (go_at_call 91; refine (HOwn.out).mono ?_; rintro e w6 ⟨A6, c6, rfl, hO6, hb6, _⟩)
    rw [HN.out] at hO6 ⊢
    obtain ⟨g6, rfl⟩ : ∃ g6, A6 = some ⟨g6, 0, none⟩ := by
      rcases hO6.2 with ⟨_, h2⟩ | ⟨g', cap', cur, h1, _⟩
      · have := HKx.out; omega
      · cases h1; exact ⟨_, rfl⟩
    have r6 := below_row' hb6 r5
    have hth : w6.there g6 (k * 33) 33 := fun j hj => by
      refine ⟨?_, hO6.free _⟩
      have hv := Array.getElem?_eq_getElem (xs := motC (m, a)) (i := j) (by rw [motC_size]; exact hj)
      rw [hO6.cellAt motC_size HXk.out hv]
      rfl
    have hlt4 : g4 < w5.heap.size := HO5.out.lt _ rfl
    have hg6 := hO6.inBlock.1
    have HFin : Hid (RetL w ((xs.map (·.1)).set k (voteM m (r : Int) true)) 0 (.returned (.tuple #[.slice (some ⟨g6, 0, none⟩) n c6, .int .i64 0])) (w6.setCells g6 (k * 33) (motC (voteM m (r : Int) true, ⟨some ⟨g4, 0, none⟩, (setB m.yes r).length, a.a2, a.c2⟩)).toList)) := Lib.hid (RetL.put (x' := (voteM m (r : Int) true, ⟨some ⟨g4, 0, none⟩, (setB m.yes r).length, a.a2, a.c2⟩)) HX.out hO6 (Below.then HB5.out hb6) (by have := HB5.out.size; omega)
      ⟨⟨bys_ownM (OwnB.stay HO5.out hb6), HA0.out.no.below (Below.then HB5.out hb6) (Nat.le_refl _), (fun h => by cases h), HA0.out.n2⟩, fun j hj => by
        rcases hj with ⟨_, y, hy, rfl⟩ | ⟨hne, y, hy, rfl⟩
        · have : y = ⟨g4, 0, none⟩ := (Option.some.inj hy).symm
          subst this; exact Nat.ne_of_lt (Nat.lt_of_lt_of_le hlt4 hg6)
        · have h1 := HA0.out.no.lt (List.length_pos_iff.2 hne) y hy
          have h2 := HB5.out.size
          omega⟩ (show (voteM m (r : Int) true).Ok from voteM_ok (m := m) HOk.out (r : Int) true) HKx.out)
    clear hO6 hb6 hlt4 hg6 r5 HOwn
    go_wp2_with (refine wpList_store_mid rfl 107 _ _ (by rfl) g6 (k * 33) (motC (voteM m (r : Int) true, ⟨some ⟨g4, 0, none⟩, (setB m.yes r).length, a.a2, a.c2⟩)) (by rfl) (by rfl) hth rmot_info (motC_one _) ?_)
    go_ret2
    rw [HE.out]
    exact HFin.out
  case false =>
    go_wp2_with fail
    refine (HWn.out _ HB3.out).mono ?_
    rintro e w4 ⟨g4, rfl, hO4, hg4, hb4⟩
    have r4 := below_row' hb4 r3
    have kk4 : w4.cell? ⟨w.heap.size, 32, none⟩ = some (.slice a.a2 m.no.length a.c2) := row_cell r4 32
    have ff4 := row_frozen r4 32
    clear kk8 kk9
    go_upto_region 13 with fail
    have hBw4 : Below w.heap.size w w4 := Below.then HB1.out (Below.then HB3.out hb4)
    have hg4' : w.heap.size < g4 := Nat.lt_of_lt_of_le (row_lt r3) hg4
    refine of_world (fun W => Below w.heap.size w W ∧ row W w.heap.size = some (motC (voteM m (r : Int) false, ⟨a.a1, a.c1, some ⟨g4, 0, none⟩, (setB m.no r).length⟩)) ∧ OwnB W (.slice (some ⟨g4, 0, none⟩) (setB m.no r).length (setB m.no r).length) (setB m.no r)) ⟨Below.setCell hBw4 (p := ⟨w.heap.size, 32, none⟩) (Nat.le_refl _) _, ?_, ?_⟩ ?_
    · rw [row_set r4 32 _]; rfl
    · exact hO4.chg ((Chg.refl (fun j => j = w.heap.size) w4).setCell (p := ⟨w.heap.size, 32, none⟩) (.inl rfl) _) (fun j hj he => by
        have h1 : g4 = j := Option.some.inj hj
        have h2 : j = w.heap.size := he
        omega)
    rintro w5 ⟨hb5, r5, hO5⟩
    have hkx : k < xs.length := by rw [HN.out]; omega
    have HOwn := Lib.hid (rown_any (some ⟨b, off, none⟩) n c xs HN.out (by omega) w5 (HX.out.stay hb5).sl)
    have HB5 := Lib.hid hb5
    have HO5 := Lib.hid hO5
    have HKx := Lib.hid hkx
    clear kk4 ff4 r4 hBw4 hO4 hg4 hb4 hb5 hO5 hkx
    go_upto_region 14 with (go_at_call 91; refine (HOwn.out).mono ?_; rintro e w6 ⟨A6, c6, rfl, hO6, hb6, _⟩)
    rw [HN.out] at hO6 ⊢
    obtain ⟨g6, rfl⟩ : ∃ g6, A6 = some ⟨g6, 0, none⟩ := by
      rcases hO6.2 with ⟨_, h2⟩ | ⟨g', cap', cur, h1, _⟩
      · have := HKx.out; omega
      · cases h1; exact ⟨_, rfl⟩
    have r6 := below_row' hb6 r5
    have hth : w6.there g6 (k * 33) 33 := fun j hj => by
      refine ⟨?_, hO6.free _⟩
      have hv := Array.getElem?_eq_getElem (xs := motC (m, a)) (i := j) (by rw [motC_size]; exact hj)
      rw [hO6.cellAt motC_size HXk.out hv]
      rfl
    have hlt4 : g4 < w5.heap.size := HO5.out.lt _ rfl
    have hg6 := hO6.inBlock.1
    have HFin : Hid (RetL w ((xs.map (·.1)).set k (voteM m (r : Int) false)) 0 (.returned (.tuple #[.slice (some ⟨g6, 0, none⟩) n c6, .int .i64 0])) (w6.setCells g6 (k * 33) (motC (voteM m (r : Int) false, ⟨a.a1, a.c1, some ⟨g4, 0, none⟩, (setB m.no r).length⟩)).toList)) := Lib.hid (RetL.put (x' := (voteM m (r : Int) false, ⟨a.a1, a.c1, some ⟨g4, 0, none⟩, (setB m.no r).length⟩)) HX.out hO6 (Below.then HB5.out hb6) (by have := HB5.out.size; omega)
      ⟨⟨HA0.out.yes.below (Below.then HB5.out hb6) (Nat.le_refl _), bys_ownM (OwnB.stay HO5.out hb6), HA0.out.n1, (fun h => by cases h)⟩, fun j hj => by
        rcases hj with ⟨hne, y, hy, rfl⟩ | ⟨_, y, hy, rfl⟩
        · have h1 := HA0.out.yes.lt (List.length_pos_iff.2 hne) y hy
          have h2 := HB5.out.size
          omega
        · have : y = ⟨g4, 0, none⟩ := (Option.some.inj hy).symm
          subst this; exact Nat.ne_of_lt (Nat.lt_of_lt_of_le hlt4 hg6)⟩ (show (voteM m (r : Int) false).Ok from voteM_ok (m := m) HOk.out (r : Int) false) HKx.out)
    clear hO6 hb6 hlt4 hg6 r5 HOwn
    go_wp2_with (refine wpList_store_mid rfl 107 _ _ (by rfl) g6 (k * 33) (motC (voteM m (r : Int) false, ⟨a.a1, a.c1, some ⟨g4, 0, none⟩, (setB m.no r).length⟩)) (by rfl) (by rfl) hth rmot_info (motC_one _) ?_)
    go_ret2
    rw [HE.out]
    exact HFin.out
end Go.Proofs.Ytnakkjgnjffkpaa

namespace Go.Proofs.Ytnakkjgnjffkpaa
open Go.RowKit
set_option linter.unusedVariables false

set_option maxRecDepth 100000 in
set_option maxHeartbeats 8000000 in
theorem rfinish_any (A : Option Addr) (n c : Nat) (xs : List (Mot × MotA)) (i : Int) (done : Bool) (hn : xs.length = n) (hm : n ≤ 1000) (w : World) (hX : ML w A xs) :
    Calls Try.prog 48 #[.slice A n c, .int .i64 i, .bool done] w (RetL w (finL (xs.map (·.1)) i done).1 (finL (xs.map (·.1)) i done).2) := by
  by_cases h0 : i < 0
  case pos =>
    have hv : finL (xs.map (·.1)) i done = ([], 230) := by unfold finL; rw [atL_no (by omega)]
    have HV := Lib.hid hv
    clear hX hn hv
    go_enter Try.func48, Try.ntmps48
    go_wp2_with fail
    go_ret2
    rw [HV.out]
    exact RetL.no (Below.refl _ _)
  case neg =>
  by_cases h1 : (n : Int) ≤ i
  case pos =>
    have hv : finL (xs.map (·.1)) i done = ([], 230) := by unfold finL; rw [atL_no (by rw [List.length_map, hn]; omega)]
    have HV := Lib.hid hv
    clear hX hn hv
    go_enter Try.func48, Try.ntmps48
    go_wp2_with fail
    go_ret2
    rw [HV.out]
    exact RetL.no (Below.refl _ _)
  case neg =>
  obtain ⟨k, rfl⟩ := Int.eq_ofNat_of_zero_le (show 0 ≤ i by omega)
  obtain ⟨⟨m, a⟩, hx⟩ : ∃ x, xs[k]? = some x := ⟨_, List.getElem?_eq_getElem (by omega)⟩
  have hV : finL (xs.map (·.1)) (k : Int) done = if finE m = 0 then ((xs.map (·.1)).set k (finM m done), 0) else ([], finE m) := by unfold finL; rw [atL_yes hx, Int.toNat_natCast]
  obtain ⟨b, off, rfl, hbb, hcell⟩ := hX.sl (by omega)
  have hr := hcell k _ hx
  have hi : (Try.prog.info? 107).map (·.size) = some (motC (m, a)).toList.length := by rw [rmot_info]; rfl
  have cS : w.cell? ⟨b, off + k * 33 + 30, none⟩ = some (.int .i64 m.state) := hr 30 _ (by rw [Array.getElem?_toList]; exact motC_at30 _)
  have hA0 := hX.at_ _ (List.mem_of_getElem? hx)
  have hOk := hX.ok _ (List.mem_of_getElem? hx)
  have HX := Lib.hid hX
  have HN := Lib.hid hn
  have HXk := Lib.hid hx
  have HV := Lib.hid hV
  have HA0 := Lib.hid hA0
  have HOk := Lib.hid hOk
  have z1 : (0 : Int) ≤ (k : Int) := by omega
  have z2 : (k : Int) < (n : Int) := by omega
  have hz := motC_one (m, a)
  clear hX hA0 hOk hcell hx hV hn
  by_cases hs : m.state = 2
  case neg =>
    have e1 : (m.state != 2) = true := bne_iff_ne.2 hs
    have hE : finE m = 291 := by unfold finE; rw [if_neg hs]
    have HE : Hid (finL (xs.map (·.1)) (k : Int) done = ([], 291)) := Lib.hid (by rw [HV.out, hE]; rfl)
    clear hE hs HV hr hi
    go_enter Try.func48, Try.ntmps48
    go_wp2_with fail
    go_ret2
    rw [HE.out]
    exact RetL.no (Below.refl _ _)
  case pos =>
  have e1 : (m.state != 2) = false := bne_eq_false_iff_eq.2 hs
  have hE : finE m = 0 := by unfold finE; rw [if_pos hs]
  have HE : Hid (finL (xs.map (·.1)) (k : Int) done = ((xs.map (·.1)).set k (finM m done), 0)) := Lib.hid (by rw [HV.out, hE]; rfl)
  have HOwn := Lib.hid (rown_any (some ⟨b, off, none⟩) n c xs HN.out (by omega) w HX.out.sl)
  clear hE hs HV
  go_enter Try.func48, Try.ntmps48
  go_upto_region 6 with (go_at_call 91; refine (HOwn.out).mono ?_; rintro e w1 ⟨A6, c6, rfl, hO6, hb1, _⟩)
  rw [HN.out] at hO6 ⊢
  obtain ⟨g6, rfl⟩ : ∃ g6, A6 = some ⟨g6, 0, none⟩ := by
    rcases hO6.2 with ⟨_, h2⟩ | ⟨g', cap', cur, h1, _⟩
    · have := HN.out; omega
    · cases h1; exact ⟨_, rfl⟩
  have hr1 := range_below hr hb1 hbb
  have HO6 := Lib.hid hO6
  have HB1 := Lib.hid hb1
  clear hr cS hO6 hb1
  go_upto_region 7 with (refine wpList_load_mid rfl 107 _ (by rfl) b (off + k * 33) (by rfl) (motC (m, a)).toList _ hr1 rmot_under rfl hi ?_)
  refine of_world (fun W => Below w1.heap.size w1 W ∧ row W w1.heap.size = some (motC (m, a))) ⟨(by (repeat (first | exact Below.refl _ _ | assumption | (refine Below.allocT ?_ _) | refine Below.drew ?_ | refine below_drewN ?_ _ | (refine Below.then ?_ (by assumption)) | (refine Below.setRow ?_ ?_ _; rotate_left; (focus (first | exact Nat.lt_succ_self _ | ((repeat rw [World.size_alloc]); omega) | (simp; done) | (simp; omega) | omega))) | (refine Below.setCell ?_ ?_ _; rotate_left; (focus (first | exact Nat.lt_succ_self _ | ((repeat rw [World.size_alloc]); omega) | (simp; done) | (simp; omega) | omega))) | (refine Below.then' ?_ (by assumption) ?_; rotate_left; (focus (first | exact Nat.lt_succ_self _ | ((repeat rw [World.size_alloc]); omega) | (simp; done) | (simp; omega) | omega))) | fail)); (first | done | fail)), by first | exact row_at _ _ _ _ rfl | (rw [row_setRow_if, if_pos rfl, row_at _ _ _ _ rfl]; rfl)⟩ ?_
  rintro w2 ⟨hb2, r2⟩
  have hB2 : Below w.heap.size w w2 := Below.then HB1.out hb2
  have HO2 := Lib.hid (HO6.out.stay hb2)
  have hg1 : g6 < w1.heap.size := HO6.out.inBlock.2
  have kk := row_cell r2 30
  rw [motC_at30] at kk
  have ff := row_frozen r2 30
  have hw1 : w.heap.size ≤ w1.heap.size := HB1.out.size
  have hkx : k < xs.length := by rw [HN.out]; omega
  have HFin : Hid (∀ W, Below w.heap.size w W → row W w1.heap.size = some (motC (finM m done, a)) → OwnC 107 33 motC W w.heap.size (.slice (some ⟨g6, 0, none⟩) n c6) xs → RetL w ((xs.map (·.1)).set k (finM m done)) 0 (.returned (.tuple #[.slice (some ⟨g6, 0, none⟩) n c6, .int .i64 0])) (W.setCells g6 (k * 33) (motC (finM m done, a)).toList)) := Lib.hid fun W h1 h2 h3 => by
    have hg := h3.inBlock.1
    have hAW := HA0.out.stay h1
    exact RetL.put (x' := (finM m done, a)) HX.out h3 h1 hg ⟨⟨hAW.yes, hAW.no, hAW.n1, hAW.n2⟩, fun j hj => by
      have h4 := HA0.out.lt (k := j) (by rcases hj with ⟨q1, q2⟩ | ⟨q1, q2⟩; exact .inl ⟨q1, q2⟩; exact .inr ⟨q1, q2⟩)
      omega⟩ (show (finM m done).Ok from state_ok HOk.out (by unfold i64ok; cases done <;> simp)) hkx
  have HS : Hid (∀ u W, OwnC 107 33 motC W w.heap.size (.slice (some ⟨g6, 0, none⟩) n c6) xs → OwnC 107 33 motC (W.setCell ⟨w1.heap.size, 30, none⟩ u) w.heap.size (.slice (some ⟨g6, 0, none⟩) n c6) xs) := Lib.hid fun u W h => h.chg ((Chg.refl (fun j => j = w1.heap.size) W).setCell (p := ⟨w1.heap.size, 30, none⟩) (.inl rfl) u) (fun j hj he => by
    have h1 : g6 = j := Option.some.inj hj
    have h2 : j = w1.heap.size := he
    omega)
  have HTh : Hid (∀ W, OwnC 107 33 motC W w.heap.size (.slice (some ⟨g6, 0, none⟩) n c6) xs → W.there g6 (k * 33) 33) := Lib.hid fun W h j hj => by
    refine ⟨?_, h.free _⟩
    have hv := Array.getElem?_eq_getElem (xs := motC (m, a)) (i := j) (by rw [motC_size]; exact hj)
    rw [h.cellAt motC_size HXk.out hv]
    rfl
  clear hb2 hg1 hkx hr1 hi hz HOwn HO6
  cases done
  · go_upto_region 10 with fail
    refine of_world (fun W => Below w.heap.size w W ∧ row W w1.heap.size = some (motC (finM m false, a)) ∧ OwnC 107 33 motC W w.heap.size (.slice (some ⟨g6, 0, none⟩) n c6) xs) ⟨Below.setCell hB2 (p := ⟨w1.heap.size, 30, none⟩) hw1 _, by rw [row_set r2 30 _]; rfl, HS.out _ _ HO2.out⟩ ?_
    rintro w5 ⟨hb5, r5, hO5⟩
    have hth := HTh.out w5 hO5
    have HEnd := Lib.hid (HFin.out w5 hb5 r5 hO5)
    clear hb5 hO5 kk ff r2 hB2
    go_wp2_with (refine wpList_store_mid rfl 107 _ _ (by rfl) g6 (k * 33) (motC (finM m false, a)) (by rfl) (by rfl) hth rmot_info (motC_one _) ?_)
    go_ret2
    rw [HE.out]
    exact HEnd.out
  · go_upto_region 10 with fail
    refine of_world (fun W => Below w.heap.size w W ∧ row W w1.heap.size = some (motC (finM m true, a)) ∧ OwnC 107 33 motC W w.heap.size (.slice (some ⟨g6, 0, none⟩) n c6) xs) ⟨Below.setCell (Below.setCell hB2 (p := ⟨w1.heap.size, 30, none⟩) hw1 _) (p := ⟨w1.heap.size, 30, none⟩) hw1 _, by rw [row_set (row_set r2 30 _) 30 _]; rfl, HS.out _ _ (HS.out _ _ HO2.out)⟩ ?_
    rintro w5 ⟨hb5, r5, hO5⟩
    have hth := HTh.out w5 hO5
    have HEnd := Lib.hid (HFin.out w5 hb5 r5 hO5)
    clear hb5 hO5 kk ff r2 hB2
    go_wp2_with (refine wpList_store_mid rfl 107 _ _ (by rfl) g6 (k * 33) (motC (finM m true, a)) (by rfl) (by rfl) hth rmot_info (motC_one _) ?_)
    go_ret2
    rw [HE.out]
    exact HEnd.out
end Go.Proofs.Ytnakkjgnjffkpaa

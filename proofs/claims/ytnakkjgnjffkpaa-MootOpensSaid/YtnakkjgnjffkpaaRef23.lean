/-
  The reference's motions: in, own.
-/
import Derived.Test.YtnakkjgnjffkpaaMoot8
import Derived.Test.YtnakkjgnjffkpaaMoot2
import Derived.Test.YtnakkjgnjffkpaaBits9
import Derived.Test.YtnakkjgnjffkpaaOwnA
namespace Go.Proofs.Ytnakkjgnjffkpaa
open Go.RowKit
set_option linter.unusedVariables false

theorem in23_any (n lo hi : Int) (w : World) : Calls Try.prog 90 #[.int .i64 n, .int .i64 lo, .int .i64 hi] w fun e w' => e = .returned (.bool (betw n lo hi)) ∧ w = w' := by
  by_cases h1 : lo ≤ n
  · by_cases h2 : n ≤ hi
    · have HV : Hid (betw n lo hi = true) := Lib.hid (decide_eq_true ⟨h1, h2⟩)
      go_enter Try.func90, Try.ntmps90
      go_wp2_with fail
      go_ret
      exact ⟨by rw [HV.out]; rfl, rfl⟩
    · have HV : Hid (betw n lo hi = false) := Lib.hid (decide_eq_false fun h => h2 h.2)
      go_enter Try.func90, Try.ntmps90
      go_wp2_with fail
      go_ret
      exact ⟨by rw [HV.out]; rfl, rfl⟩
  · have HV : Hid (betw n lo hi = false) := Lib.hid (decide_eq_false fun h => h1 h.1)
    go_enter Try.func90, Try.ntmps90
    go_wp2_with fail
    go_ret
    exact ⟨by rw [HV.out]; rfl, rfl⟩
set_option maxHeartbeats 2000000 in
set_option maxRecDepth 100000 in
/-- The reference's own list: the same cells (and the same votes' bytes) in a block of its own. -/
theorem rown_any (A : Option Addr) (n c : Nat) (l : List (Mot × MotA)) (hn : l.length = n) (hm : n ≤ 1000000) (w : World) (hA : SliceOf 33 motC w A l) : Calls Try.prog 91 #[.slice A n c] w (ClonePost 107 33 motC w A l) := by
  have HA := Lib.hid hA
  have HN := Lib.hid hn
  clear hA hn
  go_enter Try.func91, Try.ntmps91
  go_wp2_with (at_builtin; refine wpList_append_a rmots_under' rmot_info' rfl (by decide) (by decide) motC_size motC_one rfl _ _ rfl w.heap.size _ _ l _ _ _ (OwnC.nil _ _) (HA.out.below (show Below w.heap.size w _ from (by (repeat (first | exact Below.refl _ _ | assumption | (refine Below.allocT ?_ _) | refine Below.drew ?_ | refine below_drewN ?_ _ | (refine Below.then ?_ (by assumption)) | (refine Below.setRow ?_ ?_ _; rotate_left; (focus (first | exact Nat.lt_succ_self _ | ((repeat rw [World.size_alloc]); omega) | (simp; done) | (simp; omega) | omega))) | (refine Below.setCell ?_ ?_ _; rotate_left; (focus (first | exact Nat.lt_succ_self _ | ((repeat rw [World.size_alloc]); omega) | (simp; done) | (simp; omega) | omega))) | (refine Below.then' ?_ (by assumption) ?_; rotate_left; (focus (first | exact Nat.lt_succ_self _ | ((repeat rw [World.size_alloc]); omega) | (simp; done) | (simp; omega) | omega))) | fail)); (first | done | fail))) (Nat.le_refl _)) rfl rfl HN.out (by rw [HN.out]; simp; omega) (by first | exact Nat.le_refl _ | (rw [World.size_alloc]; omega)) ?_; intro v' w' hAp; have HAp := Lib.hid hAp; clear hAp)
  obtain ⟨A', c', rfl⟩ := HAp.out.form (k := l.length) (by simp)
  go_ret
  have h1 : OwnC 107 33 motC w' w.heap.size (.slice A' l.length c') l := by simpa using HAp.out.1
  refine ⟨A', c', rfl, h1, ?_, h1.cap⟩
  have hb : Below w.heap.size w w := (by (repeat (first | exact Below.refl _ _ | assumption | (refine Below.allocT ?_ _) | refine Below.drew ?_ | refine below_drewN ?_ _ | (refine Below.then ?_ (by assumption)) | (refine Below.setRow ?_ ?_ _; rotate_left; (focus (first | exact Nat.lt_succ_self _ | ((repeat rw [World.size_alloc]); omega) | (simp; done) | (simp; omega) | omega))) | (refine Below.setCell ?_ ?_ _; rotate_left; (focus (first | exact Nat.lt_succ_self _ | ((repeat rw [World.size_alloc]); omega) | (simp; done) | (simp; omega) | omega))) | (refine Below.then' ?_ (by assumption) ?_; rotate_left; (focus (first | exact Nat.lt_succ_self _ | ((repeat rw [World.size_alloc]); omega) | (simp; done) | (simp; omega) | omega))) | fail)); (first | done | fail))
  exact hb.grown HAp.out.2.1 (Nat.le_refl _) (fun k hk => by cases hk)
theorem bools_under : Try.prog.underlying 124 = some (.slice 4) := by kernel_rfl
theorem bool_info' : (Try.prog.info? 4).map (fun i => (i.zero, i.size, i.bytes)) = some (some (.bool false), 1, 1) := by kernel_rfl
theorem boolC_size (b : Bool) : (boolC b).size = 1 := rfl
theorem boolC_one (b : Bool) : allOne (boolC b) = true := by unfold allOne boolC; simp [Value.oneCell']
theorem withL_succ (bs : List Nat) (i : Int) (j : Nat) : withL bs i (j + 1) = withL bs i j ++ [decide ((j : Int) = i) || getB bs (j : Int)] := by
  unfold withL; rw [List.range_succ, List.map_append]; rfl
set_option maxRecDepth 100000 in
set_option maxHeartbeats 4000000 in
theorem with23_any (A : Option Addr) (n c k : Nat) (bs : List Nat) (hn : bs.length = n) (hm : n ≤ 100) (hb : bytesOk bs) (hk : k / 8 < n) (w : World) (hU : Bys w A bs) : Calls Try.prog 98 #[.slice A n c, .int .i64 (k : Int)] w (PackPost w (setB bs k)) := by
  have HU := Lib.hid hU
  have HN := Lib.hid hn
  have HB := Lib.hid hb
  have HK := Lib.hid hk
  have E8 : IntKind.i64.wrap (8 * (n : Int)) = 8 * (n : Int) := IntWalk.i64_in _ (by omega)
  clear hU hn hb hk
  go_enter Try.func98, Try.ntmps98
  go_wp2_with fail
  go_loopw [6, 5] (fun i v wr => ∃ (j : Nat) (u : Value), i = .int .i64 j ∧ u = v ∧ j ≤ 8 * n ∧ Hid (OwnC 4 1 boolC wr w.heap.size u (withL bs (k : Int) j) ∧ Below w.heap.size w wr)) (fun i _ _ => 8 * n - (intOf i).toNat)
  case atStart => exact ⟨0, _, rfl, rfl, by omega, Lib.hid ⟨OwnC.nil _ _, Below.refl _ _⟩⟩
  case round =>
    obtain ⟨j, u, rfl, rfl, hj, hH⟩ := hrel
    by_cases hlt : j < 8 * n
    · have z1 : (j : Int) < 8 * (n : Int) := by omega
      have E1 : IntKind.i64.wrap ((j : Int) + 1) = (j : Int) + 1 := IntWalk.i64_in _ (by omega)
      have HL : Hid ((withL bs (k : Int) j).length = j) := Lib.hid (withL_len _ _ _)
      have HT := Lib.hid (withL_succ bs (k : Int) j)
      have HJ : Hid (j ≤ 800) := Lib.hid (by omega)
      by_cases hjk : j = k
      · subst hjk
        have ek : ((j : Int) == (j : Int)) = true := beq_self_eq_true _
        have HV : Hid ((decide ((j : Int) = (j : Int)) || getB bs (j : Int)) = true) := Lib.hid (by simp)
        have O4 := Lib.hid (hH.out.1.stay ((Below.refl _ wr).alloc (Nat.le_refl _) (.cells #[.bool true] 4)))
        have HB4 := Lib.hid hH.out.2
        clear hH
        go_wp2_with (first | (refine wpList_slice1 bools_under bool_info' rfl (by omega) (by omega) rfl _ (by rfl) (boolC true) (by rfl) (boolC_size _) ?_) | (at_builtin; refine wpList_append_d bools_under bool_info' rfl (by omega) (by omega) boolC_size boolC_one rfl _ _ (by rfl) w.heap.size u (withL bs (j : Int) j) (by rfl) O4.out wr.heap.size 1 true (by rfl) (row_at _ _ _ _ rfl) j HL.out (by rw [HL.out]; have := HJ.out; omega) (by have := HB4.out.size; rw [World.size_alloc]; omega) ?_; intro A' cap w6 hO6 hg6 _; have HO6 := Lib.hid hO6; have HB6 := Lib.hid (below_grown_c (HB4.out.alloc HB4.out.size (.cells (boolC true) 4)) (Nat.le_refl _) O4.out hg6); clear hO6 hg6))
        exact ⟨⟨j + 1, _, by go_num, rfl, by omega, by rw [HT.out, HV.out]; exact Lib.hid ⟨HO6.out, HB6.out⟩⟩, by simp [intOf]; omega⟩
      · have ek : ((j : Int) == (k : Int)) = false := beq_eq_false_iff_ne.2 (by omega)
        have HV : Hid ((decide ((j : Int) = (k : Int)) || getB bs (j : Int)) = getB bs (j : Int)) := Lib.hid (by rw [decide_eq_false (by omega)]; rfl)
        have HG := Lib.hid (rget_any A n c bs (j : Int) HN.out (by omega) HB.out (by omega) wr (HU.out.below hH.out.2 (Nat.le_refl _)))
        have HO4 := Lib.hid hH.out.1
        have HB0 := Lib.hid hH.out.2
        generalize hv : getB bs (j : Int) = v at *
        clear hH hjk hv
        go_upto_region 5 with fail
        go_wp2_with (first | (go_at_call 97; refine (HG.out).mono ?_; rintro e w4 ⟨rfl, hb4⟩; have HB4 := Lib.hid (Below.then HB0.out hb4); have O4 := Lib.hid ((HO4.out.stay hb4).stay ((Below.refl _ w4).alloc (Nat.le_refl _) (.cells (boolC v) 4))); clear hb4) | (refine wpList_slice1 bools_under bool_info' rfl (by omega) (by omega) rfl _ (by rfl) (boolC v) (by rfl) (boolC_size _) ?_) | (at_builtin; refine wpList_append_d bools_under bool_info' rfl (by omega) (by omega) boolC_size boolC_one rfl _ _ (by rfl) w.heap.size u (withL bs (k : Int) j) (by rfl) O4.out w4.heap.size 1 v (by rfl) (row_at _ _ _ _ rfl) j HL.out (by rw [HL.out]; have := HJ.out; omega) (by have := HB4.out.size; rw [World.size_alloc]; omega) ?_; intro A' cap w6 hO6 hg6 _; have HO6 := Lib.hid hO6; have HB6 := Lib.hid (below_grown_c (HB4.out.alloc HB4.out.size (.cells (boolC v) 4)) (Nat.le_refl _) O4.out hg6); clear hO6 hg6))
        exact ⟨⟨j + 1, _, by go_num, rfl, by omega, by rw [HT.out, HV.out]; exact Lib.hid ⟨HO6.out, HB6.out⟩⟩, by simp [intOf]; omega⟩
    · obtain rfl : j = 8 * n := by omega
      have hO' := hH.out.1
      have hl8 : (withL bs (k : Int) (8 * n)).length = 8 * n := withL_len _ _ _
      obtain ⟨A', c', rfl, hs, _⟩ := hO'.form boolC_size
      have HPk := Lib.hid (rpack_any A' (8 * n) c' (withL bs (k : Int) (8 * n)) hl8 (by omega) wr hs)
      have hq : (8 * n + 7) / 8 = n := by omega
      have hset : packN (withL bs (k : Int) (8 * n)) n 0 = setB bs k := by
        have h := packN_with HB.out (k := k) (by rw [HN.out]; exact HK.out)
        rw [HN.out] at h; exact h
      rw [hq, hset] at HPk
      rw [hl8]
      have HBw := Lib.hid hH.out.2
      clear hH hO' hs hl8 hq hset
      have z1 : ¬ ((8 * n : Nat) : Int) < 8 * (n : Int) := by omega
      go_wp2_with (go_at_call 141; refine (HPk.out).mono ?_; rintro e w4 ⟨g4, rfl, hO4, hg4, hb4⟩)
      go_ret
      exact ⟨g4, rfl, hO4, Nat.le_trans HBw.out.size hg4, Below.then HBw.out hb4⟩
end Go.Proofs.Ytnakkjgnjffkpaa

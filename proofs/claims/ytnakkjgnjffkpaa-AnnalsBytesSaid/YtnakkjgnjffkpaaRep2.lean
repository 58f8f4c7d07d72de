/-
  When a report is right.
-/
import Derived.Test.YtnakkjgnjffkpaaRep
import Derived.IntWalk
import Derived.Deep.Cut
namespace Go.Proofs.Ytnakkjgnjffkpaa
open Go.RowKit
set_option linter.unusedVariables false

def m7A (r : Rep) : Array Value := ((money7 r).map fun n : Nat => Value.int .u64 ((n : Nat) : Int)).toArray
theorem m7A_at {r : Rep} {j n : Nat} (h : (money7 r)[j]? = some n) : (m7A r)[j]? = some (.int .u64 ((n : Nat) : Int)) := by
  unfold m7A; rw [List.getElem?_toArray, List.getElem?_map, h]; rfl
set_option maxRecDepth 100000 in
set_option maxHeartbeats 4000000 in
theorem right38_any (r : Rep) (a : RepA) (hr : r.Ok) (w : World) (hA : RepAt w (r, a)) : Calls Try.prog 54 #[.agg (repC (r, a))] w fun e w' => e = .returned (.bool (rightA r)) ∧ Below w.heap.size w w' := by
  have r0 : row (w.alloc (.cells (repC (r, a)) 36)) w.heap.size = some (repC (r, a)) := row_at _ _ _ _ rfl
  have hB0 : Below w.heap.size w (w.alloc (.cells (repC (r, a)) 36)) := (by (repeat (first | exact Below.refl _ _ | assumption | (refine Below.allocT ?_ _) | refine Below.drew ?_ | refine below_drewN ?_ _ | (refine Below.then ?_ (by assumption)) | (refine Below.setRow ?_ ?_ _; rotate_left; (focus (first | exact Nat.lt_succ_self _ | ((repeat rw [World.size_alloc]); omega) | (simp; done) | (simp; omega) | omega))) | (refine Below.setCell ?_ ?_ _; rotate_left; (focus (first | exact Nat.lt_succ_self _ | ((repeat rw [World.size_alloc]); omega) | (simp; done) | (simp; omega) | omega))) | (refine Below.then' ?_ (by assumption) ?_; rotate_left; (focus (first | exact Nat.lt_succ_self _ | ((repeat rw [World.size_alloc]); omega) | (simp; done) | (simp; omega) | omega))) | fail)); (first | done | fail))
  have HA := Lib.hid hA
  have HO := Lib.hid hr
  have HV : Hid (rightA r = (all7 r && (betB r.epoch 0 1073741824 && (betB r.mode 1 4 && (decide (r.paid + r.kept = r.minted) && (placesB r.out 128 && (placesB r.left 128 && (placesB r.started 128 && placesB r.done 32)))))))) := Lib.hid rfl
  clear hA hr
  go_enter Try.func54, Try.ntmps54
  go_upto_region 1 with fail
  generalize w.alloc (.cells (repC (r, a)) 36) = w0 at *
  have HB1 := Lib.hid (Below.allocT hB0 (.cells (m7A r) 33))
  have R1 := Lib.hid ((row_past w0 (.cells (m7A r) 33) _ (row_lt r0)).trans r0)
  have Q1 : Hid (row (w0.alloc (.cells (m7A r) 33)) w0.heap.size = some (m7A r)) := Lib.hid (row_at _ _ _ _ rfl)
  have cp : w0.cell? ⟨w.heap.size, 3, none⟩ = some (.int .u64 r.present) := row_cell r0 3
  have ca : w0.cell? ⟨w.heap.size, 4, none⟩ = some (.int .u64 r.active) := row_cell r0 4
  have cm : w0.cell? ⟨w.heap.size, 5, none⟩ = some (.int .u64 r.minted) := row_cell r0 5
  have cd : w0.cell? ⟨w.heap.size, 6, none⟩ = some (.int .u64 r.paid) := row_cell r0 6
  have ck : w0.cell? ⟨w.heap.size, 7, none⟩ = some (.int .u64 r.kept) := row_cell r0 7
  have cb : w0.cell? ⟨w.heap.size, 8, none⟩ = some (.int .u64 r.burned) := row_cell r0 8
  have cf : w0.cell? ⟨w.heap.size, 9, none⟩ = some (.int .u64 r.fees) := row_cell r0 9
  clear r0 hB0
  go_upto_region 2 with fail
  change Code.wp _ _ _ _ (w0.alloc (.cells (m7A r) 33))
  clear cp ca cm cd ck cb cf
  generalize w0.alloc (.cells (m7A r) 33) = w1 at *
  generalize w0.heap.size = g7 at *
  have k0 : w1.cell? ⟨w.heap.size, 0, none⟩ = some (.int .i64 r.epoch) := row_cell R1.out 0
  have k1 : w1.cell? ⟨w.heap.size, 1, none⟩ = some (.int .i64 r.mode) := row_cell R1.out 1
  have k5 : w1.cell? ⟨w.heap.size, 5, none⟩ = some (.int .u64 r.minted) := row_cell R1.out 5
  have k6 : w1.cell? ⟨w.heap.size, 6, none⟩ = some (.int .u64 r.paid) := row_cell R1.out 6
  have k7 : w1.cell? ⟨w.heap.size, 7, none⟩ = some (.int .u64 r.kept) := row_cell R1.out 7
  have ka : w1.cell? ⟨w.heap.size, 10, none⟩ = some (.slice a.a1 r.out.length a.c1) := row_cell R1.out 10
  have kb : w1.cell? ⟨w.heap.size, 11, none⟩ = some (.slice a.a2 r.left.length a.c2) := row_cell R1.out 11
  have kc : w1.cell? ⟨w.heap.size, 12, none⟩ = some (.slice a.a3 r.started.length a.c3) := row_cell R1.out 12
  have kd : w1.cell? ⟨w.heap.size, 13, none⟩ = some (.slice a.a4 r.done.length a.c4) := row_cell R1.out 13
  have HP1 := Lib.hid (places38_any a.a1 r.out.length a.c1 r.out 128 (.inl rfl) rfl HO.out.out w1 (HA.out.out.below HB1.out (Nat.le_refl _)))
  have HP2 := Lib.hid (places38_any a.a2 r.left.length a.c2 r.left 128 (.inl rfl) rfl HO.out.left w1 (HA.out.left.below HB1.out (Nat.le_refl _)))
  have HP3 := Lib.hid (places38_any a.a3 r.started.length a.c3 r.started 128 (.inl rfl) rfl HO.out.started w1 (HA.out.started.below HB1.out (Nat.le_refl _)))
  have HP4 := Lib.hid (places38_any a.a4 r.done.length a.c4 r.done 32 (.inr rfl) rfl HO.out.done w1 (HA.out.done.below HB1.out (Nat.le_refl _)))
  have HW1 := Lib.hid (within38_any r.epoch 0 1073741824 w1)
  have HW2 := Lib.hid (within38_any r.mode 1 4 w1)
  generalize placesB r.out 128 = b1 at *
  generalize placesB r.left 128 = b2 at *
  generalize placesB r.started 128 = b3 at *
  generalize placesB r.done 32 = b4 at *
  generalize betB r.epoch 0 1073741824 = b5 at *
  generalize betB r.mode 1 4 = b6 at *
  have Q7 : Hid ((money7 r).length = 7) := Lib.hid rfl
  have HS7 : Hid (all7 r = decide (∀ n ∈ money7 r, n ≤ 4611686018427387904)) := Lib.hid rfl
  clear HA HO
  go_wp2_with fail
  go_loopw [21] (fun i wr => ∃ j : Nat, i = .int .i64 j ∧ j ≤ 7 ∧ Hid (∀ n ∈ (money7 r).take j, n ≤ 4611686018427387904) ∧ wr = w1) (fun i _ => 7 - (intOf i).toNat)
  case atStart => exact ⟨0, rfl, by omega, Lib.hid (by simp), rfl⟩
  case round =>
    obtain ⟨j, rfl, hj, hI, rfl⟩ := hrel
    by_cases hlt : j < 7
    · obtain ⟨n, hn⟩ : ∃ n, (money7 r)[j]? = some n := ⟨_, List.getElem?_eq_getElem (by rw [Q7.out]; exact hlt)⟩
      have kn := (row_cell Q1.out j).trans (m7A_at hn)
      have HN := Lib.hid hn
      have z1 : (0 : Int) ≤ (j : Int) := by omega
      have z2 : (j : Int) < 7 := by omega
      clear hn k0 k1 k5 k6 k7 ka kb kc kd
      by_cases hbig : (4611686018427387904 : Int) < (n : Int)
      · have H7 : all7 r = false := by
          rw [HS7.out]
          exact decide_eq_false fun h => by have := h n (List.mem_of_getElem? HN.out); omega
        have HF : Hid (rightA r = false) := Lib.hid (by rw [HV.out, H7]; rfl)
        clear H7
        go_wp2_with fail
        go_ret
        exact ⟨by rw [HF.out]; rfl, HB1.out⟩
      · have HI2 : Hid (∀ n ∈ (money7 r).take (j + 1), n ≤ 4611686018427387904) := Lib.hid fun y hy => by
          obtain ⟨hjl, hjz⟩ := List.getElem?_eq_some_iff.1 HN.out
          rw [List.take_succ_eq_append_getElem hjl, hjz] at hy
          rcases List.mem_append.1 hy with hy | hy
          · exact hI.out y hy
          · rw [List.mem_singleton] at hy; subst hy; omega
        go_wp2_with fail
        exact ⟨⟨j + 1, by go_num, by omega, HI2, trivial⟩, by simp [intOf]; omega⟩
    · obtain rfl : j = 7 := by omega
      have hall := hI.out
      rw [List.take_of_length_le (by rw [Q7.out]; exact Nat.le_refl _)] at hall
      have H7 : Hid (all7 r = true) := Lib.hid (by rw [HS7.out]; exact decide_eq_true hall)
      have hpk : r.paid ≤ 4611686018427387904 ∧ r.kept ≤ 4611686018427387904 := ⟨hall _ (by simp [money7]), hall _ (by simp [money7])⟩
      have E1 : IntKind.u64.wrap ((r.paid : Int) + (r.kept : Int)) = (r.paid : Int) + (r.kept : Int) := by rw [IntKind.wrap_u64]; omega
      clear hall hI Q1
      go_wp2_with fail
      refine (HW1.out).mono ?_
      rintro e w2 ⟨rfl, rfl⟩
      cases b5
      · have HF : Hid (rightA r = false) := Lib.hid (by rw [HV.out]; simp)
        go_wp2_with fail
        go_ret
        exact ⟨by rw [HF.out]; rfl, HB1.out⟩
      go_wp2_with fail
      refine (HW2.out).mono ?_
      rintro e w2 ⟨rfl, rfl⟩
      cases b6
      · have HF : Hid (rightA r = false) := Lib.hid (by rw [HV.out]; simp)
        go_wp2_with fail
        go_ret
        exact ⟨by rw [HF.out]; rfl, HB1.out⟩
      by_cases hpm : r.paid + r.kept = r.minted
      rotate_left
      · have HF : Hid (rightA r = false) := Lib.hid (by rw [HV.out, decide_eq_false hpm]; simp)
        have q1 : ((r.paid : Int) + (r.kept : Int) == (r.minted : Int)) = false := beq_eq_false_iff_ne.2 (by omega)
        have q2 : ((r.paid : Int) + (r.kept : Int) != (r.minted : Int)) = true := bne_iff_ne.2 (by omega)
        clear hpm
        go_wp2_with fail
        go_ret
        exact ⟨by rw [HF.out]; rfl, HB1.out⟩
      have HPM := Lib.hid (decide_eq_true hpm)
      have q1 : ((r.paid : Int) + (r.kept : Int) == (r.minted : Int)) = true := beq_iff_eq.2 (by omega)
      have q2 : ((r.paid : Int) + (r.kept : Int) != (r.minted : Int)) = false := by rw [bne, q1]; rfl
      clear hpm
      go_wp2_with fail
      refine (HP1.out).mono ?_
      rintro e w2 ⟨rfl, rfl⟩
      cases b1
      · have HF : Hid (rightA r = false) := Lib.hid (by rw [HV.out]; simp)
        go_wp2_with fail
        go_ret
        exact ⟨by rw [HF.out]; rfl, HB1.out⟩
      go_wp2_with fail
      refine (HP2.out).mono ?_
      rintro e w2 ⟨rfl, rfl⟩
      cases b2
      · have HF : Hid (rightA r = false) := Lib.hid (by rw [HV.out]; simp)
        go_wp2_with fail
        go_ret
        exact ⟨by rw [HF.out]; rfl, HB1.out⟩
      go_wp2_with fail
      refine (HP3.out).mono ?_
      rintro e w2 ⟨rfl, rfl⟩
      cases b3
      · have HF : Hid (rightA r = false) := Lib.hid (by rw [HV.out]; simp)
        go_wp2_with fail
        go_ret
        exact ⟨by rw [HF.out]; rfl, HB1.out⟩
      go_wp2_with fail
      refine (HP4.out).mono ?_
      rintro e w2 ⟨rfl, rfl⟩
      have HF : Hid (rightA r = b4) := Lib.hid (by rw [HV.out, H7.out, HPM.out]; simp)
      go_wp2_with fail
      go_ret
      exact ⟨by rw [HF.out]; rfl, HB1.out⟩
set_option maxRecDepth 100000 in
set_option maxHeartbeats 4000000 in
theorem rright38_any (r : Rep) (a : RepA) (hr : r.Ok) (w : World) (hA : RepAt w (r, a)) : Calls Try.prog 26 #[.agg (repC (r, a))] w fun e w' => e = .returned (.bool (rightA r)) ∧ Below w.heap.size w w' := by
  have r0 : row (w.alloc (.cells (repC (r, a)) 40)) w.heap.size = some (repC (r, a)) := row_at _ _ _ _ rfl
  have hB0 : Below w.heap.size w (w.alloc (.cells (repC (r, a)) 40)) := (by (repeat (first | exact Below.refl _ _ | assumption | (refine Below.allocT ?_ _) | refine Below.drew ?_ | refine below_drewN ?_ _ | (refine Below.then ?_ (by assumption)) | (refine Below.setRow ?_ ?_ _; rotate_left; (focus (first | exact Nat.lt_succ_self _ | ((repeat rw [World.size_alloc]); omega) | (simp; done) | (simp; omega) | omega))) | (refine Below.setCell ?_ ?_ _; rotate_left; (focus (first | exact Nat.lt_succ_self _ | ((repeat rw [World.size_alloc]); omega) | (simp; done) | (simp; omega) | omega))) | (refine Below.then' ?_ (by assumption) ?_; rotate_left; (focus (first | exact Nat.lt_succ_self _ | ((repeat rw [World.size_alloc]); omega) | (simp; done) | (simp; omega) | omega))) | fail)); (first | done | fail))
  have HA := Lib.hid hA
  have HO := Lib.hid hr
  have HV : Hid (rightA r = (all7 r && (betB r.epoch 0 1073741824 && (betB r.mode 1 4 && (decide (r.paid + r.kept = r.minted) && (placesB r.out 128 && (placesB r.left 128 && (placesB r.started 128 && placesB r.done 32)))))))) := Lib.hid rfl
  clear hA hr
  go_enter Try.func26, Try.ntmps26
  go_upto_region 1 with fail
  generalize w.alloc (.cells (repC (r, a)) 40) = w0 at *
  have HB1 := Lib.hid (Below.allocT hB0 (.cells (m7A r) 33))
  have R1 := Lib.hid ((row_past w0 (.cells (m7A r) 33) _ (row_lt r0)).trans r0)
  have Q1 : Hid (row (w0.alloc (.cells (m7A r) 33)) w0.heap.size = some (m7A r)) := Lib.hid (row_at _ _ _ _ rfl)
  have cp : w0.cell? ⟨w.heap.size, 3, none⟩ = some (.int .u64 r.present) := row_cell r0 3
  have ca : w0.cell? ⟨w.heap.size, 4, none⟩ = some (.int .u64 r.active) := row_cell r0 4
  have cm : w0.cell? ⟨w.heap.size, 5, none⟩ = some (.int .u64 r.minted) := row_cell r0 5
  have cd : w0.cell? ⟨w.heap.size, 6, none⟩ = some (.int .u64 r.paid) := row_cell r0 6
  have ck : w0.cell? ⟨w.heap.size, 7, none⟩ = some (.int .u64 r.kept) := row_cell r0 7
  have cb : w0.cell? ⟨w.heap.size, 8, none⟩ = some (.int .u64 r.burned) := row_cell r0 8
  have cf : w0.cell? ⟨w.heap.size, 9, none⟩ = some (.int .u64 r.fees) := row_cell r0 9
  clear r0 hB0
  go_upto_region 2 with fail
  change Code.wp _ _ _ _ (w0.alloc (.cells (m7A r) 33))
  clear cp ca cm cd ck cb cf
  generalize w0.alloc (.cells (m7A r) 33) = w1 at *
  generalize w0.heap.size = g7 at *
  have k0 : w1.cell? ⟨w.heap.size, 0, none⟩ = some (.int .i64 r.epoch) := row_cell R1.out 0
  have k1 : w1.cell? ⟨w.heap.size, 1, none⟩ = some (.int .i64 r.mode) := row_cell R1.out 1
  have k5 : w1.cell? ⟨w.heap.size, 5, none⟩ = some (.int .u64 r.minted) := row_cell R1.out 5
  have k6 : w1.cell? ⟨w.heap.size, 6, none⟩ = some (.int .u64 r.paid) := row_cell R1.out 6
  have k7 : w1.cell? ⟨w.heap.size, 7, none⟩ = some (.int .u64 r.kept) := row_cell R1.out 7
  have ka : w1.cell? ⟨w.heap.size, 10, none⟩ = some (.slice a.a1 r.out.length a.c1) := row_cell R1.out 10
  have kb : w1.cell? ⟨w.heap.size, 11, none⟩ = some (.slice a.a2 r.left.length a.c2) := row_cell R1.out 11
  have kc : w1.cell? ⟨w.heap.size, 12, none⟩ = some (.slice a.a3 r.started.length a.c3) := row_cell R1.out 12
  have kd : w1.cell? ⟨w.heap.size, 13, none⟩ = some (.slice a.a4 r.done.length a.c4) := row_cell R1.out 13
  have HP1 := Lib.hid (rplaces38_any a.a1 r.out.length a.c1 r.out 128 (.inl rfl) rfl HO.out.out w1 (HA.out.out.below HB1.out (Nat.le_refl _)))
  have HP2 := Lib.hid (rplaces38_any a.a2 r.left.length a.c2 r.left 128 (.inl rfl) rfl HO.out.left w1 (HA.out.left.below HB1.out (Nat.le_refl _)))
  have HP3 := Lib.hid (rplaces38_any a.a3 r.started.length a.c3 r.started 128 (.inl rfl) rfl HO.out.started w1 (HA.out.started.below HB1.out (Nat.le_refl _)))
  have HP4 := Lib.hid (rplaces38_any a.a4 r.done.length a.c4 r.done 32 (.inr rfl) rfl HO.out.done w1 (HA.out.done.below HB1.out (Nat.le_refl _)))
  have HW1 := Lib.hid (in38_any r.epoch 0 1073741824 w1)
  have HW2 := Lib.hid (in38_any r.mode 1 4 w1)
  generalize placesB r.out 128 = b1 at *
  generalize placesB r.left 128 = b2 at *
  generalize placesB r.started 128 = b3 at *
  generalize placesB r.done 32 = b4 at *
  generalize betB r.epoch 0 1073741824 = b5 at *
  generalize betB r.mode 1 4 = b6 at *
  have Q7 : Hid ((money7 r).length = 7) := Lib.hid rfl
  have HS7 : Hid (all7 r = decide (∀ n ∈ money7 r, n ≤ 4611686018427387904)) := Lib.hid rfl
  clear HA HO
  go_wp2_with fail
  go_loopw [4] (fun i wr => ∃ j : Nat, i = .int .i64 j ∧ j ≤ 7 ∧ Hid (∀ n ∈ (money7 r).take j, n ≤ 4611686018427387904) ∧ wr = w1) (fun i _ => 7 - (intOf i).toNat)
  case atStart => exact ⟨0, rfl, by omega, Lib.hid (by simp), rfl⟩
  case round =>
    obtain ⟨j, rfl, hj, hI, rfl⟩ := hrel
    by_cases hlt : j < 7
    · obtain ⟨n, hn⟩ : ∃ n, (money7 r)[j]? = some n := ⟨_, List.getElem?_eq_getElem (by rw [Q7.out]; exact hlt)⟩
      have kn := (row_cell Q1.out j).trans (m7A_at hn)
      have HN := Lib.hid hn
      have z1 : (0 : Int) ≤ (j : Int) := by omega
      have z2 : (j : Int) < 7 := by omega
      clear hn k0 k1 k5 k6 k7 ka kb kc kd
      by_cases hbig : (4611686018427387904 : Int) < (n : Int)
      · have H7 : all7 r = false := by
          rw [HS7.out]
          exact decide_eq_false fun h => by have := h n (List.mem_of_getElem? HN.out); omega
        have HF : Hid (rightA r = false) := Lib.hid (by rw [HV.out, H7]; rfl)
        clear H7
        go_wp2_with fail
        go_ret
        exact ⟨by rw [HF.out]; rfl, HB1.out⟩
      · have HI2 : Hid (∀ n ∈ (money7 r).take (j + 1), n ≤ 4611686018427387904) := Lib.hid fun y hy => by
          obtain ⟨hjl, hjz⟩ := List.getElem?_eq_some_iff.1 HN.out
          rw [List.take_succ_eq_append_getElem hjl, hjz] at hy
          rcases List.mem_append.1 hy with hy | hy
          · exact hI.out y hy
          · rw [List.mem_singleton] at hy; subst hy; omega
        go_wp2_with fail
        exact ⟨⟨j + 1, by go_num, by omega, HI2, trivial⟩, by simp [intOf]; omega⟩
    · obtain rfl : j = 7 := by omega
      have hall := hI.out
      rw [List.take_of_length_le (by rw [Q7.out]; exact Nat.le_refl _)] at hall
      have H7 : Hid (all7 r = true) := Lib.hid (by rw [HS7.out]; exact decide_eq_true hall)
      have hpk : r.paid ≤ 4611686018427387904 ∧ r.kept ≤ 4611686018427387904 := ⟨hall _ (by simp [money7]), hall _ (by simp [money7])⟩
      have E1 : IntKind.u64.wrap ((r.paid : Int) + (r.kept : Int)) = (r.paid : Int) + (r.kept : Int) := by rw [IntKind.wrap_u64]; omega
      clear hall hI Q1
      go_wp2_with fail
      refine (HW1.out).mono ?_
      rintro e w2 ⟨rfl, rfl⟩
      cases b5
      · have HF : Hid (rightA r = false) := Lib.hid (by rw [HV.out]; simp)
        go_wp2_with fail
        go_ret
        exact ⟨by rw [HF.out]; rfl, HB1.out⟩
      go_wp2_with fail
      refine (HW2.out).mono ?_
      rintro e w2 ⟨rfl, rfl⟩
      cases b6
      · have HF : Hid (rightA r = false) := Lib.hid (by rw [HV.out]; simp)
        go_wp2_with fail
        go_ret
        exact ⟨by rw [HF.out]; rfl, HB1.out⟩
      by_cases hpm : r.paid + r.kept = r.minted
      rotate_left
      · have HF : Hid (rightA r = false) := Lib.hid (by rw [HV.out, decide_eq_false hpm]; simp)
        have q1 : ((r.paid : Int) + (r.kept : Int) == (r.minted : Int)) = false := beq_eq_false_iff_ne.2 (by omega)
        have q2 : ((r.paid : Int) + (r.kept : Int) != (r.minted : Int)) = true := bne_iff_ne.2 (by omega)
        clear hpm
        go_wp2_with fail
        go_ret
        exact ⟨by rw [HF.out]; rfl, HB1.out⟩
      have HPM := Lib.hid (decide_eq_true hpm)
      have q1 : ((r.paid : Int) + (r.kept : Int) == (r.minted : Int)) = true := beq_iff_eq.2 (by omega)
      have q2 : ((r.paid : Int) + (r.kept : Int) != (r.minted : Int)) = false := by rw [bne, q1]; rfl
      clear hpm
      go_wp2_with fail
      refine (HP1.out).mono ?_
      rintro e w2 ⟨rfl, rfl⟩
      cases b1
      · have HF : Hid (rightA r = false) := Lib.hid (by rw [HV.out]; simp)
        go_wp2_with fail
        go_ret
        exact ⟨by rw [HF.out]; rfl, HB1.out⟩
      go_wp2_with fail
      refine (HP2.out).mono ?_
      rintro e w2 ⟨rfl, rfl⟩
      cases b2
      · have HF : Hid (rightA r = false) := Lib.hid (by rw [HV.out]; simp)
        go_wp2_with fail
        go_ret
        exact ⟨by rw [HF.out]; rfl, HB1.out⟩
      go_wp2_with fail
      refine (HP3.out).mono ?_
      rintro e w2 ⟨rfl, rfl⟩
      cases b3
      · have HF : Hid (rightA r = false) := Lib.hid (by rw [HV.out]; simp)
        go_wp2_with fail
        go_ret
        exact ⟨by rw [HF.out]; rfl, HB1.out⟩
      go_wp2_with fail
      refine (HP4.out).mono ?_
      rintro e w2 ⟨rfl, rfl⟩
      have HF : Hid (rightA r = b4) := Lib.hid (by rw [HV.out, H7.out, HPM.out]; simp)
      go_wp2_with fail
      go_ret
      exact ⟨by rw [HF.out]; rfl, HB1.out⟩
end Go.Proofs.Ytnakkjgnjffkpaa

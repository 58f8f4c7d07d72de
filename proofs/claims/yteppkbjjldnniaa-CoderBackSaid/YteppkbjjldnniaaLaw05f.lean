/-
  Layer 5: what is written is read as it was, to the last byte; cut off anywhere it isn't all there.
-/
import Derived.Test.YteppkbjjldnniaaLaw05c
import Derived.Test.YteppkbjjldnniaaLaw05e
import Derived.Test.YteppkbjjldnniaaBackP
namespace Go.Proofs.Yteppkbjjldnniaa
open Go.RowKit
set_option linter.unusedVariables false

theorem One.step {B g gO : Nat} {o1 : Option Nat} {w w1 : World} {s s' : Wt} {e : Ending} (hl : ∀ k, WS g o1 k → B ≤ k) (h1 : WtAt w g o1 s) (hB : B ≤ w.heap.size) (hO : ¬ WS g o1 gO) (hlt : gO < w.heap.size) (hp : WtPost w g o1 s' e w1) :
    e = unitE ∧ ∃ o1', WtAt w1 g o1' s' ∧ (∀ k, WS g o1' k → B ≤ k) ∧ ¬ WS g o1' gO ∧ Below B w w1 ∧ Chg (WS g o1) w w1 := by
  obtain ⟨he, o1', ha, hb, hc⟩ := hp
  refine ⟨he, o1', ha, ?_, ?_, hc.toBelow hl hB, hc⟩
  · intro k hk
    rcases hk with rfl | hk
    · exact hl _ (.inl rfl)
    · rcases hb with rfl | ⟨j, rfl, hj⟩
      · exact hl k (.inr hk)
      · cases hk; omega
  · intro hk
    rcases hk with rfl | hk
    · exact hO (.inl rfl)
    · rcases hb with rfl | ⟨j, rfl, hj⟩
      · exact hO (.inr hk)
      · cases hk; omega
theorem run_headb (A : Option Addr) (n c k : Nat) (h : k ≤ c) (w : World) : (Instr.slice 22 (.slice A n c) none (some (.int .i64 (k : Int))) none).run Try.prog w = .ok (.slice (cutA A c 0) k c) w := by
  obtain ⟨i0, hi, hz0, hz1, hz2⟩ := info_parts u8_info
  have he : Try.prog.elem 22 = 5 := by kernel_rfl
  have hs : (sizeOf 5).run Try.prog w = .ok 1 w := by simp [sizeOf, typeInfo, hi, hz1]
  rw [run_slice_h (P := Try.prog) w 22 A n c (by rw [he]; exact u8s_under) .i64 k (by omega) (by omega), he, hs]
  have e1 : ((k : Int)).toNat = k := by omega
  simp only [Result.andThen, sliced, cutA, e1, Nat.mul_one, Nat.sub_zero, Nat.zero_mul]
def triOf (o : Op5) : Tri := ⟨o.n, flagW o.i, o.b⟩
theorem tri_ok {W : World} {o : Op5} (h : o.Ok W) (hs : shortOp o) : (triOf o).Ok := ⟨h.n, by show flagW o.i ≤ 1; unfold flagW; split <;> omega, hs⟩
theorem tri_at {xs : List Op5} {j : Nat} {o : Op5} (h : xs[j]? = some o) : (xs.map triOf)[j]? = some (triOf o) := by rw [List.getElem?_map, h]; rfl
set_option maxRecDepth 100000 in
set_option maxHeartbeats 4000000 in
theorem coderBack_any (A : Option Addr) (n c : Nat) (xs : List Op5) (cut : Int) (hcut : i64ok cut) (hn : xs.length = n) (hm : n ≤ 9223372036854775807) (w : World) (hok : ∀ x ∈ xs, Op5.Ok w x) (hU : SliceOf 4 Op5.cells w A xs) :
    Calls Try.prog 6 #[.slice A n c, .int .i64 cut] w fun e w' => e = .returned (.bool true) ∧ Below w.heap.size w w' := by
  have HN := Lib.hid hn
  have HU := Lib.hid hU
  have HOk := Lib.hid hok
  have HFew := Lib.hid (fun W h => few05_any A n c xs hn hm (fun x hx => Nat.le_trans (hok x hx).b.cap (hok x hx).b.top) W h)
  unfold i64ok at hcut
  clear hn hU hok
  by_cases hneg : cut < 0
  · go_enter Try.func6, Try.ntmps6
    go_wp2_with fail
    refine (awake05_any _).mono ?_
    rintro e w1 ⟨rfl, hb1⟩
    go_wp2_with fail
    refine (HFew.out _ (HU.out.below hb1 (Nat.le_refl _))).mono ?_
    rintro e w2 ⟨⟨rfl, hf⟩ | ⟨rfl, hf⟩, hb2⟩
    all_goals
      clear hf
      go_wp2_with fail
      go_ret
      exact ⟨rfl, Below.then hb1 hb2⟩
  · obtain ⟨cN, rfl⟩ := Int.eq_ofNat_of_zero_le (show 0 ≤ cut by omega)
    have hneg' : ¬ (cN : Int) < 0 := hneg
    clear hneg
    go_enter Try.func6, Try.ntmps6
    go_wp2_with fail
    refine (awake05_any _).mono ?_
    rintro e w1 ⟨rfl, hb1⟩
    go_wp2_with fail
    refine (HFew.out _ (HU.out.below hb1 (Nat.le_refl _))).mono ?_
    rintro e w2 ⟨⟨rfl, hf⟩ | ⟨rfl, hf⟩, hb2⟩
    · have HF := Lib.hid hf
      have HTri : Hid (∀ o ∈ xs, (triOf o).Ok) := Lib.hid fun o ho => tri_ok (HOk.out o ho) (hf.2 o ho)
      have hB2 := Below.then hb1 hb2
      clear hf hb1 hb2 HFew
      go_wp2_with (refine wpList_build_to #[.slice none 0 0, .int .i64 0] rfl 34 _ rfl (by kernel_rfl) ?_)
      have A1 := Lib.hid (WtAt.fresh w2 34)
      have HB3 := Lib.hid (hB2.alloc hB2.size (.cells #[.slice none 0 0, .int .i64 0] 34))
      have HL : Hid (∀ k, WS w2.heap.size none k → w.heap.size ≤ k) := Lib.hid fun k hk => by
        rcases hk with rfl | hk
        · exact hB2.size
        · cases hk
      have hgw : w.heap.size ≤ w2.heap.size := hB2.size
      generalize w2.heap.size = g at *
      clear hB2
      go_loopw [29] (fun i wr => ∃ (j : Nat) (s : Wt) (o1 : Option Nat), i = .int .i64 j ∧ j ≤ n ∧ Hid s.Ok ∧ Hid (zeroOrBig s.e) ∧ Hid (s = puts Wt.none ((xs.map triOf).take j)) ∧ Hid (WtAt wr g o1 s) ∧ Hid (∀ k, WS g o1 k → w.heap.size ≤ k) ∧ Hid (Below w.heap.size w wr)) (fun i _ => n - (intOf i).toNat)
      case atStart => exact ⟨0, Wt.none, none, rfl, by omega, Lib.hid Wt.none_ok, Lib.hid (.inl rfl), Lib.hid rfl, A1, HL, HB3⟩
      case round =>
        clear A1 HB3 HL
        obtain ⟨j, s, o1, rfl, hj, hok, hzb, hsp, hW, hl, hB⟩ := hrel
        by_cases hlt : j < n
        · obtain ⟨b, off, rfl, hbb, hcell⟩ := HU.out (by rw [HN.out]; omega)
          obtain ⟨o, hxj⟩ : ∃ o, xs[j]? = some o := ⟨_, List.getElem?_eq_getElem (by rw [HN.out]; omega)⟩
          have hmem := List.mem_of_getElem? hxj
          have HO := Lib.hid (HOk.out o hmem)
          have HSh : Hid (o.b.length ≤ 140000) := Lib.hid (HF.out.2 o hmem)
          have HT := Lib.hid (tri_at hxj)
          obtain ⟨k0, k1, k2, k3⟩ := op5_cells (range_below (hcell j _ hxj) hB.out hbb)
          have z1 : (0 : Int) ≤ (j : Int) := by omega
          have z2 : (j : Int) < (n : Int) := by omega
          have V1 : Hid (WtAt (wr.alloc (.cells #[.int .i64 o.kind, .int .i64 o.i, .int .u64 o.n, .slice o.A o.b.length o.c] 47)) g o1 s) := Lib.hid (hW.out.stay ((Below.refl _ wr).alloc (Nat.le_refl _) _))
          have VB : Hid (Below w.heap.size w (wr.alloc (.cells #[.int .i64 o.kind, .int .i64 o.i, .int .u64 o.n, .slice o.A o.b.length o.c] 47))) := Lib.hid (hB.out.alloc hB.out.size _)
          have VR : Hid (row (wr.alloc (.cells #[.int .i64 o.kind, .int .i64 o.i, .int .u64 o.n, .slice o.A o.b.length o.c] 47)) wr.heap.size = some #[.int .i64 o.kind, .int .i64 o.i, .int .u64 o.n, .slice o.A o.b.length o.c]) := Lib.hid (row_at _ _ _ _ rfl)
          have VF : Hid (¬ WS g o1 wr.heap.size) := Lib.hid (hW.out.far (Nat.le_refl _))
          clear hcell hxj hmem hW hB
          go_wp2_with fail
          generalize (wr.alloc (.cells #[.int .i64 o.kind, .int .i64 o.i, .int .u64 o.n, .slice o.A o.b.length o.c] 47)) = V at *
          generalize wr.heap.size = gO at *
          refine (wnum_any g o1 s hok.out o.n HO.out.n V V1.out).mono ?_
          intro e wa hp
          obtain ⟨he, oa, a1, a2, a3, a4, a5⟩ := One.step hl.out V1.out VB.out.size VF.out (row_lt VR.out) hp
          unfold unitE at he
          subst he
          have ra := (a5.row (row_lt VR.out) VF.out).trans VR.out
          have kk : wa.cell? ⟨gO, 1, none⟩ = some (.int .i64 o.i) := row_cell ra 1
          have W1 := Lib.hid a1
          have L1 := Lib.hid a2
          have F1 := Lib.hid a3
          have B1 := Lib.hid (VB.out.trans a4)
          have R1 := Lib.hid ra
          have hok1 := Lib.hid (hok.out.num o.n)
          have hz1 : Hid (zeroOrBig (s.num o.n).e) := Lib.hid (put_big hzb.out _)
          clear hp a1 a2 a3 a4 a5 ra V1 VF VR VB
          go_wp2_with fail
          refine (wflag_any g oa _ hok1.out (o.i == 1) wa W1.out).mono ?_
          intro e wb hp
          rw [flag_eq] at hp
          obtain ⟨he, ob, a1, a2, a3, a4, a5⟩ := One.step L1.out W1.out B1.out.size F1.out (row_lt R1.out) hp
          unfold unitE at he
          subst he
          have rb := (a5.row (row_lt R1.out) F1.out).trans R1.out
          have kb : wb.cell? ⟨gO, 3, none⟩ = some (.slice o.A o.b.length o.c) := row_cell rb 3
          have W2 := Lib.hid a1
          have L2 := Lib.hid a2
          have F2 := Lib.hid a3
          have B2 := Lib.hid (B1.out.trans a4)
          have R2 := Lib.hid rb
          have hok2 := Lib.hid (hok1.out.num (flagW o.i))
          have hz2 : Hid (zeroOrBig ((s.num o.n).num (flagW o.i)).e) := Lib.hid (put_big hz1.out _)
          clear hp a1 a2 a3 a4 a5 rb kk W1 L1 F1 B1 R1
          go_wp2_with fail
          refine (wraw_any g ob _ hok2.out o.A o.b.length o.c o.b rfl (by have := HSh.out; omega) wb (HO.out.b.bys.below B2.out (Nat.le_refl _)) W2.out).mono ?_
          intro e wc hp
          obtain ⟨he, oc, a1, a2, a3, a4, a5⟩ := One.step L2.out W2.out B2.out.size F2.out (row_lt R2.out) hp
          unfold unitE at he
          subst he
          have W3 := Lib.hid a1
          have L3 := Lib.hid a2
          have B3 := Lib.hid (B2.out.trans a4)
          have hok3 := Lib.hid (hok2.out.raw HO.out.b.ok)
          have hz3 : Hid (zeroOrBig (((s.num o.n).num (flagW o.i)).raw o.b).e) := Lib.hid (put_big hz2.out _)
          have hsp3 : Hid (((s.num o.n).num (flagW o.i)).raw o.b = puts Wt.none ((xs.map triOf).take (j + 1))) := Lib.hid (by rw [puts_take _ HT.out, ← hsp.out]; rfl)
          clear hp a1 a2 a3 a4 a5 kb W2 L2 F2 B2 R2
          go_wp2_with fail
          exact ⟨⟨j + 1, _, oc, by go_num, by omega, hok3, hz3, hsp3, W3, L3, B3⟩, by simp [intOf]; omega⟩
        · obtain rfl : n = j := by omega
          have hall : s = puts Wt.none (xs.map triOf) := by rw [hsp.out, List.take_of_length_le (by rw [List.length_map, HN.out]; exact Nat.le_refl _)]
          have HOut := Lib.hid (wout_any g o1 s hok.out wr hW.out)
          go_wp2_with fail
          refine (HOut.out).mono ?_
          rintro e w4 ⟨Ab, cb, rfl, hO, hA, hb⟩
          have B4 := Lib.hid (Below.then hB.out hb)
          obtain ⟨A5, c5, e5, hBy, hl5, hc5, ht5, hoff5⟩ := hO.form
          simp only [Value.slice.injEq, true_and] at e5
          obtain ⟨rfl, rfl⟩ := e5
          have Y4 := Lib.hid hBy
          have HAb : Hid (∀ a, Ab = some a → w.heap.size ≤ a.block ∧ a.block < w4.heap.size) := Lib.hid fun a ha => ⟨by have := hA a ha; have := hB.out.size; omega, hO.lt _ (hoff5 a ha)⟩
          have HNone : Hid (Ab = none → cb = 0) := Lib.hid fun h => by subst h; exact hO.none_cap
          have HC5 := Lib.hid hc5
          have HT5 := Lib.hid ht5
          clear hO hA hb hBy hW hB HOut hl5 hc5 ht5 hoff5
          by_cases h0 : s.e = 0
          · obtain ⟨_, hxs⟩ := puts_zero (xs.map triOf) Wt.none (by rw [← hall]; exact h0)
            rw [← hall] at hxs
            have hxs' : s.xs = encs (xs.map triOf) := by rw [hxs]; rfl
            have HOL : outL s = encs (xs.map triOf) := by rw [← hxs']; simp [outL, h0]
            rw [HOL] at Y4 HC5
            rw [HOL, h0]
            have HYok : Hid (bytesOk (encs (xs.map triOf))) := Lib.hid (by rw [← hxs']; exact hok.out.ok)
            have HYlen : Hid ((encs (xs.map triOf)).length ≤ 131072) := Lib.hid (by rw [← hxs']; exact hok.out.len)
            clear hall hxs hxs' HOL hok hzb hsp hl h0
            obtain ⟨Y, hY⟩ : ∃ Y, Y = encs (xs.map triOf) := ⟨_, rfl⟩
            have HY := Lib.hid hY
            rw [← hY] at Y4 HC5 HYok HYlen ⊢
            obtain ⟨ny, hny⟩ : ∃ ny, ny = Y.length := ⟨_, rfl⟩
            have HNy := Lib.hid hny.symm
            have hny1 : ny ≤ 131072 := by rw [hny]; exact HYlen.out
            have hnyc : ny ≤ cb := by rw [hny]; exact HC5.out
            have HOp := Lib.hid (fun W (h : Bys W Ab Y) => ropen_any Ab Y.length cb Y rfl (by have := HYlen.out; omega) W h)
            rw [← hny] at HOp ⊢
            clear hY hny
            go_wp2_with fail
            refine (HOp.out _ Y4.out).mono ?_
            rintro e w5 ⟨g2, A3, c3, rfl, hg2, hA3, hR, hb5⟩
            have B5 := Lib.hid (Below.then B4.out hb5)
            have Y5 := Lib.hid (Y4.out.stay hb5)
            have R5 := Lib.hid hR
            have hg2w : w.heap.size ≤ g2 := by have := B4.out.size; omega
            have HAb5 : Hid (∀ a, Ab = some a → ¬ only g2 a.block) := Lib.hid fun a ha h => by unfold only at h; have := (HAb.out a ha).2; omega
            clear hg2 hA3 hR hb5 B4 Y4 HOp
            go_wp2_with fail
            go_loopw [65] (fun i wr => ∃ j : Nat, i = .int .i64 j ∧ j ≤ n ∧ Hid (RdAt wr g2 A3 c3 ⟨Y, (encs ((xs.map triOf).take j)).length, 0⟩) ∧ Hid (Chg (only g2) w5 wr)) (fun i _ => n - (intOf i).toNat)
            case atStart => exact ⟨0, rfl, by omega, R5, Lib.hid (Chg.refl _ _)⟩
            case round =>
              clear R5
              obtain ⟨j, rfl, hj, hR, hC⟩ := hrel
              have hBw := Lib.hid (B5.out.trans (hC.out.toBelow (B := w.heap.size) (fun k hk => by unfold only at hk; omega) B5.out.size))
              by_cases hlt : j < n
              · obtain ⟨b, off, rfl, hbb, hcell⟩ := HU.out (by rw [HN.out]; omega)
                obtain ⟨o, hxj⟩ : ∃ o, xs[j]? = some o := ⟨_, List.getElem?_eq_getElem (by rw [HN.out]; omega)⟩
                have hmem := List.mem_of_getElem? hxj
                have HO := Lib.hid (HOk.out o hmem)
                have HSh : Hid (o.b.length ≤ 140000) := Lib.hid (HF.out.2 o hmem)
                have hT := tri_at hxj
                obtain ⟨hw1, hw2, hw3⟩ := get_whole (xs := Y) (at_ := (encs ((xs.map triOf).take j)).length) (r := encs ((xs.map triOf).drop (j + 1))) (HTri.out o hmem) (by rw [HY.out]; exact encs_split hT)
                have hat : (encs ((xs.map triOf).take j)).length + (triOf o).enc.length = (encs ((xs.map triOf).take (j + 1))).length := by rw [encs_succ hT, List.length_append]
                rw [hat] at hw3
                have hle : (encs ((xs.map triOf).take (j + 1))).length ≤ Y.length := by
                  have h1 : encs (xs.map triOf) = encs ((xs.map triOf).take (j + 1)) ++ encs ((xs.map triOf).drop (j + 1)) := by
                    unfold encs
                    rw [← List.flatten_append, ← List.map_append, List.take_append_drop]
                  rw [HY.out, h1, List.length_append]; omega
                obtain ⟨k0, k1, k2, k3⟩ := op5_cells (range_below (hcell j _ hxj) hBw.out hbb)
                have z1 : (0 : Int) ≤ (j : Int) := by omega
                have z2 : (j : Int) < (n : Int) := by omega
                have hlen1 : (encs ((xs.map triOf).take j)).length + (formN o.n).length + (formN (flagW o.i)).length ≤ Y.length := by
                  have h1 : (triOf o).enc.length = (formN o.n).length + ((formN (flagW o.i)).length + ((formN o.b.length).length + o.b.length)) := by
                    unfold Tri.enc triOf
                    simp only [List.length_append]
                  omega
                change Rd.num _ _ = (o.n, ⟨Y, (encs ((xs.map triOf).take j)).length + (formN o.n).length, 0⟩) at hw1
                change Rd.num ⟨Y, (encs ((xs.map triOf).take j)).length + (formN o.n).length, 0⟩ 1 = (flagW o.i, ⟨Y, (encs ((xs.map triOf).take j)).length + (formN o.n).length + (formN (flagW o.i)).length, 0⟩) at hw2
                change Rd.raw ⟨Y, (encs ((xs.map triOf).take j)).length + (formN o.n).length + (formN (flagW o.i)).length, 0⟩ (o.b.length : Int) = (o.b, ⟨Y, (encs ((xs.map triOf).take (j + 1))).length, 0⟩) at hw3
                generalize (encs ((xs.map triOf).take j)).length = a0 at *
                generalize hp3 : (encs ((xs.map triOf).take (j + 1))).length = a3 at *
                obtain ⟨a1, ha1⟩ : ∃ a1, a1 = a0 + (formN o.n).length := ⟨_, rfl⟩
                rw [← ha1] at hw1 hw2 hw3 hlen1
                obtain ⟨a2, ha2⟩ : ∃ a2, a2 = a1 + (formN (flagW o.i)).length := ⟨_, rfl⟩
                rw [← ha2] at hw2 hw3 hlen1
                have hYl := HYlen.out
                have okf : ∀ x, x ≤ Y.length → Rd.Ok ⟨Y, x, 0⟩ := fun x hx => ⟨HYok.out, hx, by show Y.length ≤ _; omega, by simp, by simp⟩
                have HNa := Lib.hid (fun X (h : RdAt X g2 A3 c3 ⟨Y, a0, 0⟩) => rnum_any g2 A3 c3 ⟨Y, a0, 0⟩ (okf a0 (by omega)) 18446744073709551615 (by omega) X h)
                have HNb := Lib.hid (fun X (h : RdAt X g2 A3 c3 ⟨Y, a1, 0⟩) => rflag_any g2 A3 c3 ⟨Y, a1, 0⟩ (okf a1 (by omega)) X h)
                have HNc := Lib.hid (fun X (h : RdAt X g2 A3 c3 ⟨Y, a2, 0⟩) => rraw_any g2 A3 c3 ⟨Y, a2, 0⟩ (okf a2 (by omega)) (by show Y.length ≤ _; omega) (o.b.length : Int) (by unfold i64ok; have := HSh.out; omega) X h)
                rw [hw1] at HNa
                rw [hw2] at HNb
                rw [hw3] at HNc
                obtain ⟨bv, i1, i2⟩ : ∃ bv, isOne (flagW o.i) = bv ∧ (o.i == 1) = bv := by
                  unfold flagW
                  by_cases h : o.i = 1
                  · rw [if_pos h, h]; exact ⟨true, rfl, rfl⟩
                  · rw [if_neg h]; exact ⟨false, rfl, beq_eq_false_iff_ne.2 h⟩
                rw [i1] at HNb
                have HSm : Hid (∀ (X : World) (A1 : Option Addr) (c1 : Nat), Chg (only g2) (wr.alloc (.cells #[.int .i64 o.kind, .int .i64 o.i, .int .u64 o.n, .slice o.A o.b.length o.c] 47)) X → (∃ X', OwnB X' (.slice A1 o.b.length c1) o.b ∧ X = X') → Calls Try.prog 21 #[.slice A1 o.b.length c1, .slice o.A o.b.length o.c] X fun e W' => e = .returned (.bool true) ∧ Below X.heap.size X W') := Lib.hid fun X A1 c1 hX ⟨X', h1, hXe⟩ => by
                  subst hXe
                  obtain ⟨D1, d1, e1, y1, zz, _⟩ := h1.form
                  simp only [Value.slice.injEq, true_and] at e1
                  obtain ⟨rfl, rfl⟩ := e1
                  have hbx : Below w.heap.size w X := (hBw.out.alloc hBw.out.size _).trans (hX.toBelow (B := w.heap.size) (fun k hk => by unfold only at hk; omega) (Nat.le_trans hBw.out.size (by simp)))
                  have := same5_any A1 o.A o.b o.b o.b.length c1 o.b.length o.c rfl rfl zz zz X y1 (HO.out.b.bys.below hbx (Nat.le_refl _))
                  rwa [show sameL o.b o.b = true by simp [sameL]] at this
                have VRd : Hid (RdAt (wr.alloc (.cells #[.int .i64 o.kind, .int .i64 o.i, .int .u64 o.n, .slice o.A o.b.length o.c] 47)) g2 A3 c3 ⟨Y, a0, 0⟩) := Lib.hid (hR.out.stay ((Below.refl _ wr).alloc (Nat.le_refl _) _))
                have VC : Hid (Chg (only g2) w5 (wr.alloc (.cells #[.int .i64 o.kind, .int .i64 o.i, .int .u64 o.n, .slice o.A o.b.length o.c] 47))) := Lib.hid (hC.out.alloc _)
                have hgO : ¬ only g2 wr.heap.size := by have := hR.out.lt; unfold only; omega
                have hgl : wr.heap.size < (wr.alloc (.cells #[.int .i64 o.kind, .int .i64 o.i, .int .u64 o.n, .slice o.A o.b.length o.c] 47)).heap.size := by simp
                have VR : Hid (row (wr.alloc (.cells #[.int .i64 o.kind, .int .i64 o.i, .int .u64 o.n, .slice o.A o.b.length o.c] 47)) wr.heap.size = some #[.int .i64 o.kind, .int .i64 o.i, .int .u64 o.n, .slice o.A o.b.length o.c]) := Lib.hid (row_at _ _ _ _ rfl)
                have b0 := bneI (o.n : Int)
                have HP3 := Lib.hid hp3
                clear hcell hxj hmem hw1 hw2 hw3 hat hle hlen1 ha1 ha2 okf hYl hR hC hp3 i1 hT hBw
                go_wp2_with fail
                generalize (wr.alloc (.cells #[.int .i64 o.kind, .int .i64 o.i, .int .u64 o.n, .slice o.A o.b.length o.c] 47)) = V at *
                generalize wr.heap.size = gO at *
                have HK : Hid (∀ W, Chg (only g2) V W → W.cell? ⟨gO, 1, none⟩ = some (.int .i64 o.i) ∧ W.cell? ⟨gO, 2, none⟩ = some (.int .u64 o.n) ∧ W.cell? ⟨gO, 3, none⟩ = some (.slice o.A o.b.length o.c)) := Lib.hid fun W h => ⟨(h.cell hgl hgO 1).trans (row_cell VR.out 1), (h.cell hgl hgO 2).trans (row_cell VR.out 2), (h.cell hgl hgO 3).trans (row_cell VR.out 3)⟩
                go_region_held3 (fun w' => w'.cell? ⟨gO, 1, none⟩ = some (.int .i64 o.i) ∧ w'.cell? ⟨gO, 2, none⟩ = some (.int .u64 o.n) ∧ w'.cell? ⟨gO, 3, none⟩ = some (.slice o.A o.b.length o.c)) (exact HK.out _ (by first | assumption | exact (Chg.refl _ _).drew | fail)) (first | (go_at_call 17; refine (HNa.out _ VRd.out.drew).mono ?_; rintro e wa ⟨rfl, hRa, hca⟩; have kca : Chg (only g2) V wa := one_of hca (by first | assumption | exact (Chg.refl _ _).drew | fail)) | (go_at_call 34; refine (HNb.out _ hRa).mono ?_; rintro e wb ⟨rfl, hRb, hcb⟩; have kcb : Chg (only g2) V wb := one_of hcb kca) | (go_at_call 35; refine (HNc.out _ hRb).mono ?_; rintro e wc ⟨Ac, cc, rfl, hOc, hQc, hRc, hcc⟩; have kcc : Chg (only g2) V wc := one_of hcc kcb) | (go_at_call 21; refine (HSm.out _ Ac cc kcc ⟨_, hOc, rfl⟩).mono ?_; rintro e wd ⟨rfl, hbd⟩; have kcd : Chg (only g2) V wd := kcc.below_then hbd (Nat.le_refl _)))
                have T1 := Lib.hid (hRc.stay hbd)
                have T2 := Lib.hid (VC.out.andThen kcd (fun k hk => .inl hk))
                clear hRa hca kca hRb hcb kcb hOc hQc hRc hcc kcc hbd kcd HK
                go_wp2_with fail
                exact ⟨⟨j + 1, by go_num, by omega, by rw [HP3.out]; exact T1, T2⟩, by simp [intOf]; omega⟩
              · obtain rfl : n = j := by omega
                have hfull : (encs ((xs.map triOf).take n)).length = ny := by rw [List.take_of_length_le (by rw [List.length_map, HN.out]; exact Nat.le_refl _), ← HY.out, HNy.out]
                rw [hfull] at hR
                have hdone : Rd.done ⟨Y, ny, 0⟩ = 0 := by unfold Rd.done; rw [if_neg]; rintro ⟨_, h2⟩; simp only [] at h2; rw [HNy.out] at h2; omega
                have HDn := Lib.hid (rdone_any g2 A3 c3 ⟨Y, ny, 0⟩ ⟨HYok.out, by show ny ≤ Y.length; rw [HNy.out]; exact Nat.le_refl _, by show Y.length ≤ _; rw [HNy.out]; omega, by simp, by simp⟩ wr hR.out)
                rw [hdone] at HDn
                have bq := bneI (ny : Int)
                clear hfull hdone hBw
                go_wp2_with fail
                refine (HDn.out).mono ?_
                rintro e w6 ⟨rfl, hR6, hC6⟩
                have R6 := Lib.hid hR6
                have C6 := Lib.hid (hC.out.andThen hC6 (fun k hk => .inl hk))
                clear hR6 hC6 hR hC HDn
                go_wp2_with fail
                refine (rat_any g2 A3 c3 _ _ R6.out).mono ?_
                rintro e w7 ⟨rfl, rfl⟩
                have B6 := Lib.hid (B5.out.trans (C6.out.toBelow (B := w.heap.size) (fun k hk => by unfold only at hk; omega) B5.out.size))
                have Y6 := Lib.hid (Y5.out.chg C6.out HAb5.out)
                clear R6 C6 B5 Y5
                rcases Nat.eq_zero_or_pos ny with rfl | hpos
                · go_wp2_with fail
                  go_ret
                  exact ⟨rfl, B6.out⟩
                · have p1 : ((ny : Int) == 0) = false := beq_eq_false_iff_ne.2 (by omega)
                  have p2 : (ny : Int) ≠ 0 := by omega
                  obtain ⟨kk, hkk⟩ : ∃ kk, kk = cN % ny := ⟨_, rfl⟩
                  have hkl : kk < ny := by rw [hkk]; exact Nat.mod_lt _ hpos
                  have E1 : (cN : Int) % (ny : Int) = (kk : Int) := by rw [hkk]; exact (Int.natCast_emod cN ny).symm
                  have hcut := fun W => run_headb Ab ny cb kk (by omega) W
                  have HCutB : Hid (∀ W, Bys W Ab Y → Bys W (cutA Ab cb 0) (Y.take kk)) := Lib.hid fun W h => cutA_bys (lo := 0) (n := kk) h (by rw [HNy.out]; omega) (by rw [HNy.out]; omega)
                  have HKl : Hid ((Y.take kk).length = kk) := Lib.hid (by rw [List.length_take, HNy.out]; omega)
                  have HOp2 := Lib.hid (fun W (h : Bys W (cutA Ab cb 0) (Y.take kk)) => ropen_any (cutA Ab cb 0) kk cb (Y.take kk) HKl.out (by omega) W h)
                  have HKY : Hid (kk < (encs (xs.map triOf)).length) := Lib.hid (by rw [← HY.out, HNy.out]; exact hkl)
                  have HP0 : Hid (Part (xs.map triOf) kk 0 ⟨Y.take kk, 0, 0⟩) := Lib.hid (.inr ⟨by rw [HY.out]; rfl, by simp [encs]⟩)
                  have HYt : Hid (bytesOk (Y.take kk)) := Lib.hid (HYok.out.take kk)
                  clear hkk
                  go_wp2_with fail
                  refine (HOp2.out _ (HCutB.out _ Y6.out)).mono ?_
                  rintro e w8 ⟨g4, A4, c4, rfl, hg4, hA4, hR8, hb8⟩
                  have R8 := Lib.hid hR8
                  have B8 := Lib.hid (Below.then B6.out hb8)
                  have hg4w : w.heap.size ≤ g4 := by have := B6.out.size; omega
                  clear hg4 hA4 hR8 hb8 B6 Y6 hcut HOp2 HCutB E1
                  go_wp2_with fail
                  go_loopw [116] (fun i wr => ∃ (j : Nat) (t : Rd), i = .int .i64 j ∧ j ≤ n ∧ Hid t.Ok ∧ Hid (t.xs = Y.take kk) ∧ Hid (Part (xs.map triOf) kk j t) ∧ Hid (RdAt wr g4 A4 c4 t) ∧ Hid (Below w.heap.size w wr)) (fun i _ => n - (intOf i).toNat)
                  case atStart => exact ⟨0, _, rfl, by omega, Lib.hid ⟨HYt.out, by simp, by show (Y.take kk).length ≤ _; rw [HKl.out]; omega, by simp, by simp⟩, Lib.hid rfl, HP0, R8, B8⟩
                  case round =>
                    clear R8 B8 HP0
                    obtain ⟨j, t, rfl, hj, hok, htx, hP, hR, hB⟩ := hrel
                    by_cases hlt : j < n
                    · obtain ⟨b, off, rfl, hbb, hcell⟩ := HU.out (by rw [HN.out]; omega)
                      obtain ⟨o, hxj⟩ : ∃ o, xs[j]? = some o := ⟨_, List.getElem?_eq_getElem (by rw [HN.out]; omega)⟩
                      have hmem := List.mem_of_getElem? hxj
                      have HSh : Hid (o.b.length ≤ 140000) := Lib.hid (HF.out.2 o hmem)
                      have HPn := Lib.hid (Part.step hP.out (tri_at hxj) (HTri.out o hmem) HKY.out)
                      have e1 : Tri.get t (triOf o) = (((t.num 18446744073709551615).2.num 1).2.raw (o.b.length : Int)).2 := rfl
                      rw [e1] at HPn
                      obtain ⟨k0, k1, k2, k3⟩ := op5_cells (range_below (hcell j _ hxj) hB.out hbb)
                      have z1 : (0 : Int) ≤ (j : Int) := by omega
                      have z2 : (j : Int) < (n : Int) := by omega
                      have x1 := (t.num_xs 18446744073709551615).trans htx.out
                      have x2 := ((t.num 18446744073709551615).2.num_xs 1).trans x1
                      have x3 := (((t.num 18446744073709551615).2.num 1).2.raw_xs (o.b.length : Int)).trans x2
                      have hok1 := hok.out.num 18446744073709551615
                      have hok2 := hok1.num 1
                      have hok3 := hok2.raw (o.b.length : Int)
                      have HNa := Lib.hid (fun X (h : RdAt X g4 A4 c4 t) => rnum_any g4 A4 c4 t hok.out 18446744073709551615 (by omega) X h)
                      have HNb := Lib.hid (fun X (h : RdAt X g4 A4 c4 (t.num 18446744073709551615).2) => rflag_any g4 A4 c4 _ hok1 X h)
                      have HNc := Lib.hid (fun X (h : RdAt X g4 A4 c4 ((t.num 18446744073709551615).2.num 1).2) => rraw_any g4 A4 c4 _ hok2 (by rw [x2, HKl.out]; omega) (o.b.length : Int) (by unfold i64ok; have := HSh.out; omega) X h)
                      have HX3 := Lib.hid x3
                      have HO3 := Lib.hid hok3
                      generalize (t.num 18446744073709551615).1 = v1 at *
                      generalize (t.num 18446744073709551615).2 = t1 at *
                      generalize (t1.num 1).1 = v2 at *
                      generalize (t1.num 1).2 = t2 at *
                      generalize (t2.raw (o.b.length : Int)).1 = l3 at *
                      generalize (t2.raw (o.b.length : Int)).2 = t3 at *
                      have VRd : Hid (RdAt (wr.alloc (.cells #[.int .i64 o.kind, .int .i64 o.i, .int .u64 o.n, .slice o.A o.b.length o.c] 47)) g4 A4 c4 t) := Lib.hid (hR.out.stay ((Below.refl _ wr).alloc (Nat.le_refl _) _))
                      have VB : Hid (Below w.heap.size w (wr.alloc (.cells #[.int .i64 o.kind, .int .i64 o.i, .int .u64 o.n, .slice o.A o.b.length o.c] 47))) := Lib.hid (hB.out.alloc hB.out.size _)
                      have hgO : ¬ only g4 wr.heap.size := by have := hR.out.lt; unfold only; omega
                      have hgl : wr.heap.size < (wr.alloc (.cells #[.int .i64 o.kind, .int .i64 o.i, .int .u64 o.n, .slice o.A o.b.length o.c] 47)).heap.size := by simp
                      have VR : Hid (row (wr.alloc (.cells #[.int .i64 o.kind, .int .i64 o.i, .int .u64 o.n, .slice o.A o.b.length o.c] 47)) wr.heap.size = some #[.int .i64 o.kind, .int .i64 o.i, .int .u64 o.n, .slice o.A o.b.length o.c]) := Lib.hid (row_at _ _ _ _ rfl)
                      clear hcell hxj hmem e1 x1 x2 x3 hok1 hok2 hok3 hR hB hok htx hP
                      go_wp2_with fail
                      generalize (wr.alloc (.cells #[.int .i64 o.kind, .int .i64 o.i, .int .u64 o.n, .slice o.A o.b.length o.c] 47)) = V at *
                      generalize wr.heap.size = gO at *
                      refine (HNa.out _ VRd.out).mono ?_
                      rintro e wa ⟨rfl, hRa, hca⟩
                      have Ra := Lib.hid hRa
                      have Ca := Lib.hid hca
                      clear hRa hca
                      go_wp2_with fail
                      refine (HNb.out _ Ra.out).mono ?_
                      rintro e wb ⟨rfl, hRb, hcb⟩
                      have Rb := Lib.hid hRb
                      have Cb := Lib.hid (one_of hcb Ca.out)
                      have kb : wb.cell? ⟨gO, 3, none⟩ = some (.slice o.A o.b.length o.c) := (Cb.out.cell hgl hgO 3).trans (row_cell VR.out 3)
                      clear hRb hcb Ra Ca
                      go_wp2_with fail
                      refine (HNc.out _ Rb.out).mono ?_
                      rintro e wc ⟨Ac, cc, rfl, hOc, hQc, hRc, hcc⟩
                      have Rc := Lib.hid hRc
                      have Cc := Lib.hid (one_of hcc Cb.out)
                      have Bc := Lib.hid (VB.out.trans (Cc.out.toBelow (B := w.heap.size) (fun k hk => by unfold only at hk; omega) VB.out.size))
                      clear hOc hQc hRc hcc kb Rb Cb
                      go_wp2_with fail
                      exact ⟨⟨j + 1, t3, by go_num, by omega, HO3, HX3, HPn, Rc, Bc⟩, by simp [intOf]; omega⟩
                    · obtain rfl : n = j := by omega
                      have he50 : t.e = 50 := Part.end_ (by have := hP.out; rwa [show n = (xs.map triOf).length by rw [List.length_map, HN.out]] at this) HKY.out
                      have HEr := Lib.hid (rerr_any g4 A4 c4 t wr hR.out)
                      rw [he50] at HEr
                      clear he50 HU
                      go_wp2_with fail
                      refine (HEr.out).mono ?_
                      rintro e w9 ⟨rfl, rfl⟩
                      go_wp2_with fail
                      go_ret
                      exact ⟨rfl, hB.out⟩
          · have he3 : s.e = 3 := by rcases hzb.out with h | h; exact absurd h h0; exact h
            have HOL : outL s = [] := by simp [outL, h0]
            rw [HOL, he3]
            clear hall h0 HOL he3 hzb hsp hok
            go_wp2_with fail
            go_ret
            exact ⟨rfl, B4.out⟩
    · clear hf
      go_wp2_with fail
      go_ret
      exact ⟨rfl, Below.then hb1 hb2⟩
end Go.Proofs.Yteppkbjjldnniaa

/-
  Layer 38: whatever reports are added, what is kept, what is told of any epochs, and all together, are the document's.
-/
import Derived.Test.YtnakkjgnjffkpaaLaw38p
import Derived.Deep.MidRow
namespace Go.Proofs.Ytnakkjgnjffkpaa
open Go.RowKit
set_option linter.unusedVariables false
set_option linter.unusedSimpArgs false

def spnK (x : Int × Int) : Array Value := #[.int .i64 x.1, .int .i64 x.2]
theorem spnq_under : Try.prog.underlying 43 = some (.struct (Try.prog.fieldsOf 43)) := by kernel_rfl
theorem spnq_info : (Try.prog.info? 43).map (·.size) = some 2 := by kernel_rfl
theorem spnq_load {dst : Option Tmp} {x : Operand} {ty : TypeId} {pos : String} {after : Array Edge} {gd : Option (Nat × Bool)} {a : Act} {w : World} {K : Act → World → Prop} {Q : Exit → Act → World → Prop} (h1 : a.eval x = .pointer (some ⟨blk (a.eval x), ofs (a.eval x), none⟩)) (h2 : (row w (blk (a.eval x))).map (roomy (ofs (a.eval x)) 2) = some true) : Oper.wp Try.prog ⟨dst, .load 43 x, ty, pos, after, gd⟩ a w K Q = K (a.put dst (.agg (((row w (blk (a.eval x))).getD #[]).extract (ofs (a.eval x)) (ofs (a.eval x) + 2)))) w := wp_load_part _ 2 _ spnq_under rfl spnq_info h1 h2
theorem spnq_store {dst : Option Tmp} {x : Operand} {ty : TypeId} {pos : String} {after : Array Edge} {gd : Option (Nat × Bool)} {y : Operand} {a : Act} {w : World} {K : Act → World → Prop} {Q : Exit → Act → World → Prop} (h1 : a.eval x = .pointer (some ⟨blk (a.eval x), 0, none⟩)) (h2 : (row w (blk (a.eval x))).map (·.size) = some 2) (h3 : a.eval y = .agg (aggOf (a.eval y))) (h4 : (aggOf (a.eval y)).size = 2) (h5 : allOne (aggOf (a.eval y)) = true) : Oper.wp Try.prog ⟨dst, .store 43 x y, ty, pos, after, gd⟩ a w K Q = K (a.put dst undef) (w.setRow (blk (a.eval x)) (aggOf (a.eval y))) := wp_store_agg _ 2 spnq_info h1 h2 h3 h4 h5
theorem spnq_run_load {ρ : Operand → Value} {dst : Option Tmp} {x : Operand} {ty : TypeId} {pos : String} {after : Array Edge} {gd : Option (Nat × Bool)} {w : World} (h1 : ρ x = .pointer (some ⟨blk (ρ x), ofs (ρ x), none⟩)) (h2 : (row w (blk (ρ x))).map (roomy (ofs (ρ x)) 2) = some true) : (execOp ρ ⟨dst, .load 43 x, ty, pos, after, gd⟩).run Try.prog w = .ok (.value (.agg (((row w (blk (ρ x))).getD #[]).extract (ofs (ρ x)) (ofs (ρ x) + 2)))) w := run_load_part _ 2 _ spnq_under rfl spnq_info h1 h2
theorem spnq_quiet {C : World → Prop} {dst : Option Tmp} {x : Operand} {ty : TypeId} {pos : String} {after : Array Edge} {gd : Option (Nat × Bool)} {a : Act} {w : World} {g o : Nat} {cs : Array Value} (h1 : a.eval x = .pointer (some ⟨g, o, none⟩)) (h2 : row w g = some cs) (hs : roomy o 2 cs = true) : Oper.quietAt Try.prog ⟨dst, .load 43 x, ty, pos, after, gd⟩ a C w (.agg (cs.extract o (o + 2))) := quiet_load_part _ 2 _ spnq_under rfl spnq_info h1 h2 hs
attribute [go_sem ↓] spnq_load spnq_store spnq_run_load
theorem spnK_one (x : Int × Int) : allOne (spnK x) = true := by unfold allOne spnK; simp [Value.oneCell']
theorem spnK_size (x : Int × Int) : (spnK x).size = 2 := rfl
attribute [go_sem] spnK_one spnK_size
theorem rep_quietO {C : World → Prop} {o : Oper} {x : Operand} (ho : o.op = .load 36 x) {a : Act} {w : World} {g : Nat} {y : Rep × RepA}
    (h1 : a.eval x = .pointer (some ⟨g, 0, none⟩)) (h2 : row w g = some (repC y)) : Oper.quietAt Try.prog o a C w (.agg (repC y)) := by
  obtain ⟨d, op, ty, pos, af, gd⟩ := o
  have ho' : op = .load 36 x := ho
  subst ho'
  exact rep_quiet h1 h2 (repC_room y)
theorem rmid_quietO {C : World → Prop} {o : Oper} {x : Operand} (ho : o.op = .load 40 x) {a : Act} {w : World} {b off : Nat} {y : Rep × RepA}
    (h1 : a.eval x = .pointer (some ⟨b, off, none⟩)) (h2 : w.rangeAt b off (repC y).toList) : Oper.quietAt Try.prog o a C w (.agg (repC y)) := by
  have hi : (Try.prog.info? 40).map (·.size) = some (repC y).toList.length := by rw [rrep_info]; rfl
  have := run_loadVar_mid (P := Try.prog) w b off 40 (repC y).toList _ h2 rrep_under rfl hi
  unfold Oper.quietAt execOp
  simp only [ho, h1, Instr.loadAt, Instr.sureAddr, Sem.run_bind, Sem.run_pure, Result.andThen_ok, this]
  exact ⟨rfl, rfl⟩
set_option maxRecDepth 100000 in
set_option maxHeartbeats 8000000 in
theorem annalsPlays_any (most : Int) (A0 A1 : Option Addr) (n0 c0 n1 c1 : Nat) (ys : List (Rep × RepA)) (sp : List (Int × Int)) (w : World) (hmo : i64ok most) (hn0 : ys.length = n0) (hm0 : n0 ≤ 9223372036854775807) (hn1 : sp.length = n1) (hm1 : n1 ≤ 9223372036854775807) (hIn : ∀ x ∈ ys, x.1.Ok ∧ RepAt w x) (hU0 : SliceOf 14 repC w A0 ys) (hsp : ∀ x ∈ sp, i64ok x.1 ∧ i64ok x.2) (hU1 : SliceOf 2 spnK w A1 sp) :
    Calls Try.prog 3 #[.int .i64 most, .slice A0 n0 c0, .slice A1 n1 c1] w fun e w' => e = .returned (.bool true) ∧ Below w.heap.size w w' := by
  have HIn := Lib.hid hIn
  have HU0 := Lib.hid hU0
  have HU1 := Lib.hid hU1
  have HN0 := Lib.hid hn0
  have HN1 := Lib.hid hn1
  have HSp := Lib.hid hsp
  clear hIn hU0 hU1 hn0 hn1 hsp
  by_cases hbig : 100 < n0 ∨ 40 < n1
  · by_cases hb0 : 100 < n0
    · have y1 : (100 : Int) < (n0 : Int) := by omega
      go_enter Try.func3, Try.ntmps3
      go_wp2_with fail
      refine (awake38_any w).mono ?_
      rintro e w1 ⟨rfl, hb1⟩
      go_wp2_with fail
      go_ret
      exact ⟨rfl, hb1⟩
    · have y1 : ¬ (100 : Int) < (n0 : Int) := by omega
      have y2 : (40 : Int) < (n1 : Int) := by omega
      go_enter Try.func3, Try.ntmps3
      go_wp2_with fail
      refine (awake38_any w).mono ?_
      rintro e w1 ⟨rfl, hb1⟩
      go_wp2_with fail
      go_ret
      exact ⟨rfl, hb1⟩
  have y1 : ¬ (100 : Int) < (n0 : Int) := by omega
  have y2 : ¬ (40 : Int) < (n1 : Int) := by omega
  have HPo := Lib.hid (new38_any most)
  by_cases hrange : 1 ≤ most ∧ most ≤ 64
  rotate_left
  · have hc : most < 1 ∨ (¬ most < 1 ∧ 64 < most) := by omega
    rcases hc with h | ⟨h, h'⟩
    all_goals
      go_enter Try.func3, Try.ntmps3
      go_wp2_with fail
      refine (awake38_any w).mono ?_
      rintro e w1 ⟨rfl, hb1⟩
      go_wp2_with fail
      refine (HPo.out w1).mono ?_
      intro e w2 h2
      unfold NewPost38 at h2
      rw [if_neg hrange] at h2
      obtain ⟨rfl, rfl⟩ := h2
      go_wp2_with fail
      go_ret
      exact ⟨rfl, hb1⟩
  · obtain ⟨mo, rfl⟩ : ∃ m : Nat, most = (m : Int) := ⟨most.toNat, by omega⟩
    have h1 : ¬ (mo : Int) < 1 := by omega
    have h2 : ¬ (64 : Int) < (mo : Int) := by omega
    go_enter Try.func3, Try.ntmps3
    go_wp2_with fail
    refine (awake38_any w).mono ?_
    rintro e w1 ⟨rfl, hb1⟩
    go_wp2_with fail
    refine (HPo.out w1).mono ?_
    intro e w2 h3
    unfold NewPost38 at h3
    rw [if_pos hrange] at h3
    obtain ⟨rfl, hb2, r2⟩ := h3
    have hB2 := Below.then hb1 hb2
    have P2 : row w2 w1.heap.size = some (anC Sm.zero mo (.slice none 0 0)) := r2
    have HB2 := Lib.hid hB2
    have hsz1 : Hid (w.heap.size ≤ w1.heap.size) := Lib.hid hb1.size
    clear hb1 hb2 r2 hB2
    go_upto_region 11 with (refine wpList_build_to (rfC mo (.slice none 0 0)) rfl 32 _ rfl (by rfl) ?_)
    have hB3 : Below w.heap.size w (w2.alloc (.cells (rfC mo (.slice none 0 0)) 32)) := Below.allocT HB2.out _
    have R3 : row (w2.alloc (.cells (rfC mo (.slice none 0 0)) 32)) w2.heap.size = some (rfC mo (.slice none 0 0)) := row_at _ _ _ _ rfl
    have P3 : row (w2.alloc (.cells (rfC mo (.slice none 0 0)) 32)) w1.heap.size = some (anC Sm.zero mo (.slice none 0 0)) := (row_past _ _ _ (row_lt P2)).trans P2
    have hlt12 := row_lt P2
    have hsz3 : (w2.alloc (.cells (rfC mo (.slice none 0 0)) 32)).heap.size = w2.heap.size + 1 := World.size_alloc _ _
    have S3 : Hid (PlS w1.heap.size w1.heap.size w2.heap.size mo (w2.alloc (.cells (rfC mo (.slice none 0 0)) 32)) 0 (.slice none 0 0) [] Sm.zero none 0 []) := Lib.hid
      ⟨an_new P3 (by omega) (by omega), ⟨R3, SliceOf.nil _ _, (fun x h => by simp at h), (fun x h => by simp at h), (fun x h => by simp at h), by simp, by simp, (fun x h => by simp at h), (fun h => (h rfl).elim), by omega⟩, by simp, rfl, (fun k _ => by obtain ⟨z, _, hz⟩ := mon_top Sm.zero k; rw [hz]; have : Sm.zero.mon z = 0 := (by match z with | 0 => rfl | 1 => rfl | 2 => rfl | 3 => rfl | z + 4 => rfl); omega), SeqR.nil, ⟨Nat.le_refl _, Nat.le_refl _, Nat.le_refl _, Nat.le_refl _, Nat.le_refl _, Nat.le_refl _, Nat.le_refl _⟩, by omega, (fun h => by cases h), Nat.le_refl _, by omega, (fun k h => by cases h), (fun h => (h rfl).elim), (fun x h => by simp at h), by simp⟩
    change Code.wp _ _ _ _ (w2.alloc (.cells (rfC mo (.slice none 0 0)) 32))
    clear R3 P3 P2 HB2
    generalize w2.alloc (.cells (rfC mo (.slice none 0 0)) 32) = w3 at *
    generalize w2.heap.size = gw at *
    generalize w1.heap.size = g at *
    have H3 : Hid (Below w.heap.size w w3 ∧ w.heap.size ≤ g ∧ g < gw ∧ w3.heap.size = gw + 1) := Lib.hid ⟨hB3, hsz1.out, hlt12, hsz3⟩
    clear hB3 hlt12 hsz3 hsz1
    go_wp2_with fail
    go_loopw [59] (fun i wr => ∃ j : Nat, i = .int .i64 j ∧ j ≤ n0 ∧ Hid (∃ v l s A c xs, PlS g g gw mo wr j v l s A c xs) ∧ Hid (Below g w3 wr)) (fun i _ => n0 - (intOf i).toNat)
    case atStart => exact ⟨0, rfl, by omega, Lib.hid ⟨_, _, _, _, _, _, S3.out⟩, Lib.hid (Below.refl _ _)⟩
    case round =>
      obtain ⟨j, rfl, hj, hI, hBw⟩ := hrel
      have hBW : Hid (Below w.heap.size w wr) := Lib.hid (H3.out.1.trans (hBw.out.mono H3.out.2.1))
      have hgw : Hid (g ≤ wr.heap.size) := Lib.hid (by have := hBw.out.size; have := H3.out; omega)
      by_cases hlt : j < n0
      · obtain ⟨b, off, rfl, hbb, hcell⟩ := HU0.out (by rw [HN0.out]; omega)
        obtain ⟨⟨r, a⟩, hxj⟩ : ∃ x, ys[j]? = some x := ⟨_, List.getElem?_eq_getElem (by rw [HN0.out]; exact hlt)⟩
        have hr := range_below (hcell j _ hxj) hBW.out hbb
        have HX := Lib.hid (HIn.out _ (List.mem_of_getElem? hxj))
        have hi : (Try.prog.info? 36).map (·.size) = some (repC (r, a)).toList.length := by rw [rep_info]; rfl
        have z1 : (0 : Int) ≤ (j : Int) := by omega
        have z2 : (j : Int) < (n0 : Int) := by omega
        have hz1 := repC_one (r, a)
        obtain ⟨v, l, s, A, c, xs, hS⟩ := hI.out
        clear hcell hxj hI
        go_upto_region 14 with (refine wpList_load_mid rfl 36 _ (by rfl) b (off + j * 14) (by rfl) (repC (r, a)).toList _ hr rep_under rfl hi ?_)
        refine of_world (fun W => Below wr.heap.size wr W ∧ row W wr.heap.size = some (repC (r, a))) ⟨(by (repeat (first | exact Below.refl _ _ | assumption | (refine Below.allocT ?_ _) | refine Below.drew ?_ | refine below_drewN ?_ _ | (refine Below.then ?_ (by assumption)) | (refine Below.setRow ?_ ?_ _; rotate_left; (focus (first | exact Nat.lt_succ_self _ | ((repeat rw [World.size_alloc]); omega) | (simp; done) | (simp; omega) | omega))) | (refine Below.setCell ?_ ?_ _; rotate_left; (focus (first | exact Nat.lt_succ_self _ | ((repeat rw [World.size_alloc]); omega) | (simp; done) | (simp; omega) | omega))) | (refine Below.then' ?_ (by assumption) ?_; rotate_left; (focus (first | exact Nat.lt_succ_self _ | ((repeat rw [World.size_alloc]); omega) | (simp; done) | (simp; omega) | omega))) | fail)); (first | done | fail)), by first | exact row_at _ _ _ _ rfl | (rw [row_setRow_if, if_pos rfl, row_at _ _ _ _ rfl]; rfl)⟩ ?_
        rintro w4 ⟨hb4, r4⟩
        have S4 := Lib.hid (hS.stay hb4)
        have B4 := Lib.hid (hBw.out.trans (hb4.mono hgw.out))
        have G4 : Hid (g ≤ w4.heap.size) := Lib.hid (Nat.le_trans hgw.out hb4.size)
        have W4 := Lib.hid (Below.then hBW.out hb4)
        have HNe : Hid (wr.heap.size ≠ g ∧ v.ownBlock ≠ some wr.heap.size ∧ wr.heap.size ≠ gw) := Lib.hid ⟨by have := row_lt hS.an.row; omega, fun e => by have := (hS.an.kept.lt _ e).2; omega, by have := row_lt hS.rf.row; omega⟩
        clear hr hi hb4 hS hBw hBW hgw
        generalize wr.heap.size = g11 at *
        generalize hfb : fewW r = fb at *
        go_wp2_with fail
        refine (few38_any r a w4).mono ?_
        rintro e w5 ⟨rfl, hb5⟩
        rw [hfb]
        have r5 := below_row hb5 r4 (row_lt r4)
        have S5 := Lib.hid (S4.out.stay hb5)
        have B5 := Lib.hid (B4.out.trans (hb5.mono G4.out))
        have G5 : Hid (g ≤ w5.heap.size) := Lib.hid (Nat.le_trans G4.out hb5.size)
        have W5 := Lib.hid (Below.then W4.out hb5)
        clear r4 hb5 S4 B4 G4 W4 hfb
        cases fb
        · go_wp2_with fail
          go_ret
          exact ⟨rfl, W5.out⟩
        · have hap : ∀ k, RepB (r, a) k → k < g := fun k hk => Nat.lt_of_lt_of_le (hk.lt HX.out.2) H3.out.2.1
          obtain ⟨ev, hev⟩ : ∃ ev, raddE (xs.map (·.1)) r = ev := ⟨_, rfl⟩
          have HA1 : Hid (∀ W, Below w5.heap.size w5 W → Calls Try.prog 15 #[.pointer (some ⟨g, 0, none⟩), .agg (repC (r, a))] W fun e W' => e = .returned (.int .i64 ev) ∧ PlM g g gw mo W' j (addL ev mo (l.map (·.1)) r) (addS' ev s r) A c xs ∧ Below g w5 W' ∧ row W' g11 = some (repC (r, a))) := Lib.hid fun W hW => by
            rw [← hev]
            refine ((S5.out.stay hW).add1 (Nat.le_trans G5.out hW.size) HX.out.1 (HX.out.2.below (Below.then W5.out hW) (Nat.le_refl _)) hap (by omega) ((row_below hW (row_lt r5)).trans r5) ⟨HNe.out.1, HNe.out.2.1⟩).mono ?_
            rintro e W' ⟨h1, h2, h3, h4⟩
            exact ⟨h1, h2, (hW.mono G5.out).trans h3, h4⟩
          have HA2 : Hid (∀ W, PlM g g gw mo W j (addL ev mo (l.map (·.1)) r) (addS' ev s r) A c xs → Below g w5 W → row W g11 = some (repC (r, a)) → Calls Try.prog 16 #[.pointer (some ⟨gw, 0, none⟩), .agg (repC (r, a))] W fun e W' => e = .returned (.int .i64 ev) ∧ (∃ v' l' s' A' c' xs', PlS g g gw mo W' (j + 1) v' l' s' A' c' xs') ∧ Below g w5 W' ∧ row W' g11 = some (repC (r, a))) := Lib.hid fun W hM hW h11 => by
            refine (PlM.add2 S5.out hev hM (Nat.le_trans G5.out hW.size) HX.out.1 (HX.out.2.below (W5.out.trans (hW.mono H3.out.2.1)) (Nat.le_refl _)) hap (by omega) h11 HNe.out.2.2).mono ?_
            rintro e W' ⟨h1, h2, h3, h4⟩
            exact ⟨h1, h2, hW.trans h3, h4⟩
          have HK : Hid (∀ W, (∃ v' l' s' A' c' xs', PlS g g gw mo W (j + 1) v' l' s' A' c' xs') → Calls Try.prog 17 #[.pointer (some ⟨g, 0, none⟩), .pointer (some ⟨gw, 0, none⟩)] W fun e w' => e = .returned (.bool true) ∧ Below W.heap.size W w') := Lib.hid fun W ⟨_, _, _, _, _, _, h⟩ => h.kept
          have lr5 := row_lt r5
          clear hev
          go_upto_region 16 with fail
          go_region_law (first | (go_simp; go_at_call 15; refine (HA1.out _ (by (repeat (first | exact Below.refl _ _ | assumption | (refine Below.allocT ?_ _) | refine Below.drew ?_ | refine below_drewN ?_ _ | (refine Below.then ?_ (by assumption)) | (refine Below.setRow ?_ ?_ _; rotate_left; (focus (first | exact Nat.lt_succ_self _ | ((repeat rw [World.size_alloc]); omega) | (simp; done) | (simp; omega) | omega))) | (refine Below.setCell ?_ ?_ _; rotate_left; (focus (first | exact Nat.lt_succ_self _ | ((repeat rw [World.size_alloc]); omega) | (simp; done) | (simp; omega) | omega))) | (refine Below.then' ?_ (by assumption) ?_; rotate_left; (focus (first | exact Nat.lt_succ_self _ | ((repeat rw [World.size_alloc]); omega) | (simp; done) | (simp; omega) | omega))) | fail)); (first | done | fail))).mono ?_; rintro e w6 ⟨rfl, hM6, hb6, t6⟩; have M6 := Lib.hid hM6; have B6 := Lib.hid hb6; have l6 := row_lt t6; clear hM6 hb6) | (go_simp; go_at_call 16; refine (HA2.out _ M6.out B6.out t6).mono ?_; rintro e w7 ⟨rfl, hI7, hb7, t7⟩; have I7 := Lib.hid hI7; have B7 := Lib.hid hb7; have l7 := row_lt t7; clear hI7 hb7) | (go_simp; go_at_call 17; refine (HK.out _ I7.out).mono ?_; rintro e w8 ⟨rfl, hb8⟩; have B8 := Lib.hid hb8; clear hb8))
          all_goals
            have HE : Hid (∃ v l s A c xs, PlS g g gw mo w8 (j + 1) v l s A c xs) := Lib.hid (by obtain ⟨v', l', s', A', c', xs', h⟩ := I7.out; exact ⟨v', l', s', A', c', xs', h.stay B8.out⟩)
            have HB : Hid (Below g w3 w8) := Lib.hid ((B5.out.trans B7.out).trans (B8.out.mono (Nat.le_trans G5.out B7.out.size)))
            go_wp2_with fail
            exact ⟨⟨j + 1, by go_num, by omega, HE, HB⟩, by simp [intOf]; omega⟩
      · obtain rfl : j = n0 := by omega
        obtain ⟨v, l, s, A, c, xs, hS⟩ := hI.out
        have HS := Lib.hid hS
        have HWr := Lib.hid hBW.out
        clear hI hBw hBW hgw hS S3 H3
        obtain ⟨wb, rfl⟩ : ∃ x, x = wr := ⟨_, rfl⟩
        go_wp2_with fail
        go_loopw [82] (fun i wq => ∃ q : Nat, i = .int .i64 q ∧ q ≤ n1 ∧ Hid (Below wb.heap.size wb wq)) (fun i _ => n1 - (intOf i).toNat)
        case atStart => exact ⟨0, rfl, by omega, Lib.hid (Below.refl _ _)⟩
        case round =>
          obtain ⟨q, rfl, hq, hBq⟩ := hrel
          have hBw : Hid (Below w.heap.size w wr) := Lib.hid (Below.then HWr.out hBq.out)
          by_cases hltq : q < n1
          · obtain ⟨b, off, rfl, hbb, hcell⟩ := HU1.out (by rw [HN1.out]; omega)
            obtain ⟨⟨fa, ta⟩, hxq⟩ : ∃ x, sp[q]? = some x := ⟨_, List.getElem?_eq_getElem (by rw [HN1.out]; exact hltq)⟩
            have hr := range_below (hcell q _ hxq) hBw.out hbb
            have HX := Lib.hid (HSp.out _ (List.mem_of_getElem? hxq))
            have hi : (Try.prog.info? 43).map (·.size) = some (spnK (fa, ta)).toList.length := by rw [spnq_info]; rfl
            have z1 : (0 : Int) ≤ (q : Int) := by omega
            have z2 : (q : Int) < (n1 : Int) := by omega
            have hz1 := spnK_one (fa, ta)
            clear hcell hxq
            go_upto_region 22 with (refine wpList_load_mid rfl 43 _ (by rfl) b (off + q * 2) (by rfl) (spnK (fa, ta)).toList _ hr spnq_under rfl hi ?_)
            refine of_world (fun W => Below wr.heap.size wr W ∧ row W wr.heap.size = some (spnK (fa, ta))) ⟨(by (repeat (first | exact Below.refl _ _ | assumption | (refine Below.allocT ?_ _) | refine Below.drew ?_ | refine below_drewN ?_ _ | (refine Below.then ?_ (by assumption)) | (refine Below.setRow ?_ ?_ _; rotate_left; (focus (first | exact Nat.lt_succ_self _ | ((repeat rw [World.size_alloc]); omega) | (simp; done) | (simp; omega) | omega))) | (refine Below.setCell ?_ ?_ _; rotate_left; (focus (first | exact Nat.lt_succ_self _ | ((repeat rw [World.size_alloc]); omega) | (simp; done) | (simp; omega) | omega))) | (refine Below.then' ?_ (by assumption) ?_; rotate_left; (focus (first | exact Nat.lt_succ_self _ | ((repeat rw [World.size_alloc]); omega) | (simp; done) | (simp; omega) | omega))) | fail)); (first | done | fail)), by first | exact row_at _ _ _ _ rfl | (rw [row_setRow_if, if_pos rfl, row_at _ _ _ _ rfl]; rfl)⟩ ?_
            rintro w4 ⟨hb4, r4⟩
            have S4 := Lib.hid (HS.out.stay (Below.then hBq.out hb4))
            have Q4 := Lib.hid (Below.then hBq.out hb4)
            have k0 : w4.cell? ⟨wr.heap.size, 0, none⟩ = some (.int .i64 fa) := row_cell r4 0
            have k1 : w4.cell? ⟨wr.heap.size, 1, none⟩ = some (.int .i64 ta) := row_cell r4 1
            have HRow := Lib.hid r4
            clear hr hi hb4 hBq hBw r4
            generalize wr.heap.size = g13 at *
            by_cases hta : ta = -9223372036854775808
            · subst hta
              have HW4 := Lib.hid (Below.then HWr.out Q4.out)
              go_wp2_with fail
              go_ret
              exact ⟨rfl, HW4.out⟩
            have e1 : (ta == -9223372036854775808) = false := beq_eq_false_iff_ne.2 hta
            obtain ⟨L, hL⟩ : ∃ L, l.map (·.1) = L := ⟨_, rfl⟩
            have HL := Lib.hid hL
            have HL2 : Hid ((xs.map (·.1)).drop (xs.length - mo) = L) := Lib.hid (by rw [← HS.out.rel]; exact hL)
            have HSum : Hid (∀ W, Below wb.heap.size wb W → Calls Try.prog 18 #[.pointer (some ⟨g, 0, none⟩), .int .i64 fa, .int .i64 ta] W fun e w' => e = .returned (.tuple #[.agg (smC (sumR L fa ta).1), .int .i64 (sumR L fa ta).2]) ∧ Below W.heap.size W w') := Lib.hid fun W hW => by
              have := sum38_any _ g mo s v l fa ta HX.out.1 HX.out.2 (fun hab i k hi hk => by
                rw [fndR_eq, HL.out] at hi hk
                have hseq : SeqR L := by rw [← HL2.out]; exact HS.out.seq.drop _
                have := hseq.le hab hi hk
                omega) W (HS.out.stay hW).an
              rwa [sumR_eq, HL.out] at this
            have HPart : Hid (∀ W, Below wb.heap.size wb W → Calls Try.prog 19 #[.pointer (some ⟨gw, 0, none⟩), .int .i64 fa, .int .i64 ta] W fun e w' => e = .returned (.tuple #[.agg (smC (sumR L fa ta).1), .int .i64 (sumR L fa ta).2]) ∧ Below W.heap.size W w') := Lib.hid fun W hW => by
              have := rpart_any gw mo A c xs fa ta HX.out.1 HX.out.2 hta W (HS.out.stay hW).rf HS.out.seq
              rwa [HL2.out] at this
            have HAt : Hid (∀ W, Below wb.heap.size wb W → Calls Try.prog 20 #[.pointer (some ⟨g, 0, none⟩), .int .i64 fa] W (AtPostR W fa L)) := Lib.hid fun W hW => by
              rw [← HL.out]
              exact (at38_any _ g mo s v l fa W (HS.out.stay hW).an).mono fun e W' h => atR_eq h
            have HFi : Hid (∀ W, Below wb.heap.size wb W → Calls Try.prog 21 #[.pointer (some ⟨gw, 0, none⟩), .int .i64 fa] W fun e w' => e = .returned (.int .i64 (rfndI mo (xs.map (·.1)) fa)) ∧ Below W.heap.size W w') := Lib.hid fun W hW => rfind_any gw mo A c xs fa W (HS.out.stay hW).rf
            have HRf : Hid (rfndI mo (xs.map (·.1)) fa = match fndR fa L with | some k => ((xs.length - mo + k : Nat) : Int) | none => -1) := Lib.hid (by unfold rfndI; rw [List.length_map, HL2.out]; cases fndR fa L <;> rfl)
            clear hL
            generalize (sumR L fa ta).1 = sv at *
            generalize (sumR L fa ta).2 = se at *
            go_wp2_with fail
            refine (HSum.out w4 Q4.out).mono ?_
            rintro e w5 ⟨rfl, hb5⟩
            have hz2 := smC_one sv
            have Q5 := Lib.hid (Below.then Q4.out hb5)
            have R5 := Lib.hid (below_row hb5 HRow.out (row_lt HRow.out))
            clear hb5 k0 k1 HRow
            go_upto_region 25 with fail
            refine of_world (fun W => Below w5.heap.size w5 W ∧ row W w5.heap.size = some (smC sv)) ⟨(by (repeat (first | exact Below.refl _ _ | assumption | (refine Below.allocT ?_ _) | refine Below.drew ?_ | refine below_drewN ?_ _ | (refine Below.then ?_ (by assumption)) | (refine Below.setRow ?_ ?_ _; rotate_left; (focus (first | exact Nat.lt_succ_self _ | ((repeat rw [World.size_alloc]); omega) | (simp; done) | (simp; omega) | omega))) | (refine Below.setCell ?_ ?_ _; rotate_left; (focus (first | exact Nat.lt_succ_self _ | ((repeat rw [World.size_alloc]); omega) | (simp; done) | (simp; omega) | omega))) | (refine Below.then' ?_ (by assumption) ?_; rotate_left; (focus (first | exact Nat.lt_succ_self _ | ((repeat rw [World.size_alloc]); omega) | (simp; done) | (simp; omega) | omega))) | fail)); (first | done | fail)), by first | exact row_at _ _ _ _ rfl | (rw [row_setRow_if, if_pos rfl, row_at _ _ _ _ rfl]; rfl)⟩ ?_
            rintro w6 ⟨hb6, s6⟩
            have Q6 := Lib.hid (Below.then Q5.out hb6)
            have R6 := Lib.hid (below_row hb6 R5.out (row_lt R5.out))
            have S6 := Lib.hid s6
            have k0 : w6.cell? ⟨g13, 0, none⟩ = some (.int .i64 fa) := row_cell R6.out 0
            have k1 : w6.cell? ⟨g13, 1, none⟩ = some (.int .i64 ta) := row_cell R6.out 1
            clear hb6 s6 R5
            generalize w5.heap.size = g14 at *
            go_wp2_with fail
            refine (HPart.out w6 Q6.out).mono ?_
            rintro e w7 ⟨rfl, hb7⟩
            have Q7 := Lib.hid (Below.then Q6.out hb7)
            have R7 := Lib.hid (And.intro (below_row hb7 R6.out (row_lt R6.out)) (below_row hb7 S6.out (row_lt S6.out)))
            clear hb7 k0 k1 R6 S6
            go_upto_region 26 with fail
            refine of_world (fun W => Below w7.heap.size w7 W ∧ row W w7.heap.size = some (smC sv)) ⟨(by (repeat (first | exact Below.refl _ _ | assumption | (refine Below.allocT ?_ _) | refine Below.drew ?_ | refine below_drewN ?_ _ | (refine Below.then ?_ (by assumption)) | (refine Below.setRow ?_ ?_ _; rotate_left; (focus (first | exact Nat.lt_succ_self _ | ((repeat rw [World.size_alloc]); omega) | (simp; done) | (simp; omega) | omega))) | (refine Below.setCell ?_ ?_ _; rotate_left; (focus (first | exact Nat.lt_succ_self _ | ((repeat rw [World.size_alloc]); omega) | (simp; done) | (simp; omega) | omega))) | (refine Below.then' ?_ (by assumption) ?_; rotate_left; (focus (first | exact Nat.lt_succ_self _ | ((repeat rw [World.size_alloc]); omega) | (simp; done) | (simp; omega) | omega))) | fail)); (first | done | fail)), by first | exact row_at _ _ _ _ rfl | (rw [row_setRow_if, if_pos rfl, row_at _ _ _ _ rfl]; rfl)⟩ ?_
            rintro w8 ⟨hb8, s8⟩
            have Q8 := Lib.hid (Below.then Q7.out hb8)
            have R8 := Lib.hid (And.intro (below_row hb8 R7.out.1 (row_lt R7.out.1)) (And.intro (below_row hb8 R7.out.2 (row_lt R7.out.2)) s8))
            have k0 : w8.cell? ⟨g13, 0, none⟩ = some (.int .i64 fa) := row_cell R8.out.1 0
            clear hb8 s8 R7
            generalize w7.heap.size = g16 at *
            go_wp2_with fail
            refine (HAt.out w8 Q8.out).mono ?_
            intro e w9 hAt9
            unfold AtPostR at hAt9
            obtain ⟨hb9, hm9⟩ := hAt9
            have Q9 := Lib.hid (Below.then Q8.out hb9)
            have R9 := Lib.hid (And.intro (below_row hb9 R8.out.1 (row_lt R8.out.1)) (And.intro (below_row hb9 R8.out.2.1 (row_lt R8.out.2.1)) (below_row hb9 R8.out.2.2 (row_lt R8.out.2.2))))
            clear hb9 k0 R8
            cases hf : fndR fa L with
            | none =>
              rw [hf] at hm9 HRf
              have hm9 : e = .returned (.tuple #[.agg (repC (Rep.zero, RepA.nil)), .int .i64 200]) := hm9
              subst hm9
              rw [HRf.out] at HFi
              have hz3 := repC_one (Rep.zero, RepA.nil)
              go_upto_region 27 with fail
              refine of_world (fun W => Below w9.heap.size w9 W ∧ row W w9.heap.size = some (repC (Rep.zero, RepA.nil))) ⟨(by (repeat (first | exact Below.refl _ _ | assumption | (refine Below.allocT ?_ _) | refine Below.drew ?_ | refine below_drewN ?_ _ | (refine Below.then ?_ (by assumption)) | (refine Below.setRow ?_ ?_ _; rotate_left; (focus (first | exact Nat.lt_succ_self _ | ((repeat rw [World.size_alloc]); omega) | (simp; done) | (simp; omega) | omega))) | (refine Below.setCell ?_ ?_ _; rotate_left; (focus (first | exact Nat.lt_succ_self _ | ((repeat rw [World.size_alloc]); omega) | (simp; done) | (simp; omega) | omega))) | (refine Below.then' ?_ (by assumption) ?_; rotate_left; (focus (first | exact Nat.lt_succ_self _ | ((repeat rw [World.size_alloc]); omega) | (simp; done) | (simp; omega) | omega))) | fail)); (first | done | fail)), by first | exact row_at _ _ _ _ rfl | (rw [row_setRow_if, if_pos rfl, row_at _ _ _ _ rfl]; rfl)⟩ ?_
              rintro v1 ⟨hb10, t10⟩
              have V1 := Lib.hid (Below.then Q9.out hb10)
              have RV1 := Lib.hid (And.intro (below_row hb10 R9.out.1 (row_lt R9.out.1)) (And.intro (below_row hb10 R9.out.2.1 (row_lt R9.out.2.1)) (And.intro (below_row hb10 R9.out.2.2 (row_lt R9.out.2.2)) t10)))
              have BV1 := Lib.hid hb10
              have k0 : v1.cell? ⟨g13, 0, none⟩ = some (.int .i64 fa) := row_cell RV1.out.1 0
              clear hb10 t10 R9
              have HG18 : Hid (w9.heap.size ≤ w9.heap.size) := Lib.hid (Nat.le_refl _)
              generalize hg18 : w9.heap.size = g18 at RV1 HG18 ⊢
              go_wp2_with fail
              refine (HFi.out v1 V1.out).mono ?_
              rintro e v2 ⟨rfl, hb11⟩
              have V2 := Lib.hid (Below.then V1.out hb11)
              have BV2 := Lib.hid (Below.then BV1.out hb11)
              have a14 := below_row hb11 RV1.out.2.1 (row_lt RV1.out.2.1)
              have a16 := below_row hb11 RV1.out.2.2.1 (row_lt RV1.out.2.2.1)
              have a18 := below_row hb11 RV1.out.2.2.2 (row_lt RV1.out.2.2.2)
              have A18 := Lib.hid a18
              clear hb11 k0 RV1 hg18
              go_upto_region 30 with (first | go_big_skip | go_big_want)
              clear a14 a16 a18
              have HM : Hid (∀ w', Below v2.heap.size v2 w' → row w' g18 = some (repC (Rep.zero, RepA.nil))) := Lib.hid fun w' h => (row_below h (row_lt A18.out)).trans A18.out
              have HSm : Hid (∀ W, Calls Try.prog 22 #[.agg (repC (Rep.zero, RepA.nil)), .agg (repC (Rep.zero, RepA.nil))] W fun e w' => e = .returned (.bool true) ∧ Below W.heap.size W w') := Lib.hid (fun W => by
                have := sameRep_any Rep.zero Rep.zero RepA.nil RepA.nil W (RepAt.zero W) (RepAt.zero W) (by decide)
                rwa [show decide (Rep.zero = Rep.zero) = true from decide_eq_true rfl] at this)
              (refine wp_region_calm (by kernel_rfl) (by kernel_rfl) ?_; (repeat (first | go_big_quiet_skip | (go_big_quiet_want; apply calm_val; (focus (intro w' hb'; have c1 := HM.out w' hb'; first | exact rep_quietO rfl rfl c1 | (unfold Oper.quietAt; go_simp; first | rfl | (go_at_call 22; exact calm_call hb' (HSm.out _))))); (try simp only [Act.put, List.setIfInBounds_toArray, List.set_cons_zero, List.set_cons_succ]); go_big_quiet_on))); refine wpQuiet_nil ?_; intro w' hb')
              have HE := Lib.hid (Below.then V2.out hb')
              go_wp2_with (first | go_big_skip | go_big_want)
              exact ⟨⟨q + 1, by go_num, by omega, HE⟩, by simp [intOf]; omega⟩
            | some k =>
              rw [hf] at hm9 HRf
              obtain ⟨hkl, x, hx, hxe⟩ := fndR_lt _ _ _ hf
              have hm9 : ∃ a', e = .returned (.tuple #[.agg (repC (x, a')), .int .i64 0]) ∧ RepAt w9 (x, a') := by simpa [hx] using hm9
              obtain ⟨a', rfl, hRA⟩ := hm9
              have HRA := Lib.hid hRA
              obtain ⟨⟨x', ax⟩, hxp, hxx⟩ : ∃ y : Rep × RepA, xs[xs.length - mo + k]? = some y ∧ y.1 = x := by
                rw [← HL2.out, List.getElem?_drop, List.getElem?_map] at hx
                obtain ⟨y, h1, h2⟩ := Option.map_eq_some_iff.1 hx
                exact ⟨y, h1, h2⟩
              have hxx : x' = x := hxx
              subst hxx
              have hpl := (List.getElem?_eq_some_iff.1 hxp).1
              obtain ⟨bl, ol, rfl, hbl, hcl⟩ := HS.out.rf.list (by omega)
              have HRange := Lib.hid (hcl _ _ hxp)
              have HXs := Lib.hid (And.intro (HS.out.rf.ok _ (List.mem_of_getElem? hxp)) (HS.out.rf.reps _ (List.mem_of_getElem? hxp)))
              have hln := HS.out.rf.len
              have hfi : rfndI mo (xs.map (·.1)) fa = ((xs.length - mo + k : Nat) : Int) := HRf.out
              rw [hfi] at HFi
              clear hfi HRf
              generalize xs.length - mo + k = pp at *
              have t1 : (0 : Int) ≤ (pp : Int) := by omega
              have t2 : ¬ (pp : Int) < 0 := by omega
              have t3 : (pp : Int) < (xs.length : Int) := by omega
              have hz3 := repC_one (x', a')
              clear hcl hxp hRA hx
              go_upto_region 27 with fail
              refine of_world (fun W => Below w9.heap.size w9 W ∧ row W w9.heap.size = some (repC (x', a'))) ⟨(by (repeat (first | exact Below.refl _ _ | assumption | (refine Below.allocT ?_ _) | refine Below.drew ?_ | refine below_drewN ?_ _ | (refine Below.then ?_ (by assumption)) | (refine Below.setRow ?_ ?_ _; rotate_left; (focus (first | exact Nat.lt_succ_self _ | ((repeat rw [World.size_alloc]); omega) | (simp; done) | (simp; omega) | omega))) | (refine Below.setCell ?_ ?_ _; rotate_left; (focus (first | exact Nat.lt_succ_self _ | ((repeat rw [World.size_alloc]); omega) | (simp; done) | (simp; omega) | omega))) | (refine Below.then' ?_ (by assumption) ?_; rotate_left; (focus (first | exact Nat.lt_succ_self _ | ((repeat rw [World.size_alloc]); omega) | (simp; done) | (simp; omega) | omega))) | fail)); (first | done | fail)), by first | exact row_at _ _ _ _ rfl | (rw [row_setRow_if, if_pos rfl, row_at _ _ _ _ rfl]; rfl)⟩ ?_
              rintro v1 ⟨hb10, t10⟩
              have V1 := Lib.hid (Below.then Q9.out hb10)
              have RV1 := Lib.hid (And.intro (below_row hb10 R9.out.1 (row_lt R9.out.1)) (And.intro (below_row hb10 R9.out.2.1 (row_lt R9.out.2.1)) (And.intro (below_row hb10 R9.out.2.2 (row_lt R9.out.2.2)) t10)))
              have BV1 := Lib.hid hb10
              have k0 : v1.cell? ⟨g13, 0, none⟩ = some (.int .i64 fa) := row_cell RV1.out.1 0
              clear hb10 t10 R9
              have HG18 : Hid (w9.heap.size ≤ w9.heap.size) := Lib.hid (Nat.le_refl _)
              generalize hg18 : w9.heap.size = g18 at RV1 HG18 ⊢
              go_wp2_with fail
              refine (HFi.out v1 V1.out).mono ?_
              rintro e v2 ⟨rfl, hb11⟩
              have V2 := Lib.hid (Below.then V1.out hb11)
              have BV2 := Lib.hid (Below.then BV1.out hb11)
              have a14 := below_row hb11 RV1.out.2.1 (row_lt RV1.out.2.1)
              have a16 := below_row hb11 RV1.out.2.2.1 (row_lt RV1.out.2.2.1)
              have a18 := below_row hb11 RV1.out.2.2.2 (row_lt RV1.out.2.2.2)
              have A18 := Lib.hid a18
              clear hb11 k0 RV1 hg18
              go_upto_region 30 with (first | go_big_skip | go_big_want)
              clear a14 a16 a18
              have HM : Hid (∀ w', Below v2.heap.size v2 w' → row w' g18 = some (repC (x', a')) ∧ w'.cell? ⟨gw, 1, none⟩ = some (.slice (some ⟨bl, ol, none⟩) xs.length c) ∧ w'.rangeAt bl (ol + pp * 14) (repC (x', ax)).toList) := Lib.hid fun w' h =>
                ⟨(row_below h (row_lt A18.out)).trans A18.out, row_cell (HS.out.stay (Below.then V2.out h)).rf.row 1, range_below HRange.out (Below.then V2.out h) hbl⟩
              have HSm : Hid (∀ W, Below v2.heap.size v2 W → Calls Try.prog 22 #[.agg (repC (x', a')), .agg (repC (x', ax))] W fun e w' => e = .returned (.bool true) ∧ Below W.heap.size W w') := Lib.hid (fun W hW => by
                have := sameRep_any x' x' a' ax W (HRA.out.stay (Below.then BV2.out hW)) (HXs.out.2.stay (Below.then V2.out hW)) ⟨HXs.out.1.out, HXs.out.1.left, HXs.out.1.started, HXs.out.1.done⟩
                rwa [show decide (x' = x') = true from decide_eq_true rfl] at this)
              generalize xs.length = nx at *
              have t4 : ¬ (pp : Int) < 0 := by omega
              have t5 : decide ((pp : Int) < 0) = false := decide_eq_false t4
              (refine wp_region_calm (by kernel_rfl) (by kernel_rfl) ?_; (repeat (first | go_big_quiet_skip | (go_big_quiet_want; apply calm_val; (focus (intro w' hb'; obtain ⟨c1, c2, c3⟩ := HM.out w' hb'; first | exact rep_quietO rfl rfl c1 | exact rmid_quietO rfl rfl c3 | (unfold Oper.quietAt; go_simp; first | rfl | (go_at_call 22; exact calm_call hb' (HSm.out _ hb'))))); (try simp only [Act.put, List.setIfInBounds_toArray, List.set_cons_zero, List.set_cons_succ]); go_big_quiet_on))); refine wpQuiet_nil ?_; intro w' hb')
              have HE := Lib.hid (Below.then V2.out hb')
              go_wp2_with (first | go_big_skip | go_big_want)
              exact ⟨⟨q + 1, by go_num, by omega, HE⟩, by simp [intOf]; omega⟩
          · obtain rfl : q = n1 := by omega
            go_wp2_with fail
            go_ret
            exact ⟨rfl, hBw.out⟩
end Go.Proofs.Ytnakkjgnjffkpaa

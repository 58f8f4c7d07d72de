/-
  What the reference's functions of layer 22 answer (bullionref22): Weigh and Active, as whole numbers.
-/
import Derived.Test.YtnakkjgnjffkpaaSel
import Derived.Test.YtnakkjgnjffkpaaRef01g
namespace Go.Proofs.Ytnakkjgnjffkpaa
open Go.RowKit
set_option linter.unusedVariables false

theorem selL_total {ms : List Mb} (hok : ∀ m ∈ ms, m.s.eff < 18446744073709551616) (sel : Nat → Bool) (k : Nat) (hk : k ≤ 1000) : (dg (total (selL ms sel k))).length ≤ 30 := by
  have h := total_len (selL ms sel k) (fun i => selL_getD hok sel k i) (by have := selL_len ms sel k; omega) (selL ms sel k).length (Nat.le_refl _)
  rwa [List.take_length] at h
theorem rmb_under : Try.prog.underlying 200 = some (.struct (Try.prog.fieldsOf 200)) := by kernel_rfl
theorem rmb_info : (Try.prog.info? 200).map (·.size) = some 6 := by kernel_rfl
theorem rmb_load {dst : Option Tmp} {x : Operand} {ty : TypeId} {pos : String} {after : Array Edge} {gd : Option (Nat × Bool)} {a : Act} {w : World} {K : Act → World → Prop} {Q : Exit → Act → World → Prop} (h1 : a.eval x = .pointer (some ⟨blk (a.eval x), ofs (a.eval x), none⟩)) (h2 : (row w (blk (a.eval x))).map (roomy (ofs (a.eval x)) 6) = some true) : Oper.wp Try.prog ⟨dst, .load 200 x, ty, pos, after, gd⟩ a w K Q = K (a.put dst (.agg (((row w (blk (a.eval x))).getD #[]).extract (ofs (a.eval x)) (ofs (a.eval x) + 6)))) w := wp_load_part _ 6 _ rmb_under rfl rmb_info h1 h2
theorem rmb_store {dst : Option Tmp} {x : Operand} {ty : TypeId} {pos : String} {after : Array Edge} {gd : Option (Nat × Bool)} {y : Operand} {a : Act} {w : World} {K : Act → World → Prop} {Q : Exit → Act → World → Prop} (h1 : a.eval x = .pointer (some ⟨blk (a.eval x), 0, none⟩)) (h2 : (row w (blk (a.eval x))).map (·.size) = some 6) (h3 : a.eval y = .agg (aggOf (a.eval y))) (h4 : (aggOf (a.eval y)).size = 6) (h5 : allOne (aggOf (a.eval y)) = true) : Oper.wp Try.prog ⟨dst, .store 200 x y, ty, pos, after, gd⟩ a w K Q = K (a.put dst undef) (w.setRow (blk (a.eval x)) (aggOf (a.eval y))) := wp_store_agg _ 6 rmb_info h1 h2 h3 h4 h5
theorem rmb_run_load {ρ : Operand → Value} {dst : Option Tmp} {x : Operand} {ty : TypeId} {pos : String} {after : Array Edge} {gd : Option (Nat × Bool)} {w : World} (h1 : ρ x = .pointer (some ⟨blk (ρ x), ofs (ρ x), none⟩)) (h2 : (row w (blk (ρ x))).map (roomy (ofs (ρ x)) 6) = some true) : (execOp ρ ⟨dst, .load 200 x, ty, pos, after, gd⟩).run Try.prog w = .ok (.value (.agg (((row w (blk (ρ x))).getD #[]).extract (ofs (ρ x)) (ofs (ρ x) + 6)))) w := run_load_part _ 6 _ rmb_under rfl rmb_info h1 h2
theorem rmb_quiet {C : World → Prop} {dst : Option Tmp} {x : Operand} {ty : TypeId} {pos : String} {after : Array Edge} {gd : Option (Nat × Bool)} {a : Act} {w : World} {g o : Nat} {cs : Array Value} (h1 : a.eval x = .pointer (some ⟨g, o, none⟩)) (h2 : row w g = some cs) (hs : roomy o 6 cs = true) : Oper.quietAt Try.prog ⟨dst, .load 200 x, ty, pos, after, gd⟩ a C w (.agg (cs.extract o (o + 6))) := quiet_load_part _ 6 _ rmb_under rfl rmb_info h1 h2 hs
attribute [go_sem ↓] rmb_load rmb_store rmb_run_load
theorem rcounts_any (m : Mb) (w : World) : Calls Try.prog 152 #[.agg m.cells] w fun e w' => e = .returned (.bool (countsB m.status)) ∧ Below w.heap.size w w' := by
  by_cases h2 : m.status = 2
  · have k2 : (m.status == 2) = true := by rw [h2]; rfl
    have HV : Hid (countsB m.status = true) := Lib.hid (by simp [countsB, h2])
    clear h2
    go_enter Try.func152, Try.ntmps152
    go_wp2_with fail
    go_ret
    exact ⟨by rw [HV.out]; rfl, (by (repeat (first | exact Below.refl _ _ | assumption | (refine Below.allocT ?_ _) | refine Below.drew ?_ | refine below_drewN ?_ _ | (refine Below.then ?_ (by assumption)) | (refine Below.setRow ?_ ?_ _; rotate_left; (focus (first | exact Nat.lt_succ_self _ | ((repeat rw [World.size_alloc]); omega) | (simp; done) | (simp; omega) | omega))) | (refine Below.setCell ?_ ?_ _; rotate_left; (focus (first | exact Nat.lt_succ_self _ | ((repeat rw [World.size_alloc]); omega) | (simp; done) | (simp; omega) | omega))) | (refine Below.then' ?_ (by assumption) ?_; rotate_left; (focus (first | exact Nat.lt_succ_self _ | ((repeat rw [World.size_alloc]); omega) | (simp; done) | (simp; omega) | omega))) | fail)); (first | done | fail))⟩
  · have k2 : (m.status == 2) = false := beq_eq_false_iff_ne.2 h2
    by_cases h3 : m.status = 3
    · have k3 : (m.status == 3) = true := by rw [h3]; rfl
      have HV : Hid (countsB m.status = true) := Lib.hid (by simp [countsB, h3])
      clear h2 h3
      go_enter Try.func152, Try.ntmps152
      go_wp2_with fail
      go_ret
      exact ⟨by rw [HV.out]; rfl, (by (repeat (first | exact Below.refl _ _ | assumption | (refine Below.allocT ?_ _) | refine Below.drew ?_ | refine below_drewN ?_ _ | (refine Below.then ?_ (by assumption)) | (refine Below.setRow ?_ ?_ _; rotate_left; (focus (first | exact Nat.lt_succ_self _ | ((repeat rw [World.size_alloc]); omega) | (simp; done) | (simp; omega) | omega))) | (refine Below.setCell ?_ ?_ _; rotate_left; (focus (first | exact Nat.lt_succ_self _ | ((repeat rw [World.size_alloc]); omega) | (simp; done) | (simp; omega) | omega))) | (refine Below.then' ?_ (by assumption) ?_; rotate_left; (focus (first | exact Nat.lt_succ_self _ | ((repeat rw [World.size_alloc]); omega) | (simp; done) | (simp; omega) | omega))) | fail)); (first | done | fail))⟩
    · have k3 : (m.status == 3) = false := beq_eq_false_iff_ne.2 h3
      have HV : Hid (countsB m.status = false) := Lib.hid (by simp [countsB, h2, h3])
      clear h2 h3
      go_enter Try.func152, Try.ntmps152
      go_wp2_with fail
      go_ret
      exact ⟨by rw [HV.out]; rfl, (by (repeat (first | exact Below.refl _ _ | assumption | (refine Below.allocT ?_ _) | refine Below.drew ?_ | refine below_drewN ?_ _ | (refine Below.then ?_ (by assumption)) | (refine Below.setRow ?_ ?_ _; rotate_left; (focus (first | exact Nat.lt_succ_self _ | ((repeat rw [World.size_alloc]); omega) | (simp; done) | (simp; omega) | omega))) | (refine Below.setCell ?_ ?_ _; rotate_left; (focus (first | exact Nat.lt_succ_self _ | ((repeat rw [World.size_alloc]); omega) | (simp; done) | (simp; omega) | omega))) | (refine Below.then' ?_ (by assumption) ?_; rotate_left; (focus (first | exact Nat.lt_succ_self _ | ((repeat rw [World.size_alloc]); omega) | (simp; done) | (simp; omega) | omega))) | fail)); (first | done | fail))⟩
set_option maxRecDepth 100000 in
set_option maxHeartbeats 4000000 in
theorem rweigh22_any (A : Option Addr) (n c : Nat) (ms : List Mb) (A1 : Option Addr) (n1 c1 : Nat) (bs : List Nat) (h1 : bs.length = n1) (hb1 : n1 ≤ 9223372036854775807) (hb : bytesOk bs) (hn : ms.length = n) (hm : n ≤ 300) (hok : ∀ m ∈ ms, m.s.eff < 18446744073709551616) (w : World) (hU : SliceOf 6 Mb.cells w A ms) (hW : Bys w A1 bs) :
    Calls Try.prog 108 #[.slice A n c, .slice A1 n1 c1] w (RetNat w (total (selL ms (fun k => getB bs k) n))) := by
  have HU := Lib.hid hU
  have HN := Lib.hid hn
  have HLen := Lib.hid (fun k (hk : k ≤ 1000) => selL_total hok (fun k => getB bs k) k hk)
  have HOk := Lib.hid hok
  have HW := Lib.hid hW
  have HG := Lib.hid (fun W (i : Nat) (hi : i ≤ 1000) (h : Bys W A1 bs) => rget_any A1 n1 c1 bs i h1 hb1 hb (by omega) W h)
  clear hW h1 hb hb1
  clear hU hn hok
  have S0 : Below w.heap.size w ((w.alloc (.cells #[.slice none 0 0] 190)).alloc (.cells #[.slice none 0 0] 190)) := (by (repeat (first | exact Below.refl _ _ | assumption | (refine Below.allocT ?_ _) | refine Below.drew ?_ | refine below_drewN ?_ _ | (refine Below.then ?_ (by assumption)) | (refine Below.setRow ?_ ?_ _; rotate_left; (focus (first | exact Nat.lt_succ_self _ | ((repeat rw [World.size_alloc]); omega) | (simp; done) | (simp; omega) | omega))) | (refine Below.setCell ?_ ?_ _; rotate_left; (focus (first | exact Nat.lt_succ_self _ | ((repeat rw [World.size_alloc]); omega) | (simp; done) | (simp; omega) | omega))) | (refine Below.then' ?_ (by assumption) ?_; rotate_left; (focus (first | exact Nat.lt_succ_self _ | ((repeat rw [World.size_alloc]); omega) | (simp; done) | (simp; omega) | omega))) | fail)); (first | done | fail))
  have R1 : row ((w.alloc (.cells #[.slice none 0 0] 190)).alloc (.cells #[.slice none 0 0] 190)) w.heap.size = some #[.slice none 0 0] := (by (repeat (first | assumption | (refine row_at _ _ _ _ ?_; first | rfl | (simp only [World.size_alloc]; done) | (simp only [World.size_alloc]; omega)) | (refine (row_past _ _ _ ?_).trans ?_; (focus (first | exact Nat.lt_succ_self _ | ((repeat rw [World.size_alloc]); omega) | (simp; done) | (simp; omega) | omega))) | rw [row_drewN] | rw [row_drew])); (first | done | fail))
  have R2 : row ((w.alloc (.cells #[.slice none 0 0] 190)).alloc (.cells #[.slice none 0 0] 190)) (w.heap.size + 1) = some #[.slice none 0 0] := (by (repeat (first | assumption | (refine row_at _ _ _ _ ?_; first | rfl | (simp only [World.size_alloc]; done) | (simp only [World.size_alloc]; omega)) | (refine (row_past _ _ _ ?_).trans ?_; (focus (first | exact Nat.lt_succ_self _ | ((repeat rw [World.size_alloc]); omega) | (simp; done) | (simp; omega) | omega))) | rw [row_drewN] | rw [row_drew])); (first | done | fail))
  go_enter Try.func108, Try.ntmps108
  go_wp2_with fail
  go_loopw [6] (fun k wr => ∃ (i : Nat) (As : Option Addr) (ns cs : Nat), i ≤ n ∧ k = .int .i64 i ∧ Below w.heap.size w wr ∧ row wr w.heap.size = some #[.slice none 0 0] ∧ row wr (w.heap.size + 1) = some #[.slice As ns cs] ∧ Hid (NatV wr As ns (total (selL ms (fun k => getB bs k) i)) ∧ ∀ x, As = some x → w.heap.size + 2 ≤ x.block)) (fun k _ => n - (intOf k).toNat)
  case atStart => exact ⟨0, none, 0, 0, by omega, rfl, S0, R1, R2, Lib.hid ⟨NatV.zero _ _, by simp⟩⟩
  case round =>
    obtain ⟨i, As, ns, cs, hi, rfl, hB, r1, r2, hN⟩ := hrel
    clear S0 R1 R2
    have hz := row_lt r2
    by_cases hlt : i < n
    · obtain ⟨b, off, rfl, hb, hcell⟩ := (HU.out.below hB (Nat.le_refl _)) (by rw [HN.out]; omega)
      obtain ⟨m, hxj⟩ : ∃ m, ms[i]? = some m := ⟨_, List.getElem?_eq_getElem (by rw [HN.out]; omega)⟩
      obtain ⟨k0, k1, k2, k3, k4, k5⟩ := mb_range (hcell i _ hxj)
      have z1 : (0 : Int) ≤ (i : Int) := by omega
      have z2 : (i : Int) < (n : Int) := by omega
      have HX := Lib.hid hxj
      have HXi := Lib.hid (HOk.out m (List.mem_of_getElem? hxj))
      have lt1 := HLen.out i (by omega)
      have hns := hN.out.1.1
      have HC := Lib.hid (fun W => rcounts_any m W)
      have HNi := Lib.hid (fun W (h : Below wr.heap.size wr W) => hN.out.1.stay h)
      have HNb := Lib.hid hN.out.2
      have hns1 : ns ≤ 30 := by omega
      clear hcell hxj hN hns
      cases hc : countsB m.status
      · have S1 : Hid (selL ms (fun k => getB bs k) (i + 1) = selL ms (fun k => getB bs k) i) := Lib.hid (by rw [selL, oneS_no HX.out hc, List.append_nil])
        rw [hc] at HC
        clear hc
        go_wp2_with fail
        refine (HC.out _).mono ?_
        rintro e w1 ⟨rfl, hb1⟩
        have B2 := Lib.hid (Below.then hB hb1)
        have r1' := Lib.hid ((row_below hb1 (row_lt r1)).trans r1)
        have r2' := Lib.hid ((row_below hb1 (row_lt r2)).trans r2)
        have N2 := Lib.hid (HNi.out _ hb1)
        clear hb1 r1 r2 hB
        go_wp2_with fail
        exact ⟨⟨i + 1, As, ns, cs, by omega, by go_num, B2.out, r1'.out, r2'.out, Lib.hid ⟨by rw [S1.out]; exact N2.out, HNb.out⟩⟩, by simp [intOf]; omega⟩
      · rw [hc] at HC
        have HSy : Hid ((getB bs (i : Int)) = true → total (selL ms (fun k => getB bs k) (i + 1)) = total (selL ms (fun k => getB bs k) i) + m.s.eff) := Lib.hid (fun h => by rw [selL, oneS_yes HX.out hc h, total_app, total_one])
        have HSn : Hid ((getB bs (i : Int)) = false → total (selL ms (fun k => getB bs k) (i + 1)) = total (selL ms (fun k => getB bs k) i)) := Lib.hid (fun h => by rw [selL, oneS_not HX.out h, List.append_nil])
        have HF := Lib.hid (fun W h => HG.out W i (by omega) h)
        generalize total (selL ms (fun k => getB bs k) i) = tt at *
        have hxi := HXi.out
        have lx := len_u64 hxi
        clear hc
        go_wp2_with fail
        refine (HC.out _).mono ?_
        rintro e wv ⟨rfl, hbv⟩
        have B2 := Below.then hB hbv
        have r1' := (row_below hbv (row_lt r1)).trans r1
        have r2' := (row_below hbv (row_lt r2)).trans r2
        have kv1 := (hbv.cell (p := ⟨b, off + i * 6 + 1, none⟩) hb).trans k1
        have HNv := Lib.hid (fun W (h : Below wv.heap.size wv W) => HNi.out W (Below.then hbv h))
        have hbw := Nat.lt_of_lt_of_le hb hbv.size
        have hzw := Nat.lt_of_lt_of_le hz hbv.size
        have q2 : wv.cell? ⟨w.heap.size + 1, 0, none⟩ = some (.slice As ns cs) := row_cell r2' 0
        have l1 : w.heap.size < wv.heap.size := by omega
        clear HNi k0 k1 k2 k3 k4 k5 r1 r2 hB hz
        go_wp2_with fail
        refine (HF.out _ (HW.out.below B2 (Nat.le_refl _))).mono ?_
        rintro e wg ⟨rfl, hbg⟩
        have B2 := Below.then B2 hbg
        have r1' := (row_below hbg (row_lt r1')).trans r1'
        have r2' := (row_below hbg (row_lt r2')).trans r2'
        have kv1 := (hbg.cell (p := ⟨b, off + i * 6 + 1, none⟩) hbw).trans kv1
        have HNv := Lib.hid (fun W (h : Below wg.heap.size wg W) => HNv.out W (Below.then hbg h))
        have hbw := Nat.lt_of_lt_of_le hbw hbg.size
        have l1 : w.heap.size < wg.heap.size := Nat.lt_of_lt_of_le l1 hbg.size
        have q2 : wg.cell? ⟨w.heap.size + 1, 0, none⟩ = some (.slice As ns cs) := row_cell r2' 0
        clear hbg hbv hzw
        generalize hsel : getB bs (i : Int) = sj at *
        clear hsel
        cases sj
        · go_wp2_with fail
          exact ⟨⟨i + 1, As, ns, cs, by omega, by go_num, B2, r1', r2', Lib.hid ⟨by rw [HSn.out (by simp)]; exact HNv.out _ (Below.refl _ _), HNb.out⟩⟩, by simp [intOf]; omega⟩
        · go_wp2_with fail
          go_region_with (first | (go_at_call 144; refine (ofn_any m.s.eff hxi _).mono ?_; rintro e w2 ⟨A2, c2, rfl, hN2, hb2, hh2⟩; have hr2 := (row_below hb2 (g := w.heap.size + 1) (by first | exact row_lt r2' | (show _ < wg.heap.size; omega))).trans r2'; have hq2 : w2.cell? ⟨w.heap.size + 1, 0, none⟩ = some (.slice As ns cs) := row_cell hr2 0; have hci2 := (hb2.cell (p := ⟨b, off + i * 6 + 1, none⟩) hbw).trans kv1) | (go_at_call 153; refine (add_any As A2 ns cs _ c2 tt m.s.eff _ (HNv.out _ (Below.then (by first | exact Below.refl _ _ | exact (Below.refl _ _).drew) hb2)) hN2 (by omega) (by omega)).mono ?_; rintro e w3 ⟨A3, c3, rfl, hN3, hb3, hh3⟩; have hr3 := (row_below hb3 (row_lt hr2)).trans hr2; have hq3 : w3.cell? ⟨w.heap.size + 1, 0, none⟩ = some (.slice As ns cs) := row_cell hr3 0; have hf3 : w3.frozen? ⟨w.heap.size + 1, 0, none⟩ = false := row_frozen hr3 0))
          all_goals
            have hz2 := row_lt hr2
            have hz3 := row_lt hr3
            have hr1 : row w3 w.heap.size = some #[.slice none 0 0] := (row_below hb3 (by omega)).trans ((row_below hb2 (by first | exact row_lt r1' | (show _ < wg.heap.size; omega))).trans r1')
            have hBB : Below w.heap.size w w3 := (by (repeat (first | exact Below.refl _ _ | assumption | (refine Below.allocT ?_ _) | refine Below.drew ?_ | refine below_drewN ?_ _ | (refine Below.then ?_ (by assumption)) | (refine Below.setRow ?_ ?_ _; rotate_left; (focus (first | exact Nat.lt_succ_self _ | ((repeat rw [World.size_alloc]); omega) | (simp; done) | (simp; omega) | omega))) | (refine Below.setCell ?_ ?_ _; rotate_left; (focus (first | exact Nat.lt_succ_self _ | ((repeat rw [World.size_alloc]); omega) | (simp; done) | (simp; omega) | omega))) | (refine Below.then' ?_ (by assumption) ?_; rotate_left; (focus (first | exact Nat.lt_succ_self _ | ((repeat rw [World.size_alloc]); omega) | (simp; done) | (simp; omega) | omega))) | fail)); (first | done | fail))
            have hN4 := Lib.hid (hN3.far (B := w.heap.size + 2) (fun x hx => by have := hh3 x hx; omega) (p := ⟨w.heap.size + 1, 0, none⟩) (by show w.heap.size + 1 < w.heap.size + 2; omega) (.slice A3 (dg (tt + m.s.eff)).length c3))
            have HH := Lib.hid hh3
            clear hN3 hh3 hN2 hh2 hci2 hq2 q2 hq3 hf3 kv1
            go_wp2_with fail
            refine ⟨⟨i + 1, A3, (dg (tt + m.s.eff)).length, c3, by omega, by go_num, ?_, ?_, ?_, Lib.hid ⟨?_, fun y hy => by have := HH.out y hy; omega⟩⟩, by simp [intOf]; omega⟩
            · exact Below.setCell hBB (p := ⟨w.heap.size + 1, 0, none⟩) (by show w.heap.size ≤ w.heap.size + 1; omega) _
            · exact (row_far w3 ⟨w.heap.size + 1, 0, none⟩ _ _ (by show w.heap.size ≠ w.heap.size + 1; omega)).trans hr1
            · exact row_set hr3 0 _
            · rw [HSy.out (by simp)]; exact hN4.out
    · obtain rfl : i = n := by omega
      have hNN := hN.out.1
      have hhi := hN.out.2
      have q1 : wr.cell? ⟨w.heap.size, 0, none⟩ = some (.slice none 0 0) := row_cell r1 0
      have f1 : wr.frozen? ⟨w.heap.size, 0, none⟩ = false := row_frozen r1 0
      have q2 : wr.cell? ⟨w.heap.size + 1, 0, none⟩ = some (.slice As ns cs) := row_cell r2 0
      obtain ⟨tt, htt⟩ : ∃ tt, tt = total (selL ms (fun k => getB bs k) i) := ⟨_, rfl⟩
      rw [← htt] at hNN
      have HTT := Lib.hid htt
      clear htt
      obtain ⟨hlen, hI⟩ := hNN
      subst hlen
      have HF := Lib.hid (NatV.far (B := w.heap.size + 2) ⟨rfl, hI⟩ hhi (p := ⟨w.heap.size, 0, none⟩) (by show w.heap.size < w.heap.size + 2; omega) (.slice As (dg tt).length cs))
      have HH := Lib.hid hhi
      have hz1 := row_lt r1
      clear hhi hI HU HLen
      go_wp2_with fail
      refine bodyPost_ret (v := .agg #[.slice As (dg tt).length cs]) (by simp [results, Try.results108, go_sem, q1]) rfl ⟨As, cs, by rw [← HTT.out], by rw [← HTT.out]; exact HF.out, ?_, fun x hx => by have := HH.out x hx; omega⟩
      exact Below.setCell hB (p := ⟨w.heap.size, 0, none⟩) (by show w.heap.size ≤ w.heap.size; omega) _
set_option maxRecDepth 100000 in
set_option maxHeartbeats 4000000 in
theorem ractive22_any (A : Option Addr) (n c : Nat) (ms : List Mb)  (hn : ms.length = n) (hm : n ≤ 300) (hok : ∀ m ∈ ms, m.s.eff < 18446744073709551616) (w : World) (hU : SliceOf 6 Mb.cells w A ms)  :
    Calls Try.prog 107 #[.slice A n c] w (RetNat w (total (selL ms (fun k => true) n))) := by
  have HU := Lib.hid hU
  have HN := Lib.hid hn
  have HLen := Lib.hid (fun k (hk : k ≤ 1000) => selL_total hok (fun k => true) k hk)
  have HOk := Lib.hid hok

  clear hU hn hok
  have S0 : Below w.heap.size w ((w.alloc (.cells #[.slice none 0 0] 190)).alloc (.cells #[.slice none 0 0] 190)) := (by (repeat (first | exact Below.refl _ _ | assumption | (refine Below.allocT ?_ _) | refine Below.drew ?_ | refine below_drewN ?_ _ | (refine Below.then ?_ (by assumption)) | (refine Below.setRow ?_ ?_ _; rotate_left; (focus (first | exact Nat.lt_succ_self _ | ((repeat rw [World.size_alloc]); omega) | (simp; done) | (simp; omega) | omega))) | (refine Below.setCell ?_ ?_ _; rotate_left; (focus (first | exact Nat.lt_succ_self _ | ((repeat rw [World.size_alloc]); omega) | (simp; done) | (simp; omega) | omega))) | (refine Below.then' ?_ (by assumption) ?_; rotate_left; (focus (first | exact Nat.lt_succ_self _ | ((repeat rw [World.size_alloc]); omega) | (simp; done) | (simp; omega) | omega))) | fail)); (first | done | fail))
  have R1 : row ((w.alloc (.cells #[.slice none 0 0] 190)).alloc (.cells #[.slice none 0 0] 190)) w.heap.size = some #[.slice none 0 0] := (by (repeat (first | assumption | (refine row_at _ _ _ _ ?_; first | rfl | (simp only [World.size_alloc]; done) | (simp only [World.size_alloc]; omega)) | (refine (row_past _ _ _ ?_).trans ?_; (focus (first | exact Nat.lt_succ_self _ | ((repeat rw [World.size_alloc]); omega) | (simp; done) | (simp; omega) | omega))) | rw [row_drewN] | rw [row_drew])); (first | done | fail))
  have R2 : row ((w.alloc (.cells #[.slice none 0 0] 190)).alloc (.cells #[.slice none 0 0] 190)) (w.heap.size + 1) = some #[.slice none 0 0] := (by (repeat (first | assumption | (refine row_at _ _ _ _ ?_; first | rfl | (simp only [World.size_alloc]; done) | (simp only [World.size_alloc]; omega)) | (refine (row_past _ _ _ ?_).trans ?_; (focus (first | exact Nat.lt_succ_self _ | ((repeat rw [World.size_alloc]); omega) | (simp; done) | (simp; omega) | omega))) | rw [row_drewN] | rw [row_drew])); (first | done | fail))
  go_enter Try.func107, Try.ntmps107
  go_wp2_with fail
  go_loopw [4] (fun k wr => ∃ (i : Nat) (As : Option Addr) (ns cs : Nat), i ≤ n ∧ k = .int .i64 i ∧ Below w.heap.size w wr ∧ row wr w.heap.size = some #[.slice none 0 0] ∧ row wr (w.heap.size + 1) = some #[.slice As ns cs] ∧ Hid (NatV wr As ns (total (selL ms (fun k => true) i)) ∧ ∀ x, As = some x → w.heap.size + 2 ≤ x.block)) (fun k _ => n - (intOf k).toNat)
  case atStart => exact ⟨0, none, 0, 0, by omega, rfl, S0, R1, R2, Lib.hid ⟨NatV.zero _ _, by simp⟩⟩
  case round =>
    obtain ⟨i, As, ns, cs, hi, rfl, hB, r1, r2, hN⟩ := hrel
    clear S0 R1 R2
    have hz := row_lt r2
    by_cases hlt : i < n
    · obtain ⟨b, off, rfl, hb, hcell⟩ := (HU.out.below hB (Nat.le_refl _)) (by rw [HN.out]; omega)
      obtain ⟨m, hxj⟩ : ∃ m, ms[i]? = some m := ⟨_, List.getElem?_eq_getElem (by rw [HN.out]; omega)⟩
      obtain ⟨k0, k1, k2, k3, k4, k5⟩ := mb_range (hcell i _ hxj)
      have z1 : (0 : Int) ≤ (i : Int) := by omega
      have z2 : (i : Int) < (n : Int) := by omega
      have HX := Lib.hid hxj
      have HXi := Lib.hid (HOk.out m (List.mem_of_getElem? hxj))
      have lt1 := HLen.out i (by omega)
      have hns := hN.out.1.1
      have HC := Lib.hid (fun W => rcounts_any m W)
      have HNi := Lib.hid (fun W (h : Below wr.heap.size wr W) => hN.out.1.stay h)
      have HNb := Lib.hid hN.out.2
      have hns1 : ns ≤ 30 := by omega
      clear hcell hxj hN hns
      cases hc : countsB m.status
      · have S1 : Hid (selL ms (fun k => true) (i + 1) = selL ms (fun k => true) i) := Lib.hid (by rw [selL, oneS_no HX.out hc, List.append_nil])
        rw [hc] at HC
        clear hc
        go_wp2_with fail
        refine (HC.out _).mono ?_
        rintro e w1 ⟨rfl, hb1⟩
        have B2 := Lib.hid (Below.then hB hb1)
        have r1' := Lib.hid ((row_below hb1 (row_lt r1)).trans r1)
        have r2' := Lib.hid ((row_below hb1 (row_lt r2)).trans r2)
        have N2 := Lib.hid (HNi.out _ hb1)
        clear hb1 r1 r2 hB
        go_wp2_with fail
        exact ⟨⟨i + 1, As, ns, cs, by omega, by go_num, B2.out, r1'.out, r2'.out, Lib.hid ⟨by rw [S1.out]; exact N2.out, HNb.out⟩⟩, by simp [intOf]; omega⟩
      · rw [hc] at HC
        have HSy : Hid ((true) = true → total (selL ms (fun k => true) (i + 1)) = total (selL ms (fun k => true) i) + m.s.eff) := Lib.hid (fun h => by rw [selL, oneS_yes HX.out hc h, total_app, total_one])
        have HSn : Hid ((true) = false → total (selL ms (fun k => true) (i + 1)) = total (selL ms (fun k => true) i)) := Lib.hid (fun h => by rw [selL, oneS_not HX.out h, List.append_nil])

        generalize total (selL ms (fun k => true) i) = tt at *
        have hxi := HXi.out
        have lx := len_u64 hxi
        clear hc
        go_wp2_with fail
        refine (HC.out _).mono ?_
        rintro e wv ⟨rfl, hbv⟩
        have B2 := Below.then hB hbv
        have r1' := (row_below hbv (row_lt r1)).trans r1
        have r2' := (row_below hbv (row_lt r2)).trans r2
        have kv1 := (hbv.cell (p := ⟨b, off + i * 6 + 1, none⟩) hb).trans k1
        have HNv := Lib.hid (fun W (h : Below wv.heap.size wv W) => HNi.out W (Below.then hbv h))
        have hbw := Nat.lt_of_lt_of_le hb hbv.size
        have hzw := Nat.lt_of_lt_of_le hz hbv.size
        have q2 : wv.cell? ⟨w.heap.size + 1, 0, none⟩ = some (.slice As ns cs) := row_cell r2' 0
        have l1 : w.heap.size < wv.heap.size := by omega
        clear HNi k0 k1 k2 k3 k4 k5 r1 r2 hB hz
        go_wp2_with fail
        go_region_with (first | (go_at_call 144; refine (ofn_any m.s.eff hxi _).mono ?_; rintro e w2 ⟨A2, c2, rfl, hN2, hb2, hh2⟩; have hr2 := (row_below hb2 (g := w.heap.size + 1) (by first | exact row_lt r2' | (show _ < wv.heap.size; omega))).trans r2'; have hq2 : w2.cell? ⟨w.heap.size + 1, 0, none⟩ = some (.slice As ns cs) := row_cell hr2 0; have hci2 := (hb2.cell (p := ⟨b, off + i * 6 + 1, none⟩) hbw).trans kv1) | (go_at_call 153; refine (add_any As A2 ns cs _ c2 tt m.s.eff _ (HNv.out _ (Below.then (by first | exact Below.refl _ _ | exact (Below.refl _ _).drew) hb2)) hN2 (by omega) (by omega)).mono ?_; rintro e w3 ⟨A3, c3, rfl, hN3, hb3, hh3⟩; have hr3 := (row_below hb3 (row_lt hr2)).trans hr2; have hq3 : w3.cell? ⟨w.heap.size + 1, 0, none⟩ = some (.slice As ns cs) := row_cell hr3 0; have hf3 : w3.frozen? ⟨w.heap.size + 1, 0, none⟩ = false := row_frozen hr3 0))
        all_goals
          have hz2 := row_lt hr2
          have hz3 := row_lt hr3
          have hr1 : row w3 w.heap.size = some #[.slice none 0 0] := (row_below hb3 (by omega)).trans ((row_below hb2 (by first | exact row_lt r1' | (show _ < wv.heap.size; omega))).trans r1')
          have hBB : Below w.heap.size w w3 := (by (repeat (first | exact Below.refl _ _ | assumption | (refine Below.allocT ?_ _) | refine Below.drew ?_ | refine below_drewN ?_ _ | (refine Below.then ?_ (by assumption)) | (refine Below.setRow ?_ ?_ _; rotate_left; (focus (first | exact Nat.lt_succ_self _ | ((repeat rw [World.size_alloc]); omega) | (simp; done) | (simp; omega) | omega))) | (refine Below.setCell ?_ ?_ _; rotate_left; (focus (first | exact Nat.lt_succ_self _ | ((repeat rw [World.size_alloc]); omega) | (simp; done) | (simp; omega) | omega))) | (refine Below.then' ?_ (by assumption) ?_; rotate_left; (focus (first | exact Nat.lt_succ_self _ | ((repeat rw [World.size_alloc]); omega) | (simp; done) | (simp; omega) | omega))) | fail)); (first | done | fail))
          have hN4 := Lib.hid (hN3.far (B := w.heap.size + 2) (fun x hx => by have := hh3 x hx; omega) (p := ⟨w.heap.size + 1, 0, none⟩) (by show w.heap.size + 1 < w.heap.size + 2; omega) (.slice A3 (dg (tt + m.s.eff)).length c3))
          have HH := Lib.hid hh3
          clear hN3 hh3 hN2 hh2 hci2 hq2 q2 hq3 hf3 kv1
          go_wp2_with fail
          refine ⟨⟨i + 1, A3, (dg (tt + m.s.eff)).length, c3, by omega, by go_num, ?_, ?_, ?_, Lib.hid ⟨?_, fun y hy => by have := HH.out y hy; omega⟩⟩, by simp [intOf]; omega⟩
          · exact Below.setCell hBB (p := ⟨w.heap.size + 1, 0, none⟩) (by show w.heap.size ≤ w.heap.size + 1; omega) _
          · exact (row_far w3 ⟨w.heap.size + 1, 0, none⟩ _ _ (by show w.heap.size ≠ w.heap.size + 1; omega)).trans hr1
          · exact row_set hr3 0 _
          · rw [HSy.out (by simp)]; exact hN4.out
    · obtain rfl : i = n := by omega
      have hNN := hN.out.1
      have hhi := hN.out.2
      have q1 : wr.cell? ⟨w.heap.size, 0, none⟩ = some (.slice none 0 0) := row_cell r1 0
      have f1 : wr.frozen? ⟨w.heap.size, 0, none⟩ = false := row_frozen r1 0
      have q2 : wr.cell? ⟨w.heap.size + 1, 0, none⟩ = some (.slice As ns cs) := row_cell r2 0
      obtain ⟨tt, htt⟩ : ∃ tt, tt = total (selL ms (fun k => true) i) := ⟨_, rfl⟩
      rw [← htt] at hNN
      have HTT := Lib.hid htt
      clear htt
      obtain ⟨hlen, hI⟩ := hNN
      subst hlen
      have HF := Lib.hid (NatV.far (B := w.heap.size + 2) ⟨rfl, hI⟩ hhi (p := ⟨w.heap.size, 0, none⟩) (by show w.heap.size < w.heap.size + 2; omega) (.slice As (dg tt).length cs))
      have HH := Lib.hid hhi
      have hz1 := row_lt r1
      clear hhi hI HU HLen
      go_wp2_with fail
      refine bodyPost_ret (v := .agg #[.slice As (dg tt).length cs]) (by simp [results, Try.results107, go_sem, q1]) rfl ⟨As, cs, by rw [← HTT.out], by rw [← HTT.out]; exact HF.out, ?_, fun x hx => by have := HH.out x hx; omega⟩
      exact Below.setCell hB (p := ⟨w.heap.size, 0, none⟩) (by show w.heap.size ≤ w.heap.size; omega) _
end Go.Proofs.Ytnakkjgnjffkpaa

/-
  What is pending on a plate lands: land, Sync and Up.
-/
import Derived.Test.YtkkncijbedfdfaaPlate2
import Derived.Test.YtkkncijbedfdfaaSt
namespace Go.Proofs.Ytkkncijbedfdfaa
open Go.RowKit
set_option linter.unusedVariables false

def zEnt (a : Nat) : Array Value := (Value.int .i64 (a : Int) :: List.replicate 64 (Value.int .u8 0)).toArray
theorem zEnt_size (a : Nat) : (zEnt a).size = 65 := by simp [zEnt]
theorem zEnt_one (a : Nat) : allOne (zEnt a) = true := by
  unfold allOne zEnt
  rw [Array.all_eq_true']
  intro v hv
  rw [List.mem_toArray] at hv
  rcases List.mem_cons.1 hv with rfl | hv
  · rfl
  · rw [List.eq_of_mem_replicate hv]; rfl
theorem ent_info : (Try.prog.info? 81).map (fun i => (i.zero, i.size, i.bytes)) = some (some (.agg (zEnt 0)), 65, 72) := by kernel_rfl
theorem ent_zero (w : World) : (zeroValue 81).run Try.prog w = .ok (.agg (zEnt 0)) w := by
  obtain ⟨i0, hi, hz0, hz1, hz2⟩ := info_parts ent_info
  simp [zeroValue, typeInfo, hi, hz0]
attribute [go_sem] ent_zero zEnt_size zEnt_one
theorem ent_store {dst : Option Tmp} {x y : Operand} {ty : TypeId} {pos : String} {after : Array Edge} {gd : Option (Nat × Bool)} {a : Act} {w : World} {K : Act → World → Prop} {Q : Exit → Act → World → Prop}
    (h1 : a.eval x = .pointer (some ⟨blk (a.eval x), 0, none⟩)) (h2 : (row w (blk (a.eval x))).map (·.size) = some 65)
    (h3 : a.eval y = .agg (aggOf (a.eval y))) (h4 : (aggOf (a.eval y)).size = 65) (h5 : allOne (aggOf (a.eval y)) = true) :
    Oper.wp Try.prog ⟨dst, .store 81 x y, ty, pos, after, gd⟩ a w K Q = K (a.put dst undef) (w.setRow (blk (a.eval x)) (aggOf (a.eval y))) := wp_store_agg _ 65 ent_size h1 h2 h3 h4 h5
theorem sec_store {dst : Option Tmp} {x y : Operand} {ty : TypeId} {pos : String} {after : Array Edge} {gd : Option (Nat × Bool)} {a : Act} {w : World} {K : Act → World → Prop} {Q : Exit → Act → World → Prop}
    (h1 : a.eval x = .pointer (some ⟨blk (a.eval x), 0, none⟩)) (h2 : (row w (blk (a.eval x))).map (·.size) = some 64)
    (h3 : a.eval y = .agg (aggOf (a.eval y))) (h4 : (aggOf (a.eval y)).size = 64) (h5 : allOne (aggOf (a.eval y)) = true) :
    Oper.wp Try.prog ⟨dst, .store 79 x y, ty, pos, after, gd⟩ a w K Q = K (a.put dst undef) (w.setRow (blk (a.eval x)) (aggOf (a.eval y))) := wp_store_agg _ 64 sec_info h1 h2 h3 h4 h5
attribute [go_sem ↓] ent_store sec_store
theorem chg_setCells {S : Nat → Prop} (b : Nat) (hb : S b) : ∀ (vs : List Value) (o : Nat) (w W : World), Chg S w W → Chg S w (W.setCells b o vs)
  | [], o, w, W, h => h
  | v :: r, o, w, W, h => chg_setCells b hb r (o + 1) w _ (h.setCell (p := ⟨b, o, none⟩) (.inl hb) v)
theorem there_part {W : World} {b n : Nat} (h : W.there b 0 n) (o m : Nat) (hm : o + m ≤ n) : W.there b o m := fun j hj => by
  have := h (o + j) (by omega)
  rwa [Nat.zero_add] at this
theorem PlAt.land {W : World} {g gs : Nat} {pv : Value} {A : Option Addr} {c : Nat} {s : Ps} (h : PlAt W g gs pv A c s) (e : Nat × Sec) (he : e.1 < s.sure.length) :
    PlAt (W.setCells gs (e.1 * 64) (secC e.2)) g gs pv A c { s with sure := landS s.sure e } ∧ Chg (fun x => x = gs) W (W.setCells gs (e.1 * 64) (secC e.2)) := by
  have hc : Chg (fun x => x = gs) W (W.setCells gs (e.1 * 64) (secC e.2)) := chg_setCells (S := fun x => x = gs) gs rfl _ _ _ _ (Chg.refl _ _)
  have hl := secC_len e.2
  refine ⟨⟨?_, ?_, ?_, h.pend.chg hc (fun k hk e => h.ne3 (by rw [hk]; exact congrArg some e)), h.keep.chg hc (fun a ha => (h.ne4 a ha).2.1), Nat.lt_of_lt_of_le h.lt hc.size, fun a ha => Nat.lt_of_lt_of_le (h.klt a ha) hc.size, h.ne1, h.ne2, h.ne3, h.ne4, ⟨?_, ?_, h.ok.2.2⟩, h.few, h.fewk, ?_⟩, hc⟩
  · rw [hc.row (row_lt h.row) (fun e => h.ne1 e.symm), h.row]
    unfold PlS
    simp only [landS_len]
  · intro i d hd
    have hd' : (s.sure.set e.1 e.2)[i]? = some d := hd
    rw [List.getElem?_set] at hd'
    by_cases hi : e.1 = i
    · subst hi
      rw [if_pos rfl, if_pos he] at hd'
      cases hd'
      exact World.rangeAt_setCells_same _ _ _ _ (by rw [hl]; exact there_part h.there _ _ (by omega))
    · rw [if_neg hi] at hd'
      refine World.rangeAt_setCells_apart (h.sec i d hd') _ _ _ (.inr ?_)
      rw [secC_len, secC_len]
      omega
  · show World.there _ gs 0 ((landS s.sure e).length * 64)
    rw [landS_len]
    exact World.there_setCells h.there _ _ _
  · intro x hx
    show x.1 < (landS s.sure e).length
    rw [landS_len]; exact h.ok.1 x hx
  · show 0 < (landS s.sure e).length
    rw [landS_len]; exact h.ok.2.1
  · show (landS s.sure e).length ≤ 16384
    rw [landS_len]; exact h.fews
theorem Chg.below_before {S : Nat → Prop} {w w1 W : World} (hb : Below w.heap.size w w1) (h : Chg S w1 W) : Chg S w W := (Chg.of_below (S := S) hb (Nat.le_refl _)).andThen h (fun k hk => .inl hk)
theorem land_any (g gs : Nat) (pv : Value) (A : Option Addr) (c : Nat) (s : Ps) (e : Nat × Sec) (he : e.1 < s.sure.length) (w : World) (h : PlAt w g gs pv A c s) :
    Calls Try.prog 32 #[.pointer (some ⟨g, 0, none⟩), .agg (entC e)] w fun e' w' => e' = .returned (.tuple #[]) ∧ PlAt w' g gs pv A c { s with sure := landS s.sure e } ∧ Chg (fun x => x = gs) w w' := by
  refine (land_run g gs s.sure.length e.1 (secC e.2) (secC_len _) (secC_one _) he w (h.cells 0) (row_lt h.row) h.lt h.ne1 (there_part h.there _ _ (by omega))).mono ?_
  rintro e' w' ⟨rfl, rfl⟩
  have hb : Below w.heap.size w (w.alloc (.cells (Value.int .i64 (e.1 : Int) :: secC e.2).toArray 81)).drew := (by (repeat (first | exact Below.refl _ _ | assumption | (refine Below.allocT ?_ _) | refine Below.drew ?_ | refine below_drewN ?_ _ | (refine Below.then ?_ (by assumption)) | (refine Below.setRow ?_ ?_ _; rotate_left; (focus (first | exact Nat.lt_succ_self _ | ((repeat rw [World.size_alloc]); omega) | (simp; done) | (simp; omega) | omega))) | (refine Below.setCell ?_ ?_ _; rotate_left; (focus (first | exact Nat.lt_succ_self _ | ((repeat rw [World.size_alloc]); omega) | (simp; done) | (simp; omega) | omega))) | (refine Below.then' ?_ (by assumption) ?_; rotate_left; (focus (first | exact Nat.lt_succ_self _ | ((repeat rw [World.size_alloc]); omega) | (simp; done) | (simp; omega) | omega))) | fail)); (first | done | fail))
  obtain ⟨h1, h2⟩ := (h.stay hb).land e he
  exact ⟨rfl, h1, Chg.below_before hb h2⟩
theorem foldl_take {α β : Type} (f : β → α → β) (b : β) (l : List α) (i : Nat) (x : α) (h : l[i]? = some x) : (l.take (i + 1)).foldl f b = f ((l.take i).foldl f b) x := by
  obtain ⟨hi, rfl⟩ := List.getElem?_eq_some_iff.1 h
  rw [List.take_succ_eq_append_getElem hi, List.foldl_append]; rfl
theorem ent_at {W : World} {Ap : Option Addr} {l : List (Nat × Sec)} {j : Nat} {e : Nat × Sec} (h : SliceOf 65 entC W Ap l) (hj : l[j]? = some e) : ∃ b off, Ap = some ⟨b, off, none⟩ ∧ W.rangeAt b (off + j * 65) (Value.int .i64 (e.1 : Int) :: secC e.2) := by
  obtain ⟨b, off, ha, _, hx⟩ := h (by have := (List.getElem?_eq_some_iff.1 hj).1; omega)
  exact ⟨b, off, ha, hx j e hj⟩
/-- Nothing is pending any more. -/
theorem PlAt.clear {W : World} {g gs : Nat} {pv : Value} {A : Option Addr} {c : Nat} {s : Ps} (h : PlAt W g gs pv A c s) (v : Value) (hv : v = .slice none 0 0) : PlAt (W.setCell ⟨g, 1, none⟩ v) g gs (.slice none 0 0) A c { s with pend := [] } ∧ Chg (fun x => x = g) W (W.setCell ⟨g, 1, none⟩ v) := by
  subst hv
  have hc : Chg (fun x => x = g) W (W.setCell ⟨g, 1, none⟩ (.slice none 0 0)) := (Chg.refl (fun x => x = g) W).setCell (p := ⟨g, 1, none⟩) (.inl rfl) _
  exact ⟨⟨row_set h.row 1 _, fun i d hd => range_chg (h.sec i d hd) hc h.lt h.ne1, there_chg h.there hc h.lt h.ne1, OwnC.nil _ _, h.keep.chg hc (fun a ha => (h.ne4 a ha).1), Nat.lt_of_lt_of_le h.lt hc.size, fun a ha => Nat.lt_of_lt_of_le (h.klt a ha) hc.size, h.ne1, (by simp [Value.ownBlock]), (by simp [Value.ownBlock]), fun a ha => ⟨(h.ne4 a ha).1, (h.ne4 a ha).2.1, by simp [Value.ownBlock]⟩, ⟨by simp, h.ok.2⟩, by simp, h.fewk, h.fews⟩, hc⟩
set_option maxRecDepth 100000 in
set_option maxHeartbeats 4000000 in
theorem sync_any (g gs : Nat) (pv : Value) (A : Option Addr) (c : Nat) (s : Ps) (w : World) (h : PlAt w g gs pv A c s) :
    Calls Try.prog 51 #[.pointer (some ⟨g, 0, none⟩)] w fun e w' => e = .returned (.int .i64 s.sync.1) ∧ PlTo w (PS g gs pv A) g s.sync.2 w' := by
  have HI := Lib.hid (is_yes g gs pv A c s w h)
  have HP := Lib.hid (power_any g gs pv A c s w h)
  by_cases hp : s.power.1 = true
  rotate_left
  · have hp' : s.power.1 = false := by simpa using hp
    have HV : Hid (s.sync = (280, s.power.2)) := Lib.hid (by unfold Ps.sync; rw [if_neg hp])
    rw [HV.out]
    rw [hp'] at HP
    clear h hp hp'
    go_enter Try.func51, Try.ntmps51
    go_wp2_with fail
    refine (HI.out).mono ?_
    rintro e w1 ⟨rfl, rfl⟩
    go_wp2_with fail
    refine (HP.out).mono ?_
    rintro e w2 ⟨rfl, hT⟩
    have HT := Lib.hid hT
    clear hT
    go_wp2_with fail
    go_ret
    exact ⟨rfl, HT.out⟩
  · have HV : Hid (s.sync = (0, { s.power.2 with sure := s.power.2.pend.foldl landS s.power.2.sure, pend := [] })) := Lib.hid (by
      unfold Ps.sync
      rw [if_pos hp, (Ps.power_ok h.ok).2.1, (Ps.power_ok h.ok).2.2.1])
    rw [HV.out]
    rw [hp] at HP
    generalize s.power.2 = s1 at *
    clear h hp HV
    go_enter Try.func51, Try.ntmps51
    go_wp2_with fail
    refine (HI.out).mono ?_
    rintro e w1 ⟨rfl, rfl⟩
    go_wp2_with fail
    refine (HP.out).mono ?_
    rintro e w2 ⟨rfl, gs1, pv1, A1, c1, h1, hF, hC⟩
    obtain ⟨Ap, cp, hpv, hSl, _, _⟩ := h1.pend.form entC_size
    have k1 : w2.cell? ⟨g, 1, none⟩ = some (.slice Ap s1.pend.length cp) := (h1.cells 1).trans (by rw [← hpv]; rfl)
    have H1 := Lib.hid h1
    have HF := Lib.hid hF
    have HC := Lib.hid hC
    have HSl := Lib.hid hSl
    have HPv := Lib.hid hpv
    have hne : Hid (gs1 ≠ g) := Lib.hid h1.ne1
    clear h1 hF hC hSl hpv HI HP
    generalize hn : s1.pend.length = n at *
    have HN := Lib.hid hn
    clear hn
    go_wp2_with fail
    go_loopw [18] (fun i wr => ∃ j : Nat, i = .int .i64 j ∧ j ≤ n ∧ Hid (PlAt wr g gs1 pv1 A1 c1 { s1 with sure := (s1.pend.take j).foldl landS s1.sure } ∧ Chg (fun x => x = gs1) w2 wr)) (fun i _ => n - (intOf i).toNat)
    case atStart => exact ⟨0, rfl, by omega, Lib.hid ⟨H1.out, Chg.refl _ _⟩⟩
    case round =>
      obtain ⟨j, rfl, hj, hH⟩ := hrel
      clear k1
      by_cases hlt : j < n
      · obtain ⟨e, hxj⟩ : ∃ e, s1.pend[j]? = some e := ⟨_, List.getElem?_eq_getElem (by rw [HN.out]; omega)⟩
        have hok := H1.out.ok.1 e (List.mem_of_getElem? hxj)
        have hSl2 := hH.out.1.pend.form entC_size
        obtain ⟨b, off, rfl, hr⟩ := ent_at (HSl.out.chg hH.out.2 (fun a ha he => H1.out.ne3 ((congrArg Value.ownBlock HPv.out).trans (by rw [ha]; exact congrArg some he)))) hxj
        have hfold := Lib.hid (foldl_take landS s1.sure s1.pend j e hxj)
        have hlen1 := fold_land_len (s1.pend.take j) s1.sure
        have HL := Lib.hid (fun W (h : PlAt W g gs1 pv1 A1 c1 { s1 with sure := (s1.pend.take j).foldl landS s1.sure }) => land_any g gs1 pv1 A1 c1 _ e (by show e.1 < ((s1.pend.take j).foldl landS s1.sure).length; rw [hlen1]; exact hok) W h)
        have hi : (Try.prog.info? 81).map (·.size) = some (Value.int .i64 (e.1 : Int) :: secC e.2).length := by rw [ent_size, List.length_cons, secC_len]
        have z1 : (0 : Int) ≤ (j : Int) := by omega
        have z2 : (j : Int) < (n : Int) := by omega
        have hsz : (Value.int .i64 (e.1 : Int) :: secC e.2).toArray.size = 65 := entC_size e
        have hone : allOne (Value.int .i64 (e.1 : Int) :: secC e.2).toArray = true := entC_one e
        have r4 : row (wr.alloc (.cells (Value.int .i64 (e.1 : Int) :: secC e.2).toArray 81)) wr.heap.size = some (Value.int .i64 (e.1 : Int) :: secC e.2).toArray := row_at _ _ _ _ rfl
        have hr4 : (wr.alloc (.cells (Value.int .i64 (e.1 : Int) :: secC e.2).toArray 81)).rangeAt wr.heap.size 0 (Value.int .i64 (e.1 : Int) :: secC e.2) := fun k v hv => by
          rw [row_cell r4 (0 + k), List.getElem?_toArray, Nat.zero_add]; exact hv
        have P4 := Lib.hid (hH.out.1.stay ((Below.refl _ wr).alloc (Nat.le_refl _) (.cells (Value.int .i64 (e.1 : Int) :: secC e.2).toArray 81)))
        have C4 := Lib.hid (hH.out.2.alloc (.cells (Value.int .i64 (e.1 : Int) :: secC e.2).toArray 81))
        clear hxj hok hlen1 hSl2 r4 hH
        go_wp2_with (first | (refine wpList_load_mid rfl 81 _ (by rfl) b (off + j * 65) (by rfl) (Value.int .i64 (e.1 : Int) :: secC e.2) _ hr ent_under rfl hi ?_) | (refine wpList_load_mid rfl 81 _ (by rfl) wr.heap.size 0 (by rfl) (Value.int .i64 (e.1 : Int) :: secC e.2) _ hr4 ent_under rfl hi ?_))
        refine (HL.out _ P4.out).mono ?_
        rintro e' w5 ⟨rfl, hP5, hC5⟩
        have P5 := Lib.hid hP5
        have C5 := Lib.hid (C4.out.andThen hC5 (fun k hk => .inl hk))
        clear hP5 hC5 P4 C4 hr hr4 HL
        go_wp2_with fail
        exact ⟨⟨j + 1, by go_num, by omega, Lib.hid ⟨by rw [hfold.out]; exact P5.out, C5.out⟩⟩, by simp [intOf]; omega⟩
      · obtain rfl : j = n := by omega
        have hPt := hH.out.1
        rw [List.take_of_length_le (by rw [HN.out]; exact Nat.le_refl _)] at hPt
        obtain ⟨hP6, hC6⟩ := hPt.clear (.slice none 0 0) rfl
        have P6 := Lib.hid hP6
        have C6 := Lib.hid (hH.out.2.mono (S' := PS g gs1 pv1 A1) (fun x hx => .inr (.inl hx)) |>.andThen hC6 (fun x hx => .inl (.inl hx)))
        have f1 := hPt.free 1
        have k1 : wr.cell? ⟨g, 1, none⟩ = some (.slice Ap j cp) := (hPt.cells 1).trans (by show some pv1 = _; rw [HPv.out])
        clear hPt hP6 hC6 hH
        go_wp2_with fail
        go_ret
        refine ⟨rfl, PlTo.trans HF.out HC.out ⟨gs1, _, A1, c1, P6.out, fun x hx => .inl ?_, C6.out⟩⟩
        rcases hx with hx | hx | hx | hx
        · exact .inl hx
        · exact .inr (.inl hx)
        · cases hx
        · exact .inr (.inr (.inr hx))
end Go.Proofs.Ytkkncijbedfdfaa

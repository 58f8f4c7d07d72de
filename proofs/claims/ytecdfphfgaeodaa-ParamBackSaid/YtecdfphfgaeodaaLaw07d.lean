/-
  Layer 7: any parameters have the document's bytes; any bytes are the document's parameters, or refused.
-/
import Derived.Test.YtecdfphfgaeodaaPar7
import Derived.Test.YtecdfphfgaeodaaPar8
import Derived.Test.YtecdfphfgaeodaaLaw07b
namespace Go.Proofs.Ytecdfphfgaeodaa
open Go.RowKit
set_option linter.unusedVariables false

theorem par_quietO {C : World → Prop} {o : Oper} {x : Operand} (ho : o.op = .load 24 x) {a : Act} {w : World} {g : Nat} {cs : Array Value}
    (h1 : a.eval x = .pointer (some ⟨g, 0, none⟩)) (h2 : row w g = some cs) (hs : cs.size = 24) : Oper.quietAt Try.prog o a C w (.agg cs) := by
  obtain ⟨d, op, ty, pos, af, gd⟩ := o
  have ho' : op = .load 24 x := ho
  subst ho'
  exact par_quiet h1 h2 hs
theorem rpar_quietO {C : World → Prop} {o : Oper} {x : Operand} (ho : o.op = .load 30 x) {a : Act} {w : World} {g : Nat} {cs : Array Value}
    (h1 : a.eval x = .pointer (some ⟨g, 0, none⟩)) (h2 : row w g = some cs) (hs : cs.size = 24) : Oper.quietAt Try.prog o a C w (.agg cs) := by
  obtain ⟨d, op, ty, pos, af, gd⟩ := o
  have ho' : op = .load 30 x := ho
  subst ho'
  exact rpar_quiet h1 h2 hs
theorem par_build0_quiet {C : World → Prop} {o : Oper} (ho : o.op = .build 24 #[]) {a : Act} {w : World} : Oper.quietAt Try.prog o a C w (.agg Par.zero.cells) := by
  have h : Try.prog.built 24 [] = some Par.zero.cells := by kernel_rfl
  unfold Oper.quietAt execOp
  simp [ho, run_build, h]
  exact ⟨rfl, rfl⟩
theorem Appended.formK {W : World} {v : Value} {l m : List Nat} {v' : Value} {W' : World} {k : Nat} (h : Appended W v l m v' W') (hk : l.length + m.length = k) : ∃ A c, v' = .slice A k c := hk ▸ h.form
theorem none7 : Wt.none.num 7 = ⟨[7], 0⟩ := by
  unfold Wt.num
  rw [formN_low (by omega), Wt.put_fit rfl (by simp [Wt.none])]; rfl
theorem decN_le {xs : List Nat} (h : Rd.Ok ⟨xs, 0, 0⟩) : decN ⟨xs, 0, 0⟩ ≤ xs.length := by
  have h1 := readT_ok h
  have h2 := h1.1.at_
  rw [h1.2] at h2
  unfold decN
  split
  · exact h2
  · omega
theorem checkE_small (P : Par) : checkE P = 0 ∨ checkE P = 70 := by unfold checkE; split <;> simp
set_option maxRecDepth 100000 in
set_option maxHeartbeats 16000000 in
theorem streams_any (P : Par) (A : Option Addr) (n c : Nat) (xs : List Nat) (hn : xs.length = n) (hm : n ≤ 2000) (w : World) (hU : BysIn w A c xs) : Calls Try.prog 29 #[.agg P.cells, .slice A n c] w fun e w' => e = .returned (.bool true) ∧ Below w.heap.size w w' := by
  have ht : Rd.Ok ⟨xs, 0, 0⟩ := ⟨hU.ok, by simp, by show xs.length ≤ _; omega, by simp, by simp⟩
  have r1 : row ((w.alloc (.cells P.cells 24)).alloc (.cells #[.slice none 0 0, .int .i64 0] 85)) w.heap.size = some P.cells := (by (repeat (first | assumption | (refine row_at _ _ _ _ ?_; first | rfl | (simp only [World.size_alloc]; done) | (simp only [World.size_alloc]; omega)) | (refine (row_past _ _ _ ?_).trans ?_; (focus (first | exact Nat.lt_succ_self _ | ((repeat rw [World.size_alloc]); omega) | (simp; done) | (simp; omega) | omega))) | rw [row_drewN] | rw [row_drew])); (first | done | fail))
  have hB1 : Below w.heap.size w ((w.alloc (.cells P.cells 24)).alloc (.cells #[.slice none 0 0, .int .i64 0] 85)) := (by (repeat (first | exact Below.refl _ _ | assumption | (refine Below.allocT ?_ _) | refine Below.drew ?_ | refine below_drewN ?_ _ | (refine Below.then ?_ (by assumption)) | (refine Below.setRow ?_ ?_ _; rotate_left; (focus (first | exact Nat.lt_succ_self _ | ((repeat rw [World.size_alloc]); omega) | (simp; done) | (simp; omega) | omega))) | (refine Below.setCell ?_ ?_ _; rotate_left; (focus (first | exact Nat.lt_succ_self _ | ((repeat rw [World.size_alloc]); omega) | (simp; done) | (simp; omega) | omega))) | (refine Below.then' ?_ (by assumption) ?_; rotate_left; (focus (first | exact Nat.lt_succ_self _ | ((repeat rw [World.size_alloc]); omega) | (simp; done) | (simp; omega) | omega))) | fail)); (first | done | fail))
  have hW1 := WtAt.fresh (w.alloc (.cells P.cells 24)) 85
  rw [World.size_alloc] at hW1
  have HRt := Lib.hid (fun W => right_any P W)
  have HPl := Lib.hid (fun W => plain_any P W)
  have HU := Lib.hid hU
  have HN := Lib.hid hn
  have HT := Lib.hid ht
  have HX := Lib.hid (fun A c W (h : Bys W A (7 :: xs)) => ropen_any A (7 :: xs).length c (7 :: xs) rfl (by rw [List.length_cons]; omega) W h)
  rw [List.length_cons, hn] at HX
  have ht7 : Rd.Ok ⟨7 :: xs, 0, 0⟩ := ⟨.of fun x hx => by rcases List.mem_cons.1 hx with rfl | hx; omega; exact hU.ok.mem x hx, by simp, by show (7 :: xs).length ≤ _; rw [List.length_cons]; omega, by simp, by simp⟩
  have ht8 : (Rd.sh 7 ⟨xs, 0, 0⟩).Ok := by
    have := ht7.num 7
    rw [seven_num] at this
    exact this
  have HN7 : Hid (∀ g A c W, RdAt W g A c ⟨7 :: xs, 0, 0⟩ → Calls Try.prog 59 #[.pointer (some ⟨g, 0, none⟩), .int .u64 7] W (RdPost W g A c (.int .u64 7) (Rd.sh 7 ⟨xs, 0, 0⟩))) := Lib.hid fun g A c W h => by
    have := rnum_any g A c ⟨7 :: xs, 0, 0⟩ ht7 7 (by omega) W h
    rw [seven_num] at this
    exact this
  have HRd := Lib.hid (fun g A c W (h : RdAt W g A c (Rd.sh 7 ⟨xs, 0, 0⟩)) => pread_any g A c (Rd.sh 7 ⟨xs, 0, 0⟩) ht8 W h)
  unfold ReadPost at HRd
  rw [readQ_sh, readE_sh, readT_sh] at HRd
  have HDc := Lib.hid (fun W (h : BysIn W A c xs) => rdec7_any A n c xs hn (by omega) W h)
  unfold DecPost at HDc
  have hdl := decN_le ht
  rw [hn] at hdl
  have HDe : Hid (readE ⟨xs, 0, 0⟩ = 0 → decN ⟨xs, 0, 0⟩ = (readT ⟨xs, 0, 0⟩).at_) := Lib.hid fun h => by unfold decN; rw [if_pos h]
  generalize readE ⟨xs, 0, 0⟩ = re at *
  generalize readQ ⟨xs, 0, 0⟩ = rq at *
  generalize readT ⟨xs, 0, 0⟩ = rt at *
  generalize decN ⟨xs, 0, 0⟩ = dn at *
  clear hU ht ht7 ht8 hn
  cases hr : rightB P
  all_goals
    rw [hr] at HRt
  · have HWn := Lib.hid (fun v W => pwrite_no v P hr W)
    clear hr
    go_enter Try.func29, Try.ntmps29
    go_wp2_with fail
    generalize (w.alloc (.cells P.cells 24)).alloc (.cells #[.slice none 0 0, .int .i64 0] 85) = w1 at *
    obtain ⟨g, hg⟩ : ∃ g, g = w.heap.size + 1 := ⟨_, rfl⟩
    rw [← hg] at hW1 ⊢
    have GP : Hid (w.heap.size < g) := Lib.hid (by omega)
    have HS7 : Hid (Wt.Ok ⟨[7], 0⟩) := Lib.hid ⟨.of fun x hx => by simp at hx; omega, by simp, by simp, by simp⟩
    refine (wnum_any g none Wt.none Wt.none_ok 7 (by omega) w1 hW1).mono ?_
    intro e w2 hp
    rw [none7] at hp
    obtain ⟨he, o2, a2, v2, c2⟩ := hp
    unfold unitE at he
    subst he
    have r2 := (c2.row (row_lt r1) (fun hk => by have := GP.out; rcases hk with hk | hk; omega; cases hk)).trans r1
    have B2 := Lib.hid (hB1.trans (c2.toBelow (B := w.heap.size) (fun k hk => by have := GP.out; rcases hk with rfl | hk; omega; cases hk) hB1.size))
    have A2 := Lib.hid a2
    have HWS2 : Hid (∀ k, WS g o2 k → w.heap.size < k) := Lib.hid fun k hk => by
      have h1 := GP.out
      have h2 := row_lt r1
      rcases hk with rfl | hk
      · omega
      · rcases v2 with rfl | ⟨j, rfl, hj⟩
        · cases hk
        · cases hk; omega
    clear r1 hB1 hW1 a2 v2 c2 hg
    go_wp2_with fail
    refine (HWn.out _ _).mono ?_
    rintro e w3 ⟨rfl, hb3⟩
    have r3 := (row_below hb3 (row_lt r2)).trans r2
    have B3 := Lib.hid (Below.then B2.out hb3)
    have A3 := Lib.hid (A2.out.stay hb3)
    clear r2 hb3 A2 B2
    go_wp2_with fail
    refine (wout_any g _ ⟨[7], 0⟩ HS7.out _ A3.out).mono ?_
    rintro e w4 ⟨A4, c4, rfl, hO4, hA4, hb4⟩
    have r4 := (row_below hb4 (row_lt r3)).trans r3
    have B4 := Lib.hid (Below.then B3.out hb4)
    have Y4 : Hid (Bys w4 A4 [7]) := Lib.hid hO4.bysA
    have L4 : Hid (∀ a, A4 = some a → a.block < w4.heap.size) := Lib.hid fun a ha => by subst ha; exact hO4.lt _ rfl
    have HLn : Hid ((outL ⟨[7], 0⟩).length = 1) := Lib.hid (by simp [outL])
    rw [HLn.out]
    clear r3 B3 A3 hO4 hA4 hb4
    have O5 := Lib.hid (OwnB.lit w4 [7] #[.int .u8 7] (by simp) rfl)
    have Y5 := Lib.hid (Y4.out.stay ((Below.refl _ w4).alloc (Nat.le_refl _) (.cells #[.int .u8 7] 5)))
    have r5 : row (w4.alloc (.cells #[.int .u8 7] 5)) w.heap.size = some P.cells := (row_past _ _ _ (row_lt r4)).trans r4
    have B5 := Lib.hid (Below.allocT B4.out (.cells #[.int .u8 7] 5))
    clear r4 Y4 B4
    go_wp2_with fail
    generalize w4.alloc (.cells #[.int .u8 7] 5) = w5 at *
    generalize w4.heap.size = g5 at *
    refine (HPl.out _).mono ?_
    rintro e w6 ⟨rfl, hb6⟩
    have r6 := (row_below hb6 (row_lt r5)).trans r5
    have B6 := Lib.hid (Below.then B5.out hb6)
    have Y6 := Lib.hid (Y5.out.stay hb6)
    have O6 := Lib.hid (O5.out.stay hb6)
    clear r5 B5 Y5 O5 hb6
    go_wp2_with fail
    refine (HRt.out _).mono ?_
    rintro e w7 ⟨rfl, hb7⟩
    have r7 := (row_below hb7 (row_lt r6)).trans r6
    have B7 := Lib.hid (Below.then B6.out hb7)
    have Y7 := Lib.hid (Y6.out.stay hb7)
    have Z7 : Hid (Bys w7 (some ⟨g5, 0, none⟩) [7]) := Lib.hid (O6.out.stay hb7).bysA
    clear r6 B6 Y6 O6 hb7
    go_wp2_with fail
    refine (same5_any A4 (some ⟨g5, 0, none⟩) [7] [7] _ _ _ _ rfl rfl (by simp) (by simp) _ Y7.out Z7.out).mono ?_
    rintro e w9 ⟨rfl, hb9⟩
    have hself : sameL [7] [7] = true := by simp [sameL]
    rw [hself]
    have r9 := (row_below hb9 (row_lt r7)).trans r7
    have B9 := Lib.hid (Below.then B7.out hb9)
    clear r7 B7 Y7 Z7 hb9 hself
    go_wp2_with fail
    refine (HWn.out _ _).mono ?_
    rintro e wk ⟨rfl, hb10⟩
    have BK := Lib.hid (Below.then B9.out hb10)
    clear r9 B9 hb10 HWn HRt
    go_wp2_with (at_builtin; refine wpList_appb rfl _ _ rfl _ [7] xs A n c (OwnB.lit wk [7] #[.int .u8 7] (by simp) rfl) (HU.out.bys.below (Below.allocT BK.out _) (Nat.le_refl _)) rfl rfl HN.out (by rw [HN.out, List.length_singleton]; omega) ?_; intro v' wl hAp; obtain ⟨A5, c5, rfl⟩ := hAp.formK (k := n + 1) (by rw [HN.out, List.length_singleton]; omega); have HAp := Lib.hid hAp; clear hAp)
    have BL := Lib.hid ((Below.allocT BK.out (.cells #[.int .u8 7] 5)).grown HAp.out.2.1 (Below.allocT BK.out (.cells #[.int .u8 7] 5)).size (fun k hk => by have h1 : some wk.heap.size = some k := hk; rw [Option.some.injEq] at h1; rw [← h1]; exact BK.out.size))
    have YL : Hid (Bys wl A5 (7 :: xs)) := Lib.hid HAp.out.1.bysA
    clear HAp BK
    refine (HX.out A5 c5 wl YL.out).mono ?_
    rintro e wm ⟨g7, A7, c7, rfl, hg7, hA7, hR7, hb⟩
    have BM := Lib.hid (Below.then BL.out hb)
    have R7 := Lib.hid hR7
    have G7 : Hid (w.heap.size ≤ g7) := Lib.hid (Nat.le_trans BL.out.size hg7)
    clear hg7 hA7 hR7 hb BL YL HX
    go_wp2_with fail
    refine (HN7.out g7 A7 c7 _ R7.out).mono ?_
    rintro e wn ⟨rfl, hR8, hC8⟩
    have BN := Lib.hid (BM.out.trans (hC8.toBelow (B := w.heap.size) (fun k hk => by have hk' : k = g7 := hk; have := G7.out; omega) BM.out.size))
    have R8 := Lib.hid hR8
    clear hR8 hC8 R7 BM HN7
    go_wp2_with fail
    refine (HRd.out g7 A7 c7 _ R8.out).mono ?_
    rintro e wo ⟨rfl, hR9, hC9⟩
    have BO := Lib.hid (BN.out.trans (hC9.toBelow (B := w.heap.size) (fun k hk => by have hk' : k = g7 := hk; have := G7.out; omega) BN.out.size))
    have R9 := Lib.hid (hR9.stay ((Below.refl _ wo).alloc (Nat.le_refl _) (.cells rq.cells 24)))
    have q0 : row (wo.alloc (.cells rq.cells 24)) wo.heap.size = some rq.cells := row_at _ _ _ _ rfl
    have BQ := Lib.hid (Below.allocT BO.out (.cells rq.cells 24))
    clear hR9 hC9 R8 BN BO HRd
    go_wp2_with fail
    generalize wo.alloc (.cells rq.cells 24) = wp at *
    generalize wo.heap.size = gq at *
    refine (HDc.out _ (HU.out.below BQ.out (Nat.le_refl _))).mono ?_
    rintro e wq ⟨rfl, hb⟩
    have q1 := (row_below hb (row_lt q0)).trans q0
    have q2 : row (wq.alloc (.cells rq.cells 30)) gq = some rq.cells := (row_past _ _ _ (row_lt q1)).trans q1
    have s2 : row (wq.alloc (.cells rq.cells 30)) wq.heap.size = some rq.cells := row_at _ _ _ _ rfl
    have R10 := Lib.hid (R9.out.stay hb)
    have R11 := Lib.hid (R10.out.stay ((Below.refl _ wq).alloc (Nat.le_refl _) (.cells rq.cells 30)))
    have BR := Lib.hid (Below.allocT (Below.then BQ.out hb) (.cells rq.cells 30))
    clear q0 q1 R9 R10 BQ hb HDc
    go_wp2_with fail
    generalize wq.alloc (.cells rq.cells 30) = ws at *
    generalize wq.heap.size = gs at *
    refine (pread_nil _).mono ?_
    rintro e wt ⟨rfl, hb⟩
    have q3 := (row_below hb (row_lt q2)).trans q2
    have s3 := (row_below hb (row_lt s2)).trans s2
    have q4 : row (wt.alloc (.cells Par.zero.cells 24)) gq = some rq.cells := (row_past _ _ _ (row_lt q3)).trans q3
    have s4 : row (wt.alloc (.cells Par.zero.cells 24)) gs = some rq.cells := (row_past _ _ _ (row_lt s3)).trans s3
    have z4 : row (wt.alloc (.cells Par.zero.cells 24)) wt.heap.size = some Par.zero.cells := row_at _ _ _ _ rfl
    have R12 := Lib.hid (R11.out.stay hb)
    have R13 := Lib.hid (R12.out.stay ((Below.refl _ wt).alloc (Nat.le_refl _) (.cells Par.zero.cells 24)))
    have BU := Lib.hid (Below.allocT (Below.then BR.out hb) (.cells Par.zero.cells 24))
    clear q2 s2 q3 s3 R11 R12 BR hb
    go_wp2_with fail
    generalize wt.alloc (.cells Par.zero.cells 24) = wx at *
    generalize wt.heap.size = gz at *
    have HAt := Lib.hid (fun W h => rat_any g7 A7 c7 (Rd.sh 7 rt) W h)
    have HM : Hid (∀ w', Below wx.heap.size wx w' → row w' gq = some rq.cells ∧ row w' gs = some rq.cells ∧ row w' gz = some Par.zero.cells ∧ Hid (RdAt w' g7 A7 c7 (Rd.sh 7 rt))) := Lib.hid fun w' h => ⟨(row_below h (row_lt q4)).trans q4, (row_below h (row_lt s4)).trans s4, (row_below h (row_lt z4)).trans z4, Lib.hid (R13.out.stay h)⟩
    clear q4 s4 z4 R13 HU HN HT HPl
    by_cases h0 : re = 0
    all_goals
      first
        | (subst h0; have e1 : (((Rd.sh 7 rt).at_ : Nat) : Int) = (dn : Int) + 1 := (by rw [HDe.out rfl]; rfl); rw [e1] at HAt; have e2 : IntKind.i64.wrap ((dn : Int) + 1) = (dn : Int) + 1 := IntWalk.i64_in _ (by omega); clear e1 HDe)
        | (have e3 : (re != 0) = true := bne_iff_ne.2 h0; clear h0 HDe)
      (refine wp_region_calm (by kernel_rfl) (by kernel_rfl) ?_; (repeat (first | go_big_quiet_skip | (go_big_quiet_want; apply calm_val; (focus (intro w' hb'; obtain ⟨c1, c2, c3, c4⟩ := HM.out w' hb'; first | exact par_quietO rfl rfl c1 rfl | exact rpar_quietO rfl rfl c2 rfl | exact par_quietO rfl rfl c3 rfl | exact par_build0_quiet rfl | (unfold Oper.quietAt; go_simp; first | rfl | (go_at_call 15; exact calm_call hb' (plain_any rq _)) | (go_at_call 56; exact calm_call hb' (same_below (HAt.out _ c4.out)))))); (try simp only [Act.put, List.setIfInBounds_toArray, List.set_cons_zero, List.set_cons_succ]); go_big_quiet_on))); refine wpQuiet_nil ?_; intro w' hb')
      go_wp2_with fail
      go_ret
      exact ⟨rfl, Below.then BU.out hb'⟩
  · have hf := right_fits hr
    have HWy := Lib.hid (fun g o s hs W h => pwrite_yes g o s hs P hr W h)
    have HWn := Lib.hid (fun W => pwrite_nil P hr W)
    have HFm := Lib.hid (fun W => rform7_any P hf W)
    have HS8 : Hid (wtP ⟨[7], 0⟩ P = ⟨[7] ++ formP P, 0⟩) := Lib.hid (wtP_form hf rfl (by simp))
    have hFl := formP_len hf
    have HF8 : Hid (Wt.Ok ⟨[7] ++ formP P, 0⟩) := Lib.hid ⟨.append (.of fun x hx => by simp at hx; omega) (formP_ok P), by show ([7] ++ formP P).length ≤ 131072; rw [List.length_append]; simp; omega, by simp, by simp⟩
    clear hr hf
    go_enter Try.func29, Try.ntmps29
    go_wp2_with fail
    generalize (w.alloc (.cells P.cells 24)).alloc (.cells #[.slice none 0 0, .int .i64 0] 85) = w1 at *
    obtain ⟨g, hg⟩ : ∃ g, g = w.heap.size + 1 := ⟨_, rfl⟩
    rw [← hg] at hW1 ⊢
    have GP : Hid (w.heap.size < g) := Lib.hid (by omega)
    have HS7 : Hid (Wt.Ok ⟨[7], 0⟩) := Lib.hid ⟨.of fun x hx => by simp at hx; omega, by simp, by simp, by simp⟩
    refine (wnum_any g none Wt.none Wt.none_ok 7 (by omega) w1 hW1).mono ?_
    intro e w2 hp
    rw [none7] at hp
    obtain ⟨he, o2, a2, v2, c2⟩ := hp
    unfold unitE at he
    subst he
    have r2 := (c2.row (row_lt r1) (fun hk => by have := GP.out; rcases hk with hk | hk; omega; cases hk)).trans r1
    have B2 := Lib.hid (hB1.trans (c2.toBelow (B := w.heap.size) (fun k hk => by have := GP.out; rcases hk with rfl | hk; omega; cases hk) hB1.size))
    have A2 := Lib.hid a2
    have HWS2 : Hid (∀ k, WS g o2 k → w.heap.size < k) := Lib.hid fun k hk => by
      have h1 := GP.out
      have h2 := row_lt r1
      rcases hk with rfl | hk
      · omega
      · rcases v2 with rfl | ⟨j, rfl, hj⟩
        · cases hk
        · cases hk; omega
    clear r1 hB1 hW1 a2 v2 c2 hg
    go_wp2_with fail
    refine (HWy.out g _ _ HS7.out _ A2.out).mono ?_
    rintro e w3 ⟨rfl, hG3⟩
    rw [HS8.out] at hG3
    have r3 := (hG3.row (row_lt r2) (fun h => Nat.lt_irrefl _ (HWS2.out _ h))).trans r2
    obtain ⟨o3, a3, v3, c3⟩ := hG3
    have B3 := Lib.hid (B2.out.trans (c3.toBelow (B := w.heap.size) (fun k hk => Nat.le_of_lt (HWS2.out k hk)) B2.out.size))
    have A3 := Lib.hid a3
    clear r2 a3 v3 c3 A2 B2
    go_wp2_with fail
    generalize formP P = fp at *
    refine (wout_any g _ ⟨[7] ++ fp, 0⟩ HF8.out _ A3.out).mono ?_
    rintro e w4 ⟨A4, c4, rfl, hO4, hA4, hb4⟩
    have r4 := (row_below hb4 (row_lt r3)).trans r3
    have B4 := Lib.hid (Below.then B3.out hb4)
    have Y4 : Hid (Bys w4 A4 ([7] ++ fp)) := Lib.hid hO4.bysA
    have L4 : Hid (∀ a, A4 = some a → a.block < w4.heap.size) := Lib.hid fun a ha => by subst ha; exact hO4.lt _ rfl
    have HLn : Hid ((outL ⟨[7] ++ fp, 0⟩).length = fp.length + 1) := Lib.hid (by simp [outL])
    rw [HLn.out]
    clear r3 B3 A3 hO4 hA4 hb4
    have O5 := Lib.hid (OwnB.lit w4 [7] #[.int .u8 7] (by simp) rfl)
    have Y5 := Lib.hid (Y4.out.stay ((Below.refl _ w4).alloc (Nat.le_refl _) (.cells #[.int .u8 7] 5)))
    have r5 : row (w4.alloc (.cells #[.int .u8 7] 5)) w.heap.size = some P.cells := (row_past _ _ _ (row_lt r4)).trans r4
    have B5 := Lib.hid (Below.allocT B4.out (.cells #[.int .u8 7] 5))
    have G5 : Hid (w.heap.size < w4.heap.size) := Lib.hid (row_lt r4)
    have L4h : Hid (∀ a, A4 = some a → a.block < w4.heap.size) := L4
    clear r4 Y4 B4 L4
    go_wp2_with fail
    generalize w4.alloc (.cells #[.int .u8 7] 5) = w5 at *
    generalize w4.heap.size = g5 at *
    refine (HPl.out _).mono ?_
    rintro e w6 ⟨rfl, hb6⟩
    have r6 := (row_below hb6 (row_lt r5)).trans r5
    have B6 := Lib.hid (Below.then B5.out hb6)
    have Y6 := Lib.hid (Y5.out.stay hb6)
    have O6 := Lib.hid (O5.out.stay hb6)
    clear r5 B5 Y5 O5 hb6
    go_wp2_with fail
    refine (HRt.out _).mono ?_
    rintro e w7 ⟨rfl, hb7⟩
    have r7 := (row_below hb7 (row_lt r6)).trans r6
    have B7 := Lib.hid (Below.then B6.out hb7)
    have Y7 := Lib.hid (Y6.out.stay hb7)
    have O7 := Lib.hid (O6.out.stay hb7)
    clear r6 B6 Y6 O6 hb7
    go_wp2_with fail
    refine (HPl.out _).mono ?_
    rintro e w8 ⟨rfl, hb8⟩
    have r8 := (row_below hb8 (row_lt r7)).trans r7
    have B8 := Lib.hid (Below.then B7.out hb8)
    have Y8 := Lib.hid (Y7.out.stay hb8)
    have O8 := Lib.hid (O7.out.stay hb8)
    clear r7 B7 Y7 O7 hb8
    go_wp2_with fail
    refine (HFm.out _).mono ?_
    intro e w9 hR
    obtain ⟨A9, c9, rfl, hB, hO, hA, hb9⟩ := hR.bys
    have r9 := (row_below hb9 (row_lt r8)).trans r8
    have B9 := Lib.hid (Below.then B8.out hb9)
    have Y9 := Lib.hid (Y8.out.stay hb9)
    have O9 := Lib.hid (O8.out.stay hb9)
    have F9 := Lib.hid hB
    clear r8 B8 Y8 O8 hb9 hR hB hO hA
    go_wp2_with (at_builtin; refine wpList_appb rfl _ _ rfl _ [7] fp A9 _ c9 O9.out F9.out rfl rfl rfl (by rw [List.length_singleton]; omega) ?_; intro v' wa hAp; obtain ⟨Aa, ca, rfl⟩ := hAp.formK (k := fp.length + 1) (by rw [List.length_singleton]; omega); have HAp := Lib.hid hAp; have ra := (hAp.chg.row (row_lt r9) (fun he => by have h1 : some g5 = some w.heap.size := he; rw [Option.some.injEq] at h1; have := G5.out; omega)).trans r9; clear hAp)
    have BA := Lib.hid (B9.out.grown HAp.out.2.1 B9.out.size (fun k hk => by have h1 : some g5 = some k := hk; rw [Option.some.injEq] at h1; rw [← h1]; exact Nat.le_of_lt G5.out))
    have YA : Hid (Bys wa A4 ([7] ++ fp)) := Lib.hid (Y9.out.chg HAp.out.chg (fun a ha he => by have h1 : some g5 = some a.block := he; rw [Option.some.injEq] at h1; have := L4h.out a ha; omega))
    have ZA : Hid (Bys wa Aa ([7] ++ fp)) := Lib.hid HAp.out.1.bysA
    clear r9 B9 Y9 O9 F9 HAp
    refine (same5_any A4 Aa ([7] ++ fp) ([7] ++ fp) (fp.length + 1) c4 (fp.length + 1) ca (by simp) (by simp) (by omega) (by omega) _ YA.out ZA.out).mono ?_
    rintro e wb ⟨rfl, hbb⟩
    have hself : sameL ([7] ++ fp) ([7] ++ fp) = true := by simp [sameL]
    rw [hself]
    have rb := (row_below hbb (row_lt ra)).trans ra
    have BB := Lib.hid (Below.then BA.out hbb)
    clear ra BA YA ZA hbb hself
    go_wp2_with fail
    refine (HWn.out _).mono ?_
    rintro e wk ⟨rfl, hb10⟩
    have BK := Lib.hid (Below.then BB.out hb10)
    clear rb BB hb10 HWn HRt
    go_wp2_with (at_builtin; refine wpList_appb rfl _ _ rfl _ [7] xs A n c (OwnB.lit wk [7] #[.int .u8 7] (by simp) rfl) (HU.out.bys.below (Below.allocT BK.out _) (Nat.le_refl _)) rfl rfl HN.out (by rw [HN.out, List.length_singleton]; omega) ?_; intro v' wl hAp; obtain ⟨A5, c5, rfl⟩ := hAp.formK (k := n + 1) (by rw [HN.out, List.length_singleton]; omega); have HAp := Lib.hid hAp; clear hAp)
    have BL := Lib.hid ((Below.allocT BK.out (.cells #[.int .u8 7] 5)).grown HAp.out.2.1 (Below.allocT BK.out (.cells #[.int .u8 7] 5)).size (fun k hk => by have h1 : some wk.heap.size = some k := hk; rw [Option.some.injEq] at h1; rw [← h1]; exact BK.out.size))
    have YL : Hid (Bys wl A5 (7 :: xs)) := Lib.hid HAp.out.1.bysA
    clear HAp BK
    refine (HX.out A5 c5 wl YL.out).mono ?_
    rintro e wm ⟨g7, A7, c7, rfl, hg7, hA7, hR7, hb⟩
    have BM := Lib.hid (Below.then BL.out hb)
    have R7 := Lib.hid hR7
    have G7 : Hid (w.heap.size ≤ g7) := Lib.hid (Nat.le_trans BL.out.size hg7)
    clear hg7 hA7 hR7 hb BL YL HX
    go_wp2_with fail
    refine (HN7.out g7 A7 c7 _ R7.out).mono ?_
    rintro e wn ⟨rfl, hR8, hC8⟩
    have BN := Lib.hid (BM.out.trans (hC8.toBelow (B := w.heap.size) (fun k hk => by have hk' : k = g7 := hk; have := G7.out; omega) BM.out.size))
    have R8 := Lib.hid hR8
    clear hR8 hC8 R7 BM HN7
    go_wp2_with fail
    refine (HRd.out g7 A7 c7 _ R8.out).mono ?_
    rintro e wo ⟨rfl, hR9, hC9⟩
    have BO := Lib.hid (BN.out.trans (hC9.toBelow (B := w.heap.size) (fun k hk => by have hk' : k = g7 := hk; have := G7.out; omega) BN.out.size))
    have R9 := Lib.hid (hR9.stay ((Below.refl _ wo).alloc (Nat.le_refl _) (.cells rq.cells 24)))
    have q0 : row (wo.alloc (.cells rq.cells 24)) wo.heap.size = some rq.cells := row_at _ _ _ _ rfl
    have BQ := Lib.hid (Below.allocT BO.out (.cells rq.cells 24))
    clear hR9 hC9 R8 BN BO HRd
    go_wp2_with fail
    generalize wo.alloc (.cells rq.cells 24) = wp at *
    generalize wo.heap.size = gq at *
    refine (HDc.out _ (HU.out.below BQ.out (Nat.le_refl _))).mono ?_
    rintro e wq ⟨rfl, hb⟩
    have q1 := (row_below hb (row_lt q0)).trans q0
    have q2 : row (wq.alloc (.cells rq.cells 30)) gq = some rq.cells := (row_past _ _ _ (row_lt q1)).trans q1
    have s2 : row (wq.alloc (.cells rq.cells 30)) wq.heap.size = some rq.cells := row_at _ _ _ _ rfl
    have R10 := Lib.hid (R9.out.stay hb)
    have R11 := Lib.hid (R10.out.stay ((Below.refl _ wq).alloc (Nat.le_refl _) (.cells rq.cells 30)))
    have BR := Lib.hid (Below.allocT (Below.then BQ.out hb) (.cells rq.cells 30))
    clear q0 q1 R9 R10 BQ hb HDc
    go_wp2_with fail
    generalize wq.alloc (.cells rq.cells 30) = ws at *
    generalize wq.heap.size = gs at *
    refine (pread_nil _).mono ?_
    rintro e wt ⟨rfl, hb⟩
    have q3 := (row_below hb (row_lt q2)).trans q2
    have s3 := (row_below hb (row_lt s2)).trans s2
    have q4 : row (wt.alloc (.cells Par.zero.cells 24)) gq = some rq.cells := (row_past _ _ _ (row_lt q3)).trans q3
    have s4 : row (wt.alloc (.cells Par.zero.cells 24)) gs = some rq.cells := (row_past _ _ _ (row_lt s3)).trans s3
    have z4 : row (wt.alloc (.cells Par.zero.cells 24)) wt.heap.size = some Par.zero.cells := row_at _ _ _ _ rfl
    have R12 := Lib.hid (R11.out.stay hb)
    have R13 := Lib.hid (R12.out.stay ((Below.refl _ wt).alloc (Nat.le_refl _) (.cells Par.zero.cells 24)))
    have BU := Lib.hid (Below.allocT (Below.then BR.out hb) (.cells Par.zero.cells 24))
    clear q2 s2 q3 s3 R11 R12 BR hb
    go_wp2_with fail
    generalize wt.alloc (.cells Par.zero.cells 24) = wx at *
    generalize wt.heap.size = gz at *
    have HAt := Lib.hid (fun W h => rat_any g7 A7 c7 (Rd.sh 7 rt) W h)
    have HM : Hid (∀ w', Below wx.heap.size wx w' → row w' gq = some rq.cells ∧ row w' gs = some rq.cells ∧ row w' gz = some Par.zero.cells ∧ Hid (RdAt w' g7 A7 c7 (Rd.sh 7 rt))) := Lib.hid fun w' h => ⟨(row_below h (row_lt q4)).trans q4, (row_below h (row_lt s4)).trans s4, (row_below h (row_lt z4)).trans z4, Lib.hid (R13.out.stay h)⟩
    clear q4 s4 z4 R13 HU HN HT HPl
    by_cases h0 : re = 0
    all_goals
      first
        | (subst h0; have e1 : (((Rd.sh 7 rt).at_ : Nat) : Int) = (dn : Int) + 1 := (by rw [HDe.out rfl]; rfl); rw [e1] at HAt; have e2 : IntKind.i64.wrap ((dn : Int) + 1) = (dn : Int) + 1 := IntWalk.i64_in _ (by omega); clear e1 HDe)
        | (have e3 : (re != 0) = true := bne_iff_ne.2 h0; clear h0 HDe)
      (refine wp_region_calm (by kernel_rfl) (by kernel_rfl) ?_; (repeat (first | go_big_quiet_skip | (go_big_quiet_want; apply calm_val; (focus (intro w' hb'; obtain ⟨c1, c2, c3, c4⟩ := HM.out w' hb'; first | exact par_quietO rfl rfl c1 rfl | exact rpar_quietO rfl rfl c2 rfl | exact par_quietO rfl rfl c3 rfl | exact par_build0_quiet rfl | (unfold Oper.quietAt; go_simp; first | rfl | (go_at_call 15; exact calm_call hb' (plain_any rq _)) | (go_at_call 56; exact calm_call hb' (same_below (HAt.out _ c4.out)))))); (try simp only [Act.put, List.setIfInBounds_toArray, List.set_cons_zero, List.set_cons_succ]); go_big_quiet_on))); refine wpQuiet_nil ?_; intro w' hb')
      go_wp2_with fail
      go_ret
      exact ⟨rfl, Below.then BU.out hb'⟩
end Go.Proofs.Ytecdfphfgaeodaa

/-
  Layer 28: the chapter's example; on a plate that is none nothing is written.
-/
import Derived.Test.YteppkbjjldnniaaLaw28

namespace Go.Proofs.Yteppkbjjldnniaa
open Go.RowKit
set_option linter.unusedVariables false

/-- A plate whose blocks all have been made since w. -/
def PlIn (w : World) (g : Nat) (s : Ps) (W : World) : Prop := PlTo w (fun x => w.heap.size ≤ x) g s W
theorem PlIn.of_new {w W : World} {g gs : Nat} {s : Ps} (hg : w.heap.size ≤ g) (hgs : w.heap.size ≤ gs) (h : PlAt W g gs (.slice none 0 0) none 0 s) (hb : Below w.heap.size w W) : PlIn w g s W :=
  ⟨gs, _, none, 0, h, fun x hx => .inl (by
    rcases hx with rfl | rfl | hx | ⟨a, ha, _⟩
    · exact hg
    · exact hgs
    · cases hx
    · cases ha), Chg.of_below hb (Nat.le_refl _)⟩
theorem PlIn.below {w W : World} {g : Nat} {s : Ps} (h : PlIn w g s W) : Below w.heap.size w W := by
  obtain ⟨gs, pv, A, c, h1, h2, h3⟩ := h
  exact h3.toBelow (fun k hk => hk) (Nat.le_refl _)
theorem PlIn.stay {w W W' : World} {g : Nat} {s : Ps} (h : PlIn w g s W) (hb : Below W.heap.size W W') : PlIn w g s W' := PlTo.below h hb
theorem PlIn.call {P : Program} {f : FuncId} {args : Array Value} {w W : World} {g : Nat} {s s' : Ps} {e0 : Ending} (h : PlIn w g s W)
    (hc : ∀ gs pv A c, PlAt W g gs pv A c s → Calls P f args W fun e w' => e = e0 ∧ PlTo W (PS g gs pv A) g s' w') : Calls P f args W fun e w' => e = e0 ∧ PlIn w g s' w' := PlTo.call h hc
theorem PlIn.quiet {P : Program} {f : FuncId} {args : Array Value} {w W : World} {g : Nat} {s : Ps} {e0 : Ending} (h : PlIn w g s W)
    (hc : ∀ gs pv A c, PlAt W g gs pv A c s → Calls P f args W fun e w' => e = e0 ∧ W = w') : Calls P f args W fun e w' => e = e0 ∧ W = w' := by
  obtain ⟨gs, pv, A, c, h1, h2, h3⟩ := h
  exact hc gs pv A c h1
theorem PlIn.write {w W0 W : World} {g g2 a : Nat} {s s' : Ps} {d : Sec} {r : Int} (h0 : PlIn w g s W0) (hb : Below W0.heap.size W0 W) (hg2 : W0.heap.size ≤ g2) (hr : row W g2 = some (secC d).toArray) (ha : a < s.sure.length) (hdn : s.down = false) (hfew : s.pend.length < 50000) (he : s.write (a, d) = (r, s')) :
    Calls Try.prog 43 #[.pointer (some ⟨g, 0, none⟩), .int .i64 a, .slice (some ⟨g2, 0, none⟩) 64 64] W fun e w' => e = .returned (.int .i64 r) ∧ PlIn w g s' w' := by
  obtain ⟨gs, pv, A, c, h1, h2, h3⟩ := h0
  have hw := write_any g gs pv A c s a ha d (some ⟨g2, 0, none⟩) 64 hdn hfew W (h1.stay hb) (sec_bys hr) (fun x hx hp => by
    cases hx
    have := h1.blocks _ hp
    have h4 : (⟨g2, 0, none⟩ : Addr).block = g2 := rfl
    omega)
  rw [he] at hw
  refine hw.mono fun e w' hp => ⟨hp.1, PlTo.trans h2 (h3.below_then hb (Nat.le_refl _)) hp.2⟩
set_option maxRecDepth 100000 in
set_option maxHeartbeats 4000000 in
theorem awake28_any (w : World) : Calls Try.prog 38 #[] w fun e w' => e = .returned (.bool true) ∧ Below w.heap.size w w' := by
  obtain ⟨f1, hf1⟩ : ∃ f, f = fullS 1 := ⟨_, rfl⟩
  obtain ⟨f2, hf2⟩ : ∃ f, f = fullS 2 := ⟨_, rfl⟩
  obtain ⟨zz, hzz⟩ : ∃ z, z = zSec := ⟨_, rfl⟩
  have E0 : Hid (newPs 2 = ⟨[zz, zz], [], false, 0, [], false⟩) := Lib.hid (by rw [hzz]; rfl)
  obtain ⟨l1, hl1⟩ : ∃ l, l = IntKind.i64.wrap (0 - 1) := ⟨_, rfl⟩
  obtain ⟨l2, hl2⟩ : ∃ l, l = IntKind.i64.wrap (l1 - 1) := ⟨_, rfl⟩
  have E1 : Hid ((⟨[zz, zz], [], false, 0, [], false⟩ : Ps).write (0, f1) = (0, ⟨[zz, zz], [(0, f1)], false, l1, [], false⟩)) := Lib.hid (by rw [hl1]; rfl)
  have E2 : Hid ((⟨[zz, zz], [(0, f1)], false, l1, [], false⟩ : Ps).write (0, f2) = (0, ⟨[zz, zz], [(0, f1), (0, f2)], false, l2, [], false⟩)) := Lib.hid (by rw [hl2]; rfl)
  have E3 : Hid ((⟨[zz, zz], [(0, f1), (0, f2)], false, l2, [], false⟩ : Ps).arm 0 [true] = ⟨[zz, zz], [(0, f1), (0, f2)], true, 0, [true], false⟩) := Lib.hid rfl
  have E4 : Hid ((⟨[zz, zz], [(0, f1), (0, f2)], true, 0, [true], false⟩ : Ps).sync = (280, ⟨[zz, zz], [(0, f1), (0, f2)], true, 0, [true], true⟩)) := Lib.hid rfl
  have E5 : Hid ((⟨[zz, zz], [(0, f1), (0, f2)], true, 0, [true], true⟩ : Ps).up = ⟨[f1, zz], [], false, 0, [], false⟩) := Lib.hid rfl
  have HF1 := Lib.hid (fun W => full_any 1 W)
  have HF2 := Lib.hid (fun W => full_any 2 W)
  unfold FullPost at HF1 HF2
  rw [← hf1] at HF1
  rw [← hf2] at HF2
  have HNw := Lib.hid (fun W => new_any 2 (by omega) (by omega) W)
  unfold NewPost at HNw
  rw [E0.out] at HNw
  clear hzz hl1 hl2 hf1 hf2 E0
  go_enter Try.func38, Try.ntmps38
  go_wp2_with fail
  refine (HNw.out _).mono ?_
  rintro e w1 ⟨g, gs, rfl, hg, hgs, hP, hb⟩
  have I1 := Lib.hid (PlIn.of_new hg hgs hP hb)
  clear hg hgs hP hb HNw
  go_wp2_with fail
  refine (HF1.out _).mono ?_
  rintro e w2 ⟨g2, rfl, hg2, hr2, hb2⟩
  have C2 := Lib.hid (I1.out.write hb2 hg2 hr2 (a := 0) (by simp) rfl (by simp) E1.out)
  clear hg2 hr2 hb2 I1
  go_wp2_with fail
  refine (C2.out).mono ?_
  rintro e w3 ⟨rfl, hI⟩
  have I3 := Lib.hid hI
  clear hI C2
  go_wp2_with fail
  refine (HF2.out _).mono ?_
  rintro e w4 ⟨g4, rfl, hg4, hr4, hb4⟩
  have C4 := Lib.hid (I3.out.write hb4 hg4 hr4 (a := 0) (by simp) rfl (by simp) E2.out)
  clear hg4 hr4 hb4 I3
  go_wp2_with fail
  refine (C4.out).mono ?_
  rintro e w5 ⟨rfl, hI⟩
  have I5 := Lib.hid (hI.stay (show Below w5.heap.size w5 (w5.alloc (.cells #[.bool true] 4)) from (by (repeat (first | exact Below.refl _ _ | assumption | (refine Below.allocT ?_ _) | refine Below.drew ?_ | refine below_drewN ?_ _ | (refine Below.then ?_ (by assumption)) | (refine Below.setRow ?_ ?_ _; rotate_left; (focus (first | exact Nat.lt_succ_self _ | ((repeat rw [World.size_alloc]); omega) | (simp; done) | (simp; omega) | omega))) | (refine Below.setCell ?_ ?_ _; rotate_left; (focus (first | exact Nat.lt_succ_self _ | ((repeat rw [World.size_alloc]); omega) | (simp; done) | (simp; omega) | omega))) | (refine Below.then' ?_ (by assumption) ?_; rotate_left; (focus (first | exact Nat.lt_succ_self _ | ((repeat rw [World.size_alloc]); omega) | (simp; done) | (simp; omega) | omega))) | fail)); (first | done | fail))))
  have r5 : row (w5.alloc (.cells #[.bool true] 4)) w5.heap.size = some #[.bool true] := row_at _ _ _ _ rfl
  have hs5 : Hid (SliceOf 1 boolK (w5.alloc (.cells #[.bool true] 4)) (some ⟨w5.heap.size, 0, none⟩) [true]) := Lib.hid fun _ => ⟨w5.heap.size, 0, rfl, row_lt r5, fun i x hi j v hv => by
    have h1 : i = 0 := by have := (List.getElem?_eq_some_iff.1 hi).1; simp at this; exact this
    subst h1
    have h2 : x = true := by simpa using hi.symm
    subst h2
    have h3 : j = 0 := by have := (List.getElem?_eq_some_iff.1 hv).1; simp [boolK] at this; exact this
    subst h3
    rw [row_cell r5]
    simpa [boolK] using hv⟩
  clear hI C4 r5
  go_wp2_with fail
  generalize w5.alloc (.cells #[.bool true] 4) = w6 at *
  refine (I5.out.call (s' := ⟨[zz, zz], [(0, f1), (0, f2)], true, 0, [true], false⟩) fun gs pv A c h => by
    have := arm_any g gs pv A c _ 0 (by unfold i64ok; omega) _ 1 1 [true] rfl (by omega) w6 h hs5.out
    rw [E3.out] at this
    exact this).mono ?_
  rintro e w7 ⟨rfl, hI⟩
  have I7 := Lib.hid hI
  clear hI I5 hs5 E3
  go_wp2_with fail
  refine (I7.out.call (s' := ⟨[zz, zz], [(0, f1), (0, f2)], true, 0, [true], true⟩) fun gs pv A c h => by
    have := sync_any g gs pv A c _ w7 h
    rw [E4.out] at this
    exact this).mono ?_
  rintro e w8 ⟨rfl, hI⟩
  have I8 := Lib.hid hI
  clear hI I7 E4
  go_wp2_with fail
  refine (I8.out.quiet fun gs pv A c h => down_any g gs pv A c _ w8 h).mono ?_
  rintro e w9 ⟨rfl, rfl⟩
  go_wp2_with fail
  refine (I8.out.call (s' := ⟨[f1, zz], [], false, 0, [], false⟩) fun gs pv A c h => by
    have := up_any g gs pv A c _ w8 h
    rw [E5.out] at this
    exact this).mono ?_
  rintro e wa ⟨rfl, hI⟩
  have Ia := Lib.hid hI
  clear hI I8 E5
  obtain ⟨gs, pv, A, c, h1, h2, h3⟩ := Ia.out
  have HRd := Lib.hid (read_any g gs pv A c _ 0 f1 rfl rfl wa h1)
  unfold ReadPost8 at HRd
  clear h1 h2 h3
  go_wp2_with fail
  refine (HRd.out).mono ?_
  rintro e wb ⟨B, cB, rfl, hO, _, hb⟩
  have Ib := Lib.hid (Ia.out.stay hb)
  have Yb := Lib.hid hO
  clear hO hb HRd Ia
  go_wp2_with fail
  refine (HF1.out _).mono ?_
  rintro e wc ⟨gc, rfl, hgc, hrc, hb⟩
  have Ic := Lib.hid (Ib.out.stay hb)
  have Yc := Lib.hid (Yb.out.stay hb)
  have Zc := Lib.hid (sec_bys hrc)
  clear hgc hrc hb Ib Yb
  go_wp2_with fail
  have hyc : Bys wc B f1.1 := by
    obtain ⟨A', c', e, hb, _⟩ := Yc.out.form
    rw [Value.slice.injEq] at e
    rw [e.1]
    exact hb
  refine (same5_any B (some ⟨gc, 0, none⟩) f1.1 f1.1 64 cB 64 64 f1.2 f1.2 (by omega) (by omega) _ hyc Zc.out).mono ?_
  rintro e wd ⟨rfl, hb⟩
  have hself : sameL f1.1 f1.1 = true := by simp [sameL]
  rw [hself]
  have Id := Lib.hid (Ic.out.stay hb)
  clear hb hself hyc Ic Yc Zc
  go_wp2_with fail
  refine (Id.out.quiet fun gs pv A c h => pending_any g gs pv A c _ wd h).mono ?_
  rintro e we ⟨rfl, rfl⟩
  go_wp2_with fail
  go_ret
  exact ⟨rfl, Id.out.below⟩
set_option maxRecDepth 100000 in
set_option maxHeartbeats 8000000 in
theorem plateNone_any (o : Op28) (w : World) (ho : o.Ok w) : Calls Try.prog 9 #[.agg o.cells] w fun e w' => e = .returned (.bool true) ∧ Below w.heap.size w w' := by
  have r0 : row (w.alloc (.cells o.cells 73)) w.heap.size = some o.cells := row_at _ _ _ _ rfl
  have hB0 : Below w.heap.size w (w.alloc (.cells o.cells 73)) := (by (repeat (first | exact Below.refl _ _ | assumption | (refine Below.allocT ?_ _) | refine Below.drew ?_ | refine below_drewN ?_ _ | (refine Below.then ?_ (by assumption)) | (refine Below.setRow ?_ ?_ _; rotate_left; (focus (first | exact Nat.lt_succ_self _ | ((repeat rw [World.size_alloc]); omega) | (simp; done) | (simp; omega) | omega))) | (refine Below.setCell ?_ ?_ _; rotate_left; (focus (first | exact Nat.lt_succ_self _ | ((repeat rw [World.size_alloc]); omega) | (simp; done) | (simp; omega) | omega))) | (refine Below.then' ?_ (by assumption) ?_; rotate_left; (focus (first | exact Nat.lt_succ_self _ | ((repeat rw [World.size_alloc]); omega) | (simp; done) | (simp; omega) | omega))) | fail)); (first | done | fail))
  have HFew := Lib.hid (fun W b (h : row W b = some o.cells) => few28_any (some ⟨b, 0, none⟩) 1 1 [o] 1 rfl (by omega) (fun x hx => by rw [List.mem_singleton] at hx; rw [hx]; exact ho.len) W (fun _ => ⟨b, 0, rfl, row_lt h, fun i x hi j v hv => by
    have h1 : i = 0 := by have := (List.getElem?_eq_some_iff.1 hi).1; simp at this; exact this
    subst h1
    have h2 : x = o := by simpa using hi.symm
    subst h2
    rw [row_cell h]
    simpa using hv⟩))
  have HV : Hid (fewP [o] 1 = decide (o.keep.length ≤ 100)) := Lib.hid (by unfold fewP; simp)
  rw [HV.out] at HFew
  have HD := Lib.hid (fun W => data28_any o W)
  unfold SlicePost at HD
  go_enter Try.func9, Try.ntmps9
  go_upto_region 1 with fail
  generalize w.alloc (.cells o.cells 73) = w0 at *
  go_wp2_with fail
  refine (awake28_any _).mono ?_
  rintro e w1 ⟨rfl, hb⟩
  have r1 := (row_below hb (row_lt r0)).trans r0
  have hB1 := Below.then hB0 hb
  clear r0 hB0 hb
  have k0 : w1.cell? ⟨w.heap.size, 0, none⟩ = some (.int .i64 o.kind) := row_cell r1 0
  have k1 : w1.cell? ⟨w.heap.size, 1, none⟩ = some (.int .i64 o.i) := row_cell r1 1
  have k2 : w1.cell? ⟨w.heap.size, 2, none⟩ = some (.int .u8 o.b) := row_cell r1 2
  have k3 : w1.cell? ⟨w.heap.size, 3, none⟩ = some (.bool o.short) := row_cell r1 3
  have k4 : w1.cell? ⟨w.heap.size, 4, none⟩ = some (.slice o.A o.keep.length o.c) := row_cell r1 4
  have r2 : row (w1.alloc (.cells o.cells 73)) w.heap.size = some o.cells := (row_past _ _ _ (row_lt r1)).trans r1
  have q2 : row (w1.alloc (.cells o.cells 73)) w1.heap.size = some o.cells := row_at _ _ _ _ rfl
  have B2 := Lib.hid (Below.allocT hB1 (.cells o.cells 73))
  clear r1 hB1
  go_wp2_with fail
  refine (HFew.out _ w1.heap.size q2).mono ?_
  rintro e w3 ⟨rfl, hb⟩
  have r3 := (row_below hb (row_lt r2)).trans r2
  have B3 := Lib.hid (Below.then B2.out hb)
  clear r2 q2 B2 hb HFew HV k0 k1 k2 k3 k4
  by_cases hk : o.keep.length ≤ 100
  rotate_left
  · rw [decide_eq_false hk]
    go_wp2_with fail
    go_ret
    exact ⟨rfl, B3.out⟩
  · rw [decide_eq_true hk]
    clear hk
    have r5 : row ((w3.alloc (.cells zPl 81)).alloc (.cells #[.pointer none, .pointer (some ⟨w3.heap.size, 0, none⟩)] 66)) w.heap.size = some o.cells := (row_past _ _ _ (by rw [World.size_alloc]; have := row_lt r3; omega)).trans ((row_past _ _ _ (row_lt r3)).trans r3)
    have z5 : row ((w3.alloc (.cells zPl 81)).alloc (.cells #[.pointer none, .pointer (some ⟨w3.heap.size, 0, none⟩)] 66)) w3.heap.size = some zPl := (row_past _ _ _ (by rw [World.size_alloc]; omega)).trans (row_at _ _ _ _ rfl)
    have p5 : row ((w3.alloc (.cells zPl 81)).alloc (.cells #[.pointer none, .pointer (some ⟨w3.heap.size, 0, none⟩)] 66)) (w3.heap.size + 1) = some #[.pointer none, .pointer (some ⟨w3.heap.size, 0, none⟩)] := row_at _ _ _ _ (by rw [World.size_alloc])
    have B5 := Lib.hid (Below.allocT (Below.allocT B3.out (.cells zPl 81)) (.cells #[.pointer none, .pointer (some ⟨w3.heap.size, 0, none⟩)] 66))
    clear r3 B3
    go_wp2_with (refine wpList_build_to zPl rfl 81 _ rfl (by kernel_rfl) ?_)
    generalize (w3.alloc (.cells zPl 81)).alloc (.cells #[.pointer none, .pointer (some ⟨w3.heap.size, 0, none⟩)] 66) = w5 at *
    generalize w3.heap.size = gz at *
    go_loopw [19] (fun i wr => ∃ j : Nat, i = .int .i64 j ∧ j ≤ 2 ∧ Hid (row wr w.heap.size = some o.cells ∧ row wr gz = some zPl ∧ row wr (gz + 1) = some #[.pointer none, .pointer (some ⟨gz, 0, none⟩)] ∧ Below w.heap.size w wr)) (fun i _ => 2 - (intOf i).toNat)
    case atStart => exact ⟨0, rfl, by omega, Lib.hid ⟨r5, z5, p5, B5.out⟩⟩
    case round =>
      obtain ⟨j, rfl, hj, hH⟩ := hrel
      clear r5 z5 p5 B5
      by_cases hlt : j < 2
      · obtain ⟨v, hvj, hno⟩ : ∃ v, (#[Value.pointer none, .pointer (some ⟨gz, 0, none⟩)] : Array Value)[j]? = some v ∧ NoPl wr v := by
          match j, hlt with
          | 0, _ => exact ⟨_, rfl, .inl rfl⟩
          | 1, _ => exact ⟨_, rfl, .inr ⟨gz, rfl, hH.out.2.1⟩⟩
          | k + 2, h => omega
        have k5 := (row_cell hH.out.2.2.1 j).trans hvj
        have k0 : wr.cell? ⟨w.heap.size, 0, none⟩ = some (.int .i64 o.kind) := row_cell hH.out.1 0
        have k1 : wr.cell? ⟨w.heap.size, 1, none⟩ = some (.int .i64 o.i) := row_cell hH.out.1 1
        have k2 : wr.cell? ⟨w.heap.size, 2, none⟩ = some (.int .u8 o.b) := row_cell hH.out.1 2
        have k3 : wr.cell? ⟨w.heap.size, 3, none⟩ = some (.bool o.short) := row_cell hH.out.1 3
        have k4 : wr.cell? ⟨w.heap.size, 4, none⟩ = some (.slice o.A o.keep.length o.c) := row_cell hH.out.1 4
        have HNo := Lib.hid hno
        have z1 : (0 : Int) ≤ (j : Int) := by omega
        have z2 : (j : Int) < 2 := by omega
        clear hvj hno
        go_wp2_with fail
        refine (read_no v o.i wr HNo.out).mono ?_
        rintro e wa ⟨rfl, rfl⟩
        go_wp2_with fail
        refine (arm_no v o.i _ wr HNo.out).mono ?_
        rintro e wa ⟨rfl, rfl⟩
        go_wp2_with fail
        refine (up_no v wr HNo.out).mono ?_
        rintro e wa ⟨rfl, rfl⟩
        go_wp2_with fail
        have HM : Hid (∀ w', Below wr.heap.size wr w' → w'.cell? ⟨w.heap.size, 0, none⟩ = some (.int .i64 o.kind) ∧ w'.cell? ⟨w.heap.size, 1, none⟩ = some (.int .i64 o.i) ∧ w'.cell? ⟨w.heap.size, 2, none⟩ = some (.int .u8 o.b) ∧ w'.cell? ⟨w.heap.size, 3, none⟩ = some (.bool o.short) ∧ w'.cell? ⟨w.heap.size, 4, none⟩ = some (.slice o.A o.keep.length o.c)) := Lib.hid fun w' h => by
          have hr := (row_below h (row_lt hH.out.1)).trans hH.out.1
          exact ⟨row_cell hr 0, row_cell hr 1, row_cell hr 2, row_cell hr 3, row_cell hr 4⟩
        have HM2 : Hid (∀ w', Below wr.heap.size wr w' → Hid (row w' w.heap.size = some o.cells ∧ row w' gz = some zPl ∧ row w' (gz + 1) = some #[.pointer none, .pointer (some ⟨gz, 0, none⟩)] ∧ Below w.heap.size w w')) := Lib.hid fun w' h => Lib.hid ⟨(row_below h (row_lt hH.out.1)).trans hH.out.1, (row_below h (row_lt hH.out.2.1)).trans hH.out.2.1, (row_below h (row_lt hH.out.2.2.1)).trans hH.out.2.2.1, Below.then hH.out.2.2.2 h⟩
        clear k0 k1 k2 k3 k4 k5 hH
        go_region_held3 (fun w' => w'.cell? ⟨w.heap.size, 0, none⟩ = some (.int .i64 o.kind) ∧ w'.cell? ⟨w.heap.size, 1, none⟩ = some (.int .i64 o.i) ∧ w'.cell? ⟨w.heap.size, 2, none⟩ = some (.int .u8 o.b) ∧ w'.cell? ⟨w.heap.size, 3, none⟩ = some (.bool o.short) ∧ w'.cell? ⟨w.heap.size, 4, none⟩ = some (.slice o.A o.keep.length o.c)) (exact HM.out _ (by (repeat (first | exact Below.refl _ _ | assumption | (refine Below.allocT ?_ _) | refine Below.drew ?_ | refine below_drewN ?_ _ | (refine Below.then ?_ (by assumption)) | (refine Below.setRow ?_ ?_ _; rotate_left; (focus (first | exact Nat.lt_succ_self _ | ((repeat rw [World.size_alloc]); omega) | (simp; done) | (simp; omega) | omega))) | (refine Below.setCell ?_ ?_ _; rotate_left; (focus (first | exact Nat.lt_succ_self _ | ((repeat rw [World.size_alloc]); omega) | (simp; done) | (simp; omega) | omega))) | (refine Below.then' ?_ (by assumption) ?_; rotate_left; (focus (first | exact Nat.lt_succ_self _ | ((repeat rw [World.size_alloc]); omega) | (simp; done) | (simp; omega) | omega))) | fail)); (first | done | fail))) (first | (go_at_call 48; refine (HD.out _).mono ?_; rintro e wa ⟨Aa, na, ca, rfl, hba⟩) | (go_at_call 43; refine (write_no v o.i _ _ (HNo.out.below (by (repeat (first | exact Below.refl _ _ | assumption | (refine Below.allocT ?_ _) | refine Below.drew ?_ | refine below_drewN ?_ _ | (refine Below.then ?_ (by assumption)) | (refine Below.setRow ?_ ?_ _; rotate_left; (focus (first | exact Nat.lt_succ_self _ | ((repeat rw [World.size_alloc]); omega) | (simp; done) | (simp; omega) | omega))) | (refine Below.setCell ?_ ?_ _; rotate_left; (focus (first | exact Nat.lt_succ_self _ | ((repeat rw [World.size_alloc]); omega) | (simp; done) | (simp; omega) | omega))) | (refine Below.then' ?_ (by assumption) ?_; rotate_left; (focus (first | exact Nat.lt_succ_self _ | ((repeat rw [World.size_alloc]); omega) | (simp; done) | (simp; omega) | omega))) | fail)); (first | done | fail)))).mono ?_; rintro e wa2 ⟨rfl, rfl⟩) | (go_at_call 45; refine (sync_no v _ (HNo.out.below (by (repeat (first | exact Below.refl _ _ | assumption | (refine Below.allocT ?_ _) | refine Below.drew ?_ | refine below_drewN ?_ _ | (refine Below.then ?_ (by assumption)) | (refine Below.setRow ?_ ?_ _; rotate_left; (focus (first | exact Nat.lt_succ_self _ | ((repeat rw [World.size_alloc]); omega) | (simp; done) | (simp; omega) | omega))) | (refine Below.setCell ?_ ?_ _; rotate_left; (focus (first | exact Nat.lt_succ_self _ | ((repeat rw [World.size_alloc]); omega) | (simp; done) | (simp; omega) | omega))) | (refine Below.then' ?_ (by assumption) ?_; rotate_left; (focus (first | exact Nat.lt_succ_self _ | ((repeat rw [World.size_alloc]); omega) | (simp; done) | (simp; omega) | omega))) | fail)); (first | done | fail)))).mono ?_; rintro e wa2 ⟨rfl, rfl⟩) | (go_at_call 49; refine (len_no v _ (HNo.out.below (by (repeat (first | exact Below.refl _ _ | assumption | (refine Below.allocT ?_ _) | refine Below.drew ?_ | refine below_drewN ?_ _ | (refine Below.then ?_ (by assumption)) | (refine Below.setRow ?_ ?_ _; rotate_left; (focus (first | exact Nat.lt_succ_self _ | ((repeat rw [World.size_alloc]); omega) | (simp; done) | (simp; omega) | omega))) | (refine Below.setCell ?_ ?_ _; rotate_left; (focus (first | exact Nat.lt_succ_self _ | ((repeat rw [World.size_alloc]); omega) | (simp; done) | (simp; omega) | omega))) | (refine Below.then' ?_ (by assumption) ?_; rotate_left; (focus (first | exact Nat.lt_succ_self _ | ((repeat rw [World.size_alloc]); omega) | (simp; done) | (simp; omega) | omega))) | fail)); (first | done | fail)))).mono ?_; rintro e wa2 ⟨rfl, rfl⟩) | (go_at_call 50; refine (pending_no v _ (HNo.out.below (by (repeat (first | exact Below.refl _ _ | assumption | (refine Below.allocT ?_ _) | refine Below.drew ?_ | refine below_drewN ?_ _ | (refine Below.then ?_ (by assumption)) | (refine Below.setRow ?_ ?_ _; rotate_left; (focus (first | exact Nat.lt_succ_self _ | ((repeat rw [World.size_alloc]); omega) | (simp; done) | (simp; omega) | omega))) | (refine Below.setCell ?_ ?_ _; rotate_left; (focus (first | exact Nat.lt_succ_self _ | ((repeat rw [World.size_alloc]); omega) | (simp; done) | (simp; omega) | omega))) | (refine Below.then' ?_ (by assumption) ?_; rotate_left; (focus (first | exact Nat.lt_succ_self _ | ((repeat rw [World.size_alloc]); omega) | (simp; done) | (simp; omega) | omega))) | fail)); (first | done | fail)))).mono ?_; rintro e wa2 ⟨rfl, rfl⟩) | (go_at_call 42; refine (down_no v _ (HNo.out.below (by (repeat (first | exact Below.refl _ _ | assumption | (refine Below.allocT ?_ _) | refine Below.drew ?_ | refine below_drewN ?_ _ | (refine Below.then ?_ (by assumption)) | (refine Below.setRow ?_ ?_ _; rotate_left; (focus (first | exact Nat.lt_succ_self _ | ((repeat rw [World.size_alloc]); omega) | (simp; done) | (simp; omega) | omega))) | (refine Below.setCell ?_ ?_ _; rotate_left; (focus (first | exact Nat.lt_succ_self _ | ((repeat rw [World.size_alloc]); omega) | (simp; done) | (simp; omega) | omega))) | (refine Below.then' ?_ (by assumption) ?_; rotate_left; (focus (first | exact Nat.lt_succ_self _ | ((repeat rw [World.size_alloc]); omega) | (simp; done) | (simp; omega) | omega))) | fail)); (first | done | fail)))).mono ?_; rintro e wa2 ⟨rfl, rfl⟩))
        go_wp2_with fail
        exact ⟨⟨j + 1, by go_num, by omega, HM2.out _ (by (repeat (first | exact Below.refl _ _ | assumption | (refine Below.allocT ?_ _) | refine Below.drew ?_ | refine below_drewN ?_ _ | (refine Below.then ?_ (by assumption)) | (refine Below.setRow ?_ ?_ _; rotate_left; (focus (first | exact Nat.lt_succ_self _ | ((repeat rw [World.size_alloc]); omega) | (simp; done) | (simp; omega) | omega))) | (refine Below.setCell ?_ ?_ _; rotate_left; (focus (first | exact Nat.lt_succ_self _ | ((repeat rw [World.size_alloc]); omega) | (simp; done) | (simp; omega) | omega))) | (refine Below.then' ?_ (by assumption) ?_; rotate_left; (focus (first | exact Nat.lt_succ_self _ | ((repeat rw [World.size_alloc]); omega) | (simp; done) | (simp; omega) | omega))) | fail)); (first | done | fail))⟩, by simp [intOf]; omega⟩
      · obtain rfl : j = 2 := by omega
        go_wp2_with fail
        go_ret
        exact ⟨rfl, hH.out.2.2.2⟩
end Go.Proofs.Yteppkbjjldnniaa

/-
  Layer 29: wherever the power goes, a vault has what it had behind the last answer, or what the one under way would have made.
-/
import Derived.Test.YtkkncijbedfdfaaLaw29k
namespace Go.Proofs.Ytkkncijbedfdfaa
open Go.RowKit
set_option linter.unusedVariables false

theorem hv_built1 (A : Option Addr) (n c : Nat) : Try.prog.built 58 [(0, .slice A n c)] = some #[.slice A n c, .slice none 0 0] := by kernel_rfl
theorem opR_chg {W W' : World} {N : Nat → Prop} {gv g : Nat} {s : Ps} {room : Nat} {v v' : Vt} {r : Int} (h : OpR W N gv g s room v v' r W') : Chg N W W' := by
  rcases h with ⟨_, _, _, _, _, h⟩ | ⟨_, _, _, _, _, _, h⟩ | ⟨_, _, _, h⟩
  all_goals exact h.chg
/-- What an append or a compaction leaves, and what is then to be had. -/
theorem op_all {w1 wr w7 : World} {gS gM gO gN j : Nat} {N : Nat → Prop} {uS uM : Hv} {o : Op29} {gv g : Nat} {s : Ps} {room : Nat} {v v' : Vt} (hS : Sf w1 wr gS gM j N uS uM) (h7 : Below wr.heap.size wr w7) (hO : row w7 gO = some o.cells) (hN : row w7 gN = some uS.cells) (eO : gO = wr.heap.size) (eN : gN = wr.heap.size + 1) (nx : Hv) (W W' : World) (r : Int) (hnx : HvIn W (fun k => Nb N gS gM k ∨ k = gN) nx) (hb : Below w7.heap.size w7 W) (hR : OpR W N gv g s room v v' r W') :
    ((row W' gS = some uS.cells ∧ W'.cell? ⟨gO, 2, none⟩ = some (.slice o.A o.b.length o.c) ∧ (row W' gN).map (·.size) = some 2) ∧ (row (W'.setRow gN nx.cells) gS = some uS.cells ∧ (W'.setRow gN nx.cells).cell? ⟨gO, 2, none⟩ = some (.slice o.A o.b.length o.c) ∧ (row (W'.setRow gN nx.cells) gN).map (·.size) = some 2)) ∧ row (W'.setRow gN nx.cells) gN = some nx.cells ∧
    ∃ N', Sf w1 (W'.setRow gN nx.cells) gS gM (j + 1) N' uS uM ∧ HvIn (W'.setRow gN nx.cells) (Nb N' gS gM) nx ∧ ((r = 0 ∧ ∃ s', VaSt (W'.setRow gN nx.cells) N' gv g s' room v' ∧ Good s' room v') ∨ (r = 280 ∧ ∃ s', BrSt (W'.setRow gN nx.cells) N' gv g s' room ∧ s'.down = true ∧ (Good s'.up room v ∨ Good s'.up room v')) ∨ (r ≠ 0 ∧ r ≠ 280 ∧ VaSt (W'.setRow gN nx.cells) N' gv g s room v)) := by
  have hc := opR_chg hR
  have lS := row_lt hS.rS
  have nO : ¬ N gO := fun e => by have := hS.top gO e; omega
  have nN : ¬ N gN := fun e => by have := hS.top gN e; omega
  have S7 := (row_below h7 lS).trans hS.rS
  have S8 := (row_below hb (row_lt S7)).trans S7
  have O8 := (row_below hb (row_lt hO)).trans hO
  have N8 := (row_below hb (row_lt hN)).trans hN
  have S9 := (hc.row (row_lt S8) hS.nS).trans S8
  have O9 := (hc.row (row_lt O8) nO).trans O8
  have N9 := (hc.row (row_lt N8) nN).trans N8
  refine ⟨⟨⟨S9, row_cell O9 2, by rw [N9]; rfl⟩, (row_setRow_far (by omega)).trans S9, row_cell ((row_setRow_far (by omega)).trans O9) 2, by rw [row_setRow N9]; rfl⟩, row_setRow N9, op_end hS (Below.then h7 hb) (by omega) N8 hnx hR (chg_setRow1 W' gN nx.cells)⟩
theorem start_sf {w w1 w4 W : World} {A : Option Addr} {c : Nat} {xs : List Nat} {gv g : Nat} {s : Ps} {room : Nat} {v : Vt} (hx : Bys w A xs) (hl : xs.length ≤ 3000) (hb1 : Below w.heap.size w w1) (hV : VaIn w1 gv g s room v w4) (hb : Below w4.heap.size w4 W) (rS : row W w4.heap.size = some (Hv.cells ⟨A, c, xs, none, 0, []⟩)) (rM : row W (w4.heap.size + 1) = some (Hv.cells ⟨A, c, xs, none, 0, []⟩)) :
    ∃ N, VaSt W N gv g s room v ∧ Sf w1 W w4.heap.size (w4.heap.size + 1) 0 N ⟨A, c, xs, none, 0, []⟩ ⟨A, c, xs, none, 0, []⟩ := by
  have hbl := hV.below
  obtain ⟨gs, pv, A', c', x, k1, k2, k3⟩ := hV
  have hlow : ∀ k, FS g gs pv A' gv x k → w1.heap.size ≤ k := fun k hk => (k2 k hk).elim id id
  have htop : ∀ k, FS g gs pv A' gv x k → k < w4.heap.size := fun k hk => by
    rcases hk with hk | hk
    · exact k1.pl.blocks k hk
    · exact k1.vt.lt k (.inl hk)
  have hu : HvIn W (Nb (FS g gs pv A' gv x) w4.heap.size (w4.heap.size + 1)) ⟨A, c, xs, none, 0, []⟩ := by
    have hB : Below w.heap.size w W := Below.then hb1 (Below.then hbl hb)
    refine ⟨⟨hx.below hB (Nat.le_refl _), ⟨SliceOf.nil _ _, fun r hr => (List.not_mem_nil hr).elim, fun r hr => (List.not_mem_nil hr).elim⟩⟩, fun k hk hn => ?_⟩
    rcases hk with ⟨hp, a, ha, rfl⟩ | ⟨hp, _⟩ | ⟨r, hr, _⟩
    · have h1 := hx.lt hp a ha
      have h2 := hb1.size
      have h3 := hbl.size
      rcases hn with hn | hn | hn
      · have := hlow _ hn; omega
      · omega
      · omega
    · exact absurd hp (Nat.lt_irrefl _)
    · exact (List.not_mem_nil hr).elim
  refine ⟨FS g gs pv A' gv x, ⟨gs, pv, A', c', x, k1.stay hb, fun k hk => hk⟩, ⟨hlow, fun k hk => Nat.lt_of_lt_of_le (htop k hk) hb.size, Below.then hbl hb, rS, rM, fun e => Nat.lt_irrefl _ (htop _ e), fun e => by have := htop _ e; omega, hu, hu, ⟨hl, Nat.le_refl _, fun r hr => (List.not_mem_nil hr).elim⟩, ⟨hl, Nat.le_refl _, fun r hr => (List.not_mem_nil hr).elim⟩, hbl.size, Nat.le_succ_of_le hbl.size, by omega⟩⟩
set_option maxRecDepth 100000 in
set_option maxHeartbeats 16000000 in
theorem vaultSafe_any (N0 : Int) (A : Option Addr) (c : Nat) (xs : List Nat) (U : Option Addr) (n d : Nat) (os : List Op29) (hn : os.length = n) (hm : n ≤ 9223372036854775807) (w : World) (hx : BysIn w A c xs) (hos : ∀ o ∈ os, o.Ok w) (hU : SliceOf 4 Op29.cells w U os) :
    Calls Try.prog 6 #[.int .i64 N0, .slice A xs.length c, .slice U n d] w fun e w' => e = .returned (.bool true) ∧ Below w.heap.size w w' := by
  have HFew := Lib.hid (fun W (hb : Below w.heap.size w W) => few29_any U n d os 40 hn hm (fun o ho => ⟨(hos o ho).len, Nat.le_trans (hos o ho).b.cap (hos o ho).b.top⟩) W (hU.below hb (Nat.le_refl _)))
  have HX := Lib.hid hx
  have HOs := Lib.hid hos
  have HU := Lib.hid hU
  have HNn := Lib.hid hn
  obtain ⟨n1, hn1⟩ : ∃ k, k = xs.length := ⟨_, rfl⟩
  have HN1 := Lib.hid hn1
  have hcap : n1 ≤ c := by rw [hn1]; exact hx.cap
  rw [← hn1]
  clear hx hos hU hn hn1
  have hBu0 := hv_built1 A n1 c
  go_enter Try.func6, Try.ntmps6
  go_wp2_with fail
  refine (awake29_any _).mono ?_
  rintro e w1 ⟨rfl, hb⟩
  have B1 := Lib.hid hb
  clear hb
  by_cases hall : 1 ≤ N0 ∧ N0 ≤ 200 ∧ n1 ≤ 3000
  rotate_left
  · have hq : N0 < 1 ∨ (¬ N0 < 1 ∧ 200 < N0) ∨ (¬ N0 < 1 ∧ ¬ 200 < N0 ∧ (3000 : Int) < (n1 : Int)) := by omega
    clear hall
    rcases hq with h1 | ⟨h1, h2⟩ | ⟨h1, h2, h3⟩
    all_goals
      go_wp2_with fail
      go_ret
      exact ⟨rfl, B1.out⟩
  obtain ⟨g1, g2, g3⟩ := hall
  obtain ⟨M, rfl⟩ := Int.eq_ofNat_of_zero_le (show 0 ≤ N0 by omega)
  have h1 : ¬ (M : Int) < 1 := by omega
  have h2 : ¬ (200 : Int) < (M : Int) := by omega
  have h3 : ¬ (3000 : Int) < (n1 : Int) := by omega
  go_wp2_with fail
  refine (HFew.out _ B1.out).mono ?_
  rintro e w2 ⟨rfl, hb⟩
  have B2 := Lib.hid (Below.then B1.out hb)
  clear hb HFew
  by_cases hfew : fewV os 40 = true
  rotate_left
  · have hf : fewV os 40 = false := by simpa using hfew
    rw [hf]
    clear hfew hf
    go_wp2_with fail
    go_ret
    exact ⟨rfl, B2.out⟩
  rw [hfew]
  have HFw : Hid ((∀ o ∈ os, o.keep.length ≤ 100 ∧ o.b.length ≤ 3000) ∧ (os.length : Int) ≤ 40) := Lib.hid (of_decide_eq_true hfew)
  have hn40 : n ≤ 40 := by have := HFw.out.2; rw [HNn.out] at this; omega
  clear hfew
  obtain ⟨s0, hs0⟩ : ∃ s, s = newPs M := ⟨_, rfl⟩
  have HNw := Lib.hid (fun W => new_any M (by omega) (by omega) W)
  unfold NewPost at HNw
  rw [← hs0] at HNw
  have HS0 := Lib.hid hs0
  clear hs0
  go_wp2_with fail
  refine (HNw.out _).mono ?_
  rintro e w3 ⟨g, gs, rfl, hg, hgs, hP, hb⟩
  have I3 := Lib.hid (PlIn.of_new hg hgs hP hb)
  have H3 := Lib.hid (And.intro hP (Below.then B2.out hb))
  clear hg hgs hP hb HNw
  by_cases hM1 : M = 1
  · have hone := open_one g gs _ _ _ s0 (by rw [HS0.out]; rfl) (by rw [HS0.out]; rfl) (by rw [HS0.out, hM1]; rfl) A n1 c w3 H3.out.1
    have HOn := Lib.hid hone
    unfold NoRoom at HOn
    clear hone hM1
    go_wp2_with fail
    refine (HOn.out).mono ?_
    rintro e w4 ⟨rfl, hb⟩
    have B4 := Lib.hid (Below.then H3.out.2 hb)
    clear hb HOn
    go_wp2_with fail
    go_ret
    exact ⟨rfl, B4.out⟩
  obtain ⟨room, hroom⟩ : ∃ r, r = (M - 2) / 2 := ⟨_, rfl⟩
  have hbare : Bare s0 room := by rw [HS0.out, hroom]; exact bare_new M (by omega)
  have ha0 : s0.armed = false := by rw [HS0.out]; rfl
  have hr100 : room ≤ 100 := by omega
  obtain ⟨p4, hp4, hop⟩ := I3.out.first (Below.refl _ _) hbare (by omega) n1 c A xs HN1.out.symm (by omega) hcap HX.out.top (HX.out.bys.below H3.out.2 (Nat.le_refl _)) (fun hp a ha => .inr (by
    have h5 := HX.out.bys.lt (by rw [← HN1.out]; exact hp) a ha
    have h6 := B2.out.size
    omega))
  have HOp := Lib.hid hop
  by_cases hfit : secs n1 ≤ room
  rotate_left
  · clear hp4 hop hbare ha0 hroom hM1
    go_wp2_with fail
    refine (HOp.out).mono ?_
    rintro e w4 ⟨_, hq⟩
    obtain ⟨rfl, hb⟩ := hq (by omega)
    have B4 := Lib.hid (Below.then H3.out.2 hb)
    clear hq hb HOp
    go_wp2_with fail
    go_ret
    exact ⟨rfl, B4.out⟩
  have hc4 := (bare_first hbare (by omega) xs (by rw [← HN1.out]; exact hfit)).calm hbare.down ha0
  rw [← hp4] at hc4
  have HC4 := Lib.hid hc4
  clear hp4 hop hbare ha0 hroom hM1 hc4
  go_wp2_with fail
  refine (HOp.out).mono ?_
  rintro e w4 ⟨hq, _⟩
  have hz := (hq hfit).2.1
  obtain ⟨gv0, rfl, hV⟩ := hz HC4.out.1
  have HV := Lib.hid hV
  have B4 := Lib.hid (Below.then B2.out hV.below)
  clear hq hz hV HOp hfit I3 H3 HS0
  go_upto_region 13 with fail
  refine of_worldV (fun W => row W w4.heap.size = some (Hv.cells ⟨A, c, xs, none, 0, []⟩) ∧ row W (w4.heap.size + 1) = some (Hv.cells ⟨A, c, xs, none, 0, []⟩) ∧ Below w4.heap.size w4 W) ⟨(show row _ w4.heap.size = some #[.slice A n1 c, .slice none 0 0] from (by (repeat (first | assumption | (refine row_at _ _ _ _ ?_; first | rfl | (simp only [World.size_alloc]; done) | (simp only [World.size_alloc]; omega)) | (refine (row_past _ _ _ ?_).trans ?_; (focus (first | exact Nat.lt_succ_self _ | ((repeat rw [World.size_alloc]); omega) | (simp; done) | (simp; omega) | omega))) | rw [row_drewN] | rw [row_drew])); (first | done | fail))).trans (by rw [HN1.out]; rfl), (show row _ (w4.heap.size + 1) = some #[.slice A n1 c, .slice none 0 0] from (by (repeat (first | assumption | (refine row_at _ _ _ _ ?_; first | rfl | (simp only [World.size_alloc]; done) | (simp only [World.size_alloc]; omega)) | (refine (row_past _ _ _ ?_).trans ?_; (focus (first | exact Nat.lt_succ_self _ | ((repeat rw [World.size_alloc]); omega) | (simp; done) | (simp; omega) | omega))) | rw [row_drewN] | rw [row_drew])); (first | done | fail))).trans (by rw [HN1.out]; rfl), (by (repeat (first | exact Below.refl _ _ | assumption | (refine Below.allocT ?_ _) | refine Below.drew ?_ | refine below_drewN ?_ _ | (refine Below.then ?_ (by assumption)) | (refine Below.setRow ?_ ?_ _; rotate_left; (focus (first | exact Nat.lt_succ_self _ | ((repeat rw [World.size_alloc]); omega) | (simp; done) | (simp; omega) | omega))) | (refine Below.setCell ?_ ?_ _; rotate_left; (focus (first | exact Nat.lt_succ_self _ | ((repeat rw [World.size_alloc]); omega) | (simp; done) | (simp; omega) | omega))) | (refine Below.then' ?_ (by assumption) ?_; rotate_left; (focus (first | exact Nat.lt_succ_self _ | ((repeat rw [World.size_alloc]); omega) | (simp; done) | (simp; omega) | omega))) | fail)); (first | done | fail))⟩ ?_
  rintro w5 ⟨rS, rM, hb5⟩
  obtain ⟨N0', hVa, hSf⟩ := start_sf HX.out.bys (by rw [← HN1.out]; exact g3) B2.out HV.out hb5 rS rM
  have HI := Lib.hid (And.intro hSf (show LoopSt w5 N0' gv0 g p4.2 room 0 ⟨A, c, xs, none, 0, []⟩ ⟨A, c, xs, none, 0, []⟩ from .inl ⟨_, hVa, HC4.out.2.1, ⟨rfl, rfl⟩, ⟨rfl, rfl⟩, Nat.le_refl _⟩))
  generalize hgS : w4.heap.size = gS at *
  obtain ⟨gM, hgM⟩ : ∃ k, k = gS + 1 := ⟨_, rfl⟩
  rw [← hgM] at HI ⊢
  clear hVa hSf rS rM hb5 hgS HV HC4 hBu0
  generalize p4.2 = s4 at *
  clear p4 h1 h2 h3 g1 g2 g3 hcap hr100 hgM
  go_wp2_with fail
  go_loopw [9, 66] (fun vp i wr => ∃ (j gv : Nat) (N : Nat → Prop) (s : Ps) (uS uM : Hv), i = .int .i64 j ∧ vp = .pointer (some ⟨gv, 0, none⟩) ∧ j ≤ n ∧ Hid (Sf w2 wr gS gM j N uS uM ∧ LoopSt wr N gv g s room j uS uM)) (fun _ i _ => n - (intOf i).toNat)
  case atStart => exact ⟨0, gv0, N0', s4, _, _, rfl, rfl, by omega, HI.out⟩
  case round =>
    obtain ⟨j, gv, N, s, uS, uM, rfl, rfl, hj, hH⟩ := hrel
    clear HI
    by_cases hlt : j < n
    rotate_left
    · obtain rfl : j = n := by omega
      go_wp2_with fail
      go_ret
      exact ⟨rfl, Below.then B2.out hH.out.1.bel⟩
    obtain ⟨o, hoj⟩ : ∃ o, os[j]? = some o := ⟨_, List.getElem?_eq_getElem (by rw [HNn.out]; exact hlt)⟩
    have hmem := List.mem_of_getElem? hoj
    have HO := Lib.hid (And.intro (HOs.out o hmem) (HFw.out.1 o hmem))
    obtain ⟨ub, uo, hUe, hbb, hcell⟩ := HU.out (by rw [HNn.out]; omega)
    have hbw := Below.then B2.out hH.out.1.bel
    obtain ⟨k0, k1, k2, k3⟩ := op29_cells (range_below (hcell j _ hoj) hbw hbb)
    rw [hUe]
    have rS := hH.out.1.rS
    have z1 : (0 : Int) ≤ (j : Int) := by omega
    have z2 : (j : Int) < (n : Int) := by omega
    clear hoj hmem hcell hbw
    go_upto_region 16 with fail
    refine of_worldV (fun W => row W wr.heap.size = some o.cells ∧ row W gS = some uS.cells ∧ Below wr.heap.size wr W ∧ W.heap.size = wr.heap.size + 1) ⟨(row_at _ _ _ _ rfl).trans rfl, (row_past _ _ _ (row_lt rS)).trans rS, (by (repeat (first | exact Below.refl _ _ | assumption | (refine Below.allocT ?_ _) | refine Below.drew ?_ | refine below_drewN ?_ _ | (refine Below.then ?_ (by assumption)) | (refine Below.setRow ?_ ?_ _; rotate_left; (focus (first | exact Nat.lt_succ_self _ | ((repeat rw [World.size_alloc]); omega) | (simp; done) | (simp; omega) | omega))) | (refine Below.setCell ?_ ?_ _; rotate_left; (focus (first | exact Nat.lt_succ_self _ | ((repeat rw [World.size_alloc]); omega) | (simp; done) | (simp; omega) | omega))) | (refine Below.then' ?_ (by assumption) ?_; rotate_left; (focus (first | exact Nat.lt_succ_self _ | ((repeat rw [World.size_alloc]); omega) | (simp; done) | (simp; omega) | omega))) | fail)); (first | done | fail)), World.size_alloc _ _⟩ ?_
    rintro w6 ⟨r6, rS6, hb6, hz6⟩
    have HZ6 := Lib.hid hz6
    have H6 := Lib.hid (And.intro r6 hb6)
    clear k0 k1 k2 k3 rS r6 hb6 hz6
    go_upto_region 18 with fail
    refine of_worldV (fun W => row W wr.heap.size = some o.cells ∧ row W w6.heap.size = some uS.cells ∧ Below wr.heap.size wr W) ⟨(row_past _ _ _ (row_lt H6.out.1)).trans H6.out.1, row_at _ _ _ _ rfl, Below.then H6.out.2 ((Below.refl _ w6).alloc (Nat.le_refl _) _)⟩ ?_
    rintro w7 ⟨r7, q7, hb7⟩
    have H7 := Lib.hid (And.intro r7 q7)
    have HB7 := Lib.hid hb7
    obtain ⟨gN, hgN⟩ : ∃ k, k = w6.heap.size := ⟨_, rfl⟩
    have HGN : Hid (gN = wr.heap.size + 1) := Lib.hid (by rw [hgN]; exact HZ6.out)
    rw [← hgN] at q7 H7 ⊢
    clear rS6 H6 HZ6 hgN
    obtain ⟨gO, hgO⟩ : ∃ k, k = wr.heap.size := ⟨_, rfl⟩
    have HGO := Lib.hid hgO
    rw [← hgO] at r7 H7 ⊢
    have k0 : w7.cell? ⟨gO, 0, none⟩ = some (.int .i64 o.kind) := row_cell r7 0
    clear hgO r7 q7 hb7
    -- the round, by kinds
    have HbW7 := Lib.hid (Below.then (Below.then B2.out hH.out.1.bel) HB7.out)
    have HS7 := Lib.hid (hH.out.1.stay HB7.out)
    have HKp := Lib.hid (HO.out.1.keep.below HbW7.out (Nat.le_refl _))
    have HBy := Lib.hid (HO.out.1.b.bys.below HbW7.out (Nat.le_refl _))
    by_cases hk3 : o.kind = 3
    · have e3 : (o.kind == 3) = true := beq_iff_eq.2 hk3
      have k1 : w7.cell? ⟨gO, 1, none⟩ = some (.int .i64 o.i) := row_cell H7.out.1 1
      have k3 : w7.cell? ⟨gO, 3, none⟩ = some (.slice o.K o.keep.length o.d) := row_cell H7.out.1 3
      clear hk3
      rcases hH.out.2 with ⟨v, hv, hG, hr1, hr2, hgn⟩ | ⟨hbr, hdn, v, hG, hr, hgn⟩
      · have HAr := Lib.hid ((hv.stay HB7.out).plate (s' := s.arm o.i o.keep) (fun gs pv A c hp => arm_any g gs pv A c s o.i HO.out.1.i o.K o.keep.length o.d o.keep rfl (by have := HO.out.2.1; omega) w7 hp HKp.out))
        have HG := Lib.hid (And.intro (hG.arm o.i o.keep) (And.intro hr1 (And.intro hr2 hgn)))
        clear hv hG hr1 hr2 hgn
        go_wp2_with fail
        refine (HAr.out).mono ?_
        rintro e w8 ⟨rfl, N', hv8, hch⟩
        have HF := Lib.hid (And.intro hv8 hch)
        clear hv8 hch HAr k0 k1 k3
        go_wp2_with fail
        exact ⟨⟨j + 1, gv, N', s.arm o.i o.keep, uS, uM, by go_num, rfl, by omega, Lib.hid ⟨(HS7.out.step HF.out.2).more (Nat.le_succ _), .inl ⟨v, HF.out.1, HG.out.1, HG.out.2.1, HG.out.2.2.1, Nat.le_succ_of_le HG.out.2.2.2⟩⟩⟩, by simp [intOf]; omega⟩
      · have HAr := Lib.hid ((hbr.stay HB7.out).plate (s' := s.arm o.i o.keep) (fun gs pv A c hp => arm_any g gs pv A c s o.i HO.out.1.i o.K o.keep.length o.d o.keep rfl (by have := HO.out.2.1; omega) w7 hp HKp.out))
        rw [arm_down hdn] at HAr
        have HG := Lib.hid (And.intro hdn (And.intro hG (And.intro hr hgn)))
        clear hbr hdn hG hr hgn
        go_wp2_with fail
        refine (HAr.out).mono ?_
        rintro e w8 ⟨rfl, N', hv8, hch⟩
        have HF := Lib.hid (And.intro hv8 hch)
        clear hv8 hch HAr k0 k1 k3
        go_wp2_with fail
        exact ⟨⟨j + 1, gv, N', s, uS, uM, by go_num, rfl, by omega, Lib.hid ⟨(HS7.out.step HF.out.2).more (Nat.le_succ _), .inr ⟨HF.out.1, HG.out.1, v, HG.out.2.1, HG.out.2.2.1, Nat.le_succ_of_le HG.out.2.2.2⟩⟩⟩, by simp [intOf]; omega⟩
    · by_cases hk4 : o.kind = 4
      · have e3 : (o.kind == 3) = false := beq_eq_false_iff_ne.2 hk3
        have e4 : (o.kind == 4) = true := beq_iff_eq.2 hk4
        clear hk3 hk4
        obtain ⟨v, hpl, hG, hrel, hgn⟩ : ∃ v, PlSt w7 N g s ∧ Good s.up room v ∧ (Rel v uS ∨ Rel v uM) ∧ v.hd.gen ≤ j + 1 := by
          rcases hH.out.2 with ⟨v, hv, hG, hr1, hr2, hgn⟩ | ⟨hbr, hdn, v, hG, hr, hgn⟩
          · exact ⟨v, hv.pl.stay HB7.out, hG.up, .inl hr1, hgn⟩
          · exact ⟨v, hbr.pl.stay HB7.out, hG, hr, hgn⟩
        have HUp := Lib.hid (hpl.plate (s' := s.up) (fun gs pv A c hp => up_any g gs pv A c s w7 hp))
        have HG := Lib.hid (And.intro hG hgn)
        have HOr := Lib.hid hrel
        obtain ⟨u0, hu0, hb0⟩ : ∃ u0, Rel v u0 ∧ Small u0 j := by
          rcases hrel with hr | hr
          · exact ⟨uS, hr, hH.out.1.bS⟩
          · exact ⟨uM, hr, hH.out.1.bM⟩
        have HR0 := Lib.hid (And.intro hu0 hb0)
        clear hpl hG hgn hrel hu0 hb0
        go_wp2_with fail
        refine (HUp.out).mono ?_
        rintro e w8 ⟨rfl, N8, hpl8, hch8⟩
        have hcvt := Lib.run_convert_bytes_const (P := Try.prog) w8 22 5 #[.int .u8 111, .int .u8 116, .int .u8 104, .int .u8 101, .int .u8 114] 5 5 u8s_under u8_under
        have hb8 : Below w8.heap.size w8 (w8.alloc (.cells #[.int .u8 111, .int .u8 116, .int .u8 104, .int .u8 101, .int .u8 114] 5 (5, 6))) := (Below.refl _ w8).alloc (Nat.le_refl _) _
        have HS8 := Lib.hid ((HS7.out.step hch8).stay hb8)
        have HRo := Lib.hid ((hpl8.stay hb8).reopen HG.out.1 (by have h5 := (HR0.out.1.few HR0.out.2).2.1; omega) (some ⟨w8.heap.size, 0, none⟩) 5 5)
        clear hpl8 hch8 hb8 HUp k0
        go_wp2_with fail
        refine (HRo.out).mono ?_
        rintro e w9 ⟨gw, rfl, N9, hv9, hch9⟩
        have HS9 := Lib.hid (HS8.out.step hch9)
        have HV9 := Lib.hid hv9
        clear hv9 hch9 HRo HS8 hcvt
        have rS := HS9.out.rS
        have HHas := Lib.hid (HV9.out.has HR0.out.1 HR0.out.2 HS9.out.bS (by omega) HS9.out.hS.at_)
        by_cases hs : Rel v uS
        · rw [hasB_yes hs] at HHas
          clear hs
          go_wp2_with fail
          refine (HHas.out).mono ?_
          rintro e wa ⟨rfl, hb⟩
          have HSx := Lib.hid (HS9.out.stay hb)
          have HVx := Lib.hid (HV9.out.stay hb)
          clear hb HHas HS9 HV9 rS
          have HHas := Lib.hid (HVx.out.has HR0.out.1 HR0.out.2 HSx.out.bM (by omega) HSx.out.hM.at_)
          have rM := HSx.out.rM
          by_cases hm : Rel v uM
          · rw [hasB_yes hm] at HHas
            have HRl := Lib.hid hm
            clear hm
            go_wp2_with fail
            refine (HHas.out).mono ?_
            rintro e wb ⟨rfl, hb⟩
            have HSz := Lib.hid (HSx.out.stay hb)
            have HVz := Lib.hid (HVx.out.stay hb)
            clear hb HHas HSx HVx rM
            have rS := HSz.out.rS
            have rM := HSz.out.rM
            have hx0 : (row wb gS).map (·.size) = some 2 := by rw [rS]; rfl
            clear rS
            go_upto_region 27 with fail
            have HSy := Lib.hid (HSz.out.setS HSz.out.hM HSz.out.bM)
            have HVy := Lib.hid (HVz.out.box (chg_setRow1 wb gS uM.cells) HSz.out.nS HSz.out.rS)
            clear rM hx0 HSz HVz
            generalize wb.setRow gS uM.cells = wc at *
            go_upto_region 27 with fail
            have rS := HSy.out.rS
            have rM := HSy.out.rM
            have hx2 : Hid ((row wc gS = some uM.cells ∧ (row wc gM).map (·.size) = some 2) ∧ (row (wc.setRow gM uM.cells) gS = some uM.cells ∧ (row (wc.setRow gM uM.cells) gM).map (·.size) = some 2)) := Lib.hid ⟨⟨rS, by rw [rM]; rfl⟩, (row_setRow_far (Ne.symm HSy.out.ne)).trans rS, by rw [row_setRow rM]; rfl⟩
            have hx0 : (row wc gM).map (·.size) = some 2 := by rw [rM]; rfl
            clear rS rM
            go_region_held3 (fun W => row W gS = some uM.cells ∧ (row W gM).map (·.size) = some 2) (first | exact hx2.out.1 | exact hx2.out.2) (fail)
            have HEnd := Lib.hid (And.intro (HSy.out.setM HSy.out.hS HSy.out.bS) (HVy.out.box (chg_setRow1 wc gM uM.cells) HSy.out.nM HSy.out.rM))
            clear hx0 hx2 HSy HVy
            go_wp2_with fail
            exact ⟨⟨j + 1, gw, N9, s.up, uM, uM, by go_num, rfl, by omega, Lib.hid ⟨(HEnd.out.1.stay (Below.drew (Below.refl _ _))).more (Nat.le_succ _), .inl ⟨v, HEnd.out.2.stay (Below.drew (Below.refl _ _)), HG.out.1, HRl.out, HRl.out, Nat.le_succ_of_le HG.out.2⟩⟩⟩, by simp [intOf]; omega⟩

          · rw [hasB_no hm] at HHas
            have HRl := Lib.hid (HOr.out.resolve_right hm)
            clear hm
            go_wp2_with fail
            refine (HHas.out).mono ?_
            rintro e wc ⟨rfl, hb⟩
            have HSy := Lib.hid (HSx.out.stay hb)
            have HVy := Lib.hid (HVx.out.stay hb)
            clear hb HHas HSx HVx rM
            go_upto_region 27 with fail
            have rS := HSy.out.rS
            have rM := HSy.out.rM
            have hx2 : Hid ((row wc gS = some uS.cells ∧ (row wc gM).map (·.size) = some 2) ∧ (row (wc.setRow gM uS.cells) gS = some uS.cells ∧ (row (wc.setRow gM uS.cells) gM).map (·.size) = some 2)) := Lib.hid ⟨⟨rS, by rw [rM]; rfl⟩, (row_setRow_far (Ne.symm HSy.out.ne)).trans rS, by rw [row_setRow rM]; rfl⟩
            have hx0 : (row wc gM).map (·.size) = some 2 := by rw [rM]; rfl
            clear rS rM
            go_region_held3 (fun W => row W gS = some uS.cells ∧ (row W gM).map (·.size) = some 2) (first | exact hx2.out.1 | exact hx2.out.2) (fail)
            have HEnd := Lib.hid (And.intro (HSy.out.setM HSy.out.hS HSy.out.bS) (HVy.out.box (chg_setRow1 wc gM uS.cells) HSy.out.nM HSy.out.rM))
            clear hx0 hx2 HSy HVy
            go_wp2_with fail
            exact ⟨⟨j + 1, gw, N9, s.up, uS, uS, by go_num, rfl, by omega, Lib.hid ⟨(HEnd.out.1.stay (Below.drew (Below.refl _ _))).more (Nat.le_succ _), .inl ⟨v, HEnd.out.2.stay (Below.drew (Below.refl _ _)), HG.out.1, HRl.out, HRl.out, Nat.le_succ_of_le HG.out.2⟩⟩⟩, by simp [intOf]; omega⟩

        · rw [hasB_no hs] at HHas
          have HMm := Lib.hid (HOr.out.resolve_left hs)
          clear hs
          go_wp2_with fail
          refine (HHas.out).mono ?_
          rintro e wd ⟨rfl, hb⟩
          have HSd := Lib.hid (HS9.out.stay hb)
          have HVd := Lib.hid (HV9.out.stay hb)
          clear hb HHas HS9 HV9 rS
          have rM := HSd.out.rM
          have HHas := Lib.hid (HVd.out.has HR0.out.1 HR0.out.2 HSd.out.bM (by omega) HSd.out.hM.at_)
          rw [hasB_yes HMm.out] at HHas
          go_wp2_with fail
          refine (HHas.out).mono ?_
          rintro e wa ⟨rfl, hb⟩
          have HSx := Lib.hid (HSd.out.stay hb)
          have HVx := Lib.hid (HVd.out.stay hb)
          clear hb HHas HSd HVd rM
          have HHas := Lib.hid (HVx.out.has HR0.out.1 HR0.out.2 HSx.out.bM (by omega) HSx.out.hM.at_)
          have rM := HSx.out.rM
          by_cases hm : Rel v uM
          · rw [hasB_yes hm] at HHas
            have HRl := Lib.hid hm
            clear hm
            go_wp2_with fail
            refine (HHas.out).mono ?_
            rintro e wb ⟨rfl, hb⟩
            have HSz := Lib.hid (HSx.out.stay hb)
            have HVz := Lib.hid (HVx.out.stay hb)
            clear hb HHas HSx HVx rM
            have rS := HSz.out.rS
            have rM := HSz.out.rM
            have hx0 : (row wb gS).map (·.size) = some 2 := by rw [rS]; rfl
            clear rS
            go_upto_region 27 with fail
            have HSy := Lib.hid (HSz.out.setS HSz.out.hM HSz.out.bM)
            have HVy := Lib.hid (HVz.out.box (chg_setRow1 wb gS uM.cells) HSz.out.nS HSz.out.rS)
            clear rM hx0 HSz HVz
            generalize wb.setRow gS uM.cells = wc at *
            go_upto_region 27 with fail
            have rS := HSy.out.rS
            have rM := HSy.out.rM
            have hx2 : Hid ((row wc gS = some uM.cells ∧ (row wc gM).map (·.size) = some 2) ∧ (row (wc.setRow gM uM.cells) gS = some uM.cells ∧ (row (wc.setRow gM uM.cells) gM).map (·.size) = some 2)) := Lib.hid ⟨⟨rS, by rw [rM]; rfl⟩, (row_setRow_far (Ne.symm HSy.out.ne)).trans rS, by rw [row_setRow rM]; rfl⟩
            have hx0 : (row wc gM).map (·.size) = some 2 := by rw [rM]; rfl
            clear rS rM
            go_region_held3 (fun W => row W gS = some uM.cells ∧ (row W gM).map (·.size) = some 2) (first | exact hx2.out.1 | exact hx2.out.2) (fail)
            have HEnd := Lib.hid (And.intro (HSy.out.setM HSy.out.hS HSy.out.bS) (HVy.out.box (chg_setRow1 wc gM uM.cells) HSy.out.nM HSy.out.rM))
            clear hx0 hx2 HSy HVy
            go_wp2_with fail
            exact ⟨⟨j + 1, gw, N9, s.up, uM, uM, by go_num, rfl, by omega, Lib.hid ⟨(HEnd.out.1.stay (Below.drew (Below.refl _ _))).more (Nat.le_succ _), .inl ⟨v, HEnd.out.2.stay (Below.drew (Below.refl _ _)), HG.out.1, HRl.out, HRl.out, Nat.le_succ_of_le HG.out.2⟩⟩⟩, by simp [intOf]; omega⟩

          · rw [hasB_no hm] at HHas
            have HRl := Lib.hid (HOr.out.resolve_right hm)
            clear hm
            go_wp2_with fail
            refine (HHas.out).mono ?_
            rintro e wc ⟨rfl, hb⟩
            have HSy := Lib.hid (HSx.out.stay hb)
            have HVy := Lib.hid (HVx.out.stay hb)
            clear hb HHas HSx HVx rM
            go_upto_region 27 with fail
            have rS := HSy.out.rS
            have rM := HSy.out.rM
            have hx2 : Hid ((row wc gS = some uS.cells ∧ (row wc gM).map (·.size) = some 2) ∧ (row (wc.setRow gM uS.cells) gS = some uS.cells ∧ (row (wc.setRow gM uS.cells) gM).map (·.size) = some 2)) := Lib.hid ⟨⟨rS, by rw [rM]; rfl⟩, (row_setRow_far (Ne.symm HSy.out.ne)).trans rS, by rw [row_setRow rM]; rfl⟩
            have hx0 : (row wc gM).map (·.size) = some 2 := by rw [rM]; rfl
            clear rS rM
            go_region_held3 (fun W => row W gS = some uS.cells ∧ (row W gM).map (·.size) = some 2) (first | exact hx2.out.1 | exact hx2.out.2) (fail)
            have HEnd := Lib.hid (And.intro (HSy.out.setM HSy.out.hS HSy.out.bS) (HVy.out.box (chg_setRow1 wc gM uS.cells) HSy.out.nM HSy.out.rM))
            clear hx0 hx2 HSy HVy
            go_wp2_with fail
            exact ⟨⟨j + 1, gw, N9, s.up, uS, uS, by go_num, rfl, by omega, Lib.hid ⟨(HEnd.out.1.stay (Below.drew (Below.refl _ _))).more (Nat.le_succ _), .inl ⟨v, HEnd.out.2.stay (Below.drew (Below.refl _ _)), HG.out.1, HRl.out, HRl.out, Nat.le_succ_of_le HG.out.2⟩⟩⟩, by simp [intOf]; omega⟩
      · have e3 : (o.kind == 3) = false := beq_eq_false_iff_ne.2 hk3
        have e4 : (o.kind == 4) = false := beq_eq_false_iff_ne.2 hk4
        clear hk3 hk4
        rcases hH.out.2 with ⟨v, hv, hG, hr1, hr2, hgn⟩ | ⟨hbr, hdn, v, hG, hr, hgn⟩
        rotate_left
        · have HBr := Lib.hid (hbr.stay HB7.out)
          have HDn := Lib.hid (HBr.out.pl.quiet (fun gs pv A c hp => down_any g gs pv A c s w7 hp))
          rw [hdn] at HDn
          have HG := Lib.hid (And.intro hdn (And.intro hG (And.intro hr hgn)))
          have hb8 : Below w7.heap.size w7 (w7.alloc (.cells #[.int .u8 1] 5)) := (Below.refl _ w7).alloc (Nat.le_refl _) _
          have HB8 := Lib.hid (HBr.out.stay hb8)
          have HS8 := Lib.hid (HS7.out.stay hb8)
          obtain ⟨gs, pv, A', c', h0, s7, s8, s9, q1, q2, q3, q4⟩ := HB8.out
          have HAb := Lib.hid (append_broken gv g (some ⟨w7.heap.size, 0, none⟩) 1 1 _ (row_cell q2 5) (row_cell q2 10))
          clear hbr hdn hG hr hgn q1 q2 q3 q4 hb8
          go_wp2_with fail
          refine (HDn.out).mono ?_
          rintro e w8 ⟨rfl, rfl⟩
          go_wp2_with fail
          refine (HAb.out).mono ?_
          rintro e w8 ⟨rfl, rfl⟩
          clear HAb HDn k0
          go_wp2_with fail
          exact ⟨⟨j + 1, gv, N, s, uS, uM, by go_num, rfl, by omega, Lib.hid ⟨HS8.out.more (Nat.le_succ _), .inr ⟨HB8.out, HG.out.1, v, HG.out.2.1, HG.out.2.2.1, Nat.le_succ_of_le HG.out.2.2.2⟩⟩⟩, by simp [intOf]; omega⟩
        have HV7 := Lib.hid (hv.stay HB7.out)
        have HG := Lib.hid (And.intro hG (And.intro hr1 (And.intro hr2 hgn)))
        have HDn := Lib.hid (HV7.out.pl.quiet (fun gs pv A c hp => down_any g gs pv A c s w7 hp))
        rw [hG.down] at HDn
        clear hv hG hr1 hr2 hgn
        have HNe : Hid (gS ≠ gN ∧ gM ≠ gN) := Lib.hid ⟨by have h5 := row_lt hH.out.1.rS; have h6 := HGN.out; omega, by have h5 := row_lt hH.out.1.rM; have h6 := HGN.out; omega⟩
        by_cases hk1 : o.kind = 1
        rotate_left
        · have e1 : (o.kind == 1) = false := beq_eq_false_iff_ne.2 hk1
          clear hk1
          by_cases hk2 : o.kind = 2
          rotate_left
          · have e2 : (o.kind == 2) = false := beq_eq_false_iff_ne.2 hk2
            clear hk2
            go_wp2_with fail
            refine (HDn.out).mono ?_
            rintro e w8 ⟨rfl, rfl⟩
            go_wp2_with fail
            exact ⟨⟨j + 1, gv, N, s, uS, uM, by go_num, rfl, by omega, Lib.hid ⟨HS7.out.more (Nat.le_succ _), .inl ⟨v, HV7.out, HG.out.1, HG.out.2.1, HG.out.2.2.1, Nat.le_succ_of_le HG.out.2.2.2⟩⟩⟩, by simp [intOf]; omega⟩
          · have e2 : (o.kind == 2) = true := beq_iff_eq.2 hk2
            clear hk2

            have HOff : Hid (0 < o.b.length → ∀ a, o.A = some a → ¬ (Nb N gS gM a.block ∨ a.block = gN)) := Lib.hid (fun hp a ha hx => by
              have h1 := HO.out.1.b.bys.lt hp a ha
              have h2 := B2.out.size
              have h3 := hH.out.1.bel.size
              have h4 := HGN.out
              have h5 := hH.out.1.lS
              have h6 := hH.out.1.lM
              rcases hx with (hx | hx | hx) | hx
              · have := hH.out.1.low _ hx; omega
              all_goals omega)
            have HM : Hid (∀ W, Below w7.heap.size w7 W → row W gS = some uS.cells ∧ W.cell? ⟨gO, 2, none⟩ = some (.slice o.A o.b.length o.c) ∧ (row W gN).map (·.size) = some 2) := Lib.hid (fun W hb => ⟨(row_below hb (row_lt HS7.out.rS)).trans HS7.out.rS, row_cell ((row_below hb (row_lt H7.out.1)).trans H7.out.1) 2, by rw [(row_below hb (row_lt H7.out.2)).trans H7.out.2]; rfl⟩)

            obtain ⟨nx, hnx⟩ : ∃ u : Hv, u = ⟨o.A, o.c, o.b, none, 0, []⟩ := ⟨_, rfl⟩
            have HNc : Hid (nx.cells = #[.slice o.A o.b.length o.c, .slice none 0 0]) := Lib.hid (by rw [hnx]; rfl)
            have HRl : Hid (Rel (cmpV (v.hd.gen + 1) (1 - v.hd.area) o.b) nx) := Lib.hid (by rw [hnx]; exact ⟨rfl, rfl⟩)
            have HSm : Hid (Small nx (j + 1)) := Lib.hid (by rw [hnx]; exact ⟨HO.out.2.2, Nat.zero_le _, fun r hr => (List.not_mem_nil hr).elim⟩)
            have HGe : Hid ((cmpV (v.hd.gen + 1) (1 - v.hd.area) o.b).hd.gen ≤ j + 1 + 1) := Lib.hid (Nat.succ_le_succ HG.out.2.2.2)
            have HNx7 : Hid (HvIn w7 (fun k => Nb N gS gM k ∨ k = gN) nx) := Lib.hid (by
              rw [hnx]
              refine ⟨⟨HBy.out, ⟨SliceOf.nil _ _, fun r hr => (List.not_mem_nil hr).elim, fun r hr => (List.not_mem_nil hr).elim⟩⟩, fun k hk hn => ?_⟩
              rcases hk with ⟨hp, a, ha, rfl⟩ | ⟨hp, _⟩ | ⟨r, hr, _⟩
              · exact HOff.out hp a ha hn
              · exact absurd hp (Nat.lt_irrefl _)
              · exact (List.not_mem_nil hr).elim)
            have HCl := Lib.hid (fun W (hb : Below w7.heap.size w7 W) => (HV7.out.stay hb).compact (fun k hk => Nat.lt_of_lt_of_le (HS7.out.top k hk) hb.size) HG.out.1 (by have := HG.out.2.2.2; omega) o.b.length o.c o.A o.b rfl (by have := HO.out.2.2; omega) HO.out.1.b.cap HO.out.1.b.top (HBy.out.stay hb) (fun hp a ha hx => HOff.out hp a ha (.inl (.inl hx))))
            clear hnx
            go_wp2_with fail
            refine (HDn.out).mono ?_
            rintro e w8 ⟨rfl, rfl⟩
            go_upto_region 34 with fail
            go_region_held3 (fun W => row W gS = some uS.cells ∧ W.cell? ⟨gO, 2, none⟩ = some (.slice o.A o.b.length o.c) ∧ (row W gN).map (·.size) = some 2) (first | exact hE.1.1 | exact hE.1.2 | exact HM.out _ (by (repeat (first | exact Below.refl _ _ | assumption | (refine Below.allocT ?_ _) | refine Below.drew ?_ | refine below_drewN ?_ _ | (refine Below.then ?_ (by assumption)) | (refine Below.setRow ?_ ?_ _; rotate_left; (focus (first | exact Nat.lt_succ_self _ | ((repeat rw [World.size_alloc]); omega) | (simp; done) | (simp; omega) | omega))) | (refine Below.setCell ?_ ?_ _; rotate_left; (focus (first | exact Nat.lt_succ_self _ | ((repeat rw [World.size_alloc]); omega) | (simp; done) | (simp; omega) | omega))) | (refine Below.then' ?_ (by assumption) ?_; rotate_left; (focus (first | exact Nat.lt_succ_self _ | ((repeat rw [World.size_alloc]); omega) | (simp; done) | (simp; omega) | omega))) | fail)); (first | done | fail))) ((go_at_call 11; refine (HCl.out _ (show Below w7.heap.size w7 _ from (by (repeat (first | exact Below.refl _ _ | assumption | (refine Below.allocT ?_ _) | refine Below.drew ?_ | refine below_drewN ?_ _ | (refine Below.then ?_ (by assumption)) | (refine Below.setRow ?_ ?_ _; rotate_left; (focus (first | exact Nat.lt_succ_self _ | ((repeat rw [World.size_alloc]); omega) | (simp; done) | (simp; omega) | omega))) | (refine Below.setCell ?_ ?_ _; rotate_left; (focus (first | exact Nat.lt_succ_self _ | ((repeat rw [World.size_alloc]); omega) | (simp; done) | (simp; omega) | omega))) | (refine Below.then' ?_ (by assumption) ?_; rotate_left; (focus (first | exact Nat.lt_succ_self _ | ((repeat rw [World.size_alloc]); omega) | (simp; done) | (simp; omega) | omega))) | fail)); (first | done | fail)))).mono ?_; rintro e w12 ⟨r, rfl, hR⟩; have hE := op_all hH.out.1 HB7.out H7.out.1 H7.out.2 HGO.out HGN.out nx _ _ _ (HNx7.out.quiet (show Below w7.heap.size w7 _ from (by (repeat (first | exact Below.refl _ _ | assumption | (refine Below.allocT ?_ _) | refine Below.drew ?_ | refine below_drewN ?_ _ | (refine Below.then ?_ (by assumption)) | (refine Below.setRow ?_ ?_ _; rotate_left; (focus (first | exact Nat.lt_succ_self _ | ((repeat rw [World.size_alloc]); omega) | (simp; done) | (simp; omega) | omega))) | (refine Below.setCell ?_ ?_ _; rotate_left; (focus (first | exact Nat.lt_succ_self _ | ((repeat rw [World.size_alloc]); omega) | (simp; done) | (simp; omega) | omega))) | (refine Below.then' ?_ (by assumption) ?_; rotate_left; (focus (first | exact Nat.lt_succ_self _ | ((repeat rw [World.size_alloc]); omega) | (simp; done) | (simp; omega) | omega))) | fail)); (first | done | fail)))) (show Below w7.heap.size w7 _ from (by (repeat (first | exact Below.refl _ _ | assumption | (refine Below.allocT ?_ _) | refine Below.drew ?_ | refine below_drewN ?_ _ | (refine Below.then ?_ (by assumption)) | (refine Below.setRow ?_ ?_ _; rotate_left; (focus (first | exact Nat.lt_succ_self _ | ((repeat rw [World.size_alloc]); omega) | (simp; done) | (simp; omega) | omega))) | (refine Below.setCell ?_ ?_ _; rotate_left; (focus (first | exact Nat.lt_succ_self _ | ((repeat rw [World.size_alloc]); omega) | (simp; done) | (simp; omega) | omega))) | (refine Below.then' ?_ (by assumption) ?_; rotate_left; (focus (first | exact Nat.lt_succ_self _ | ((repeat rw [World.size_alloc]); omega) | (simp; done) | (simp; omega) | omega))) | fail)); (first | done | fail))) hR; rw [HNc.out] at hE; clear hR))
            clear HNx7

            have HE := Lib.hid hE
            clear hE
            go_upto_region 35 with fail
            refine of_worldV (fun W => (∃ N', Sf w2 W gS gM (j + 1) N' uS uM ∧ HvIn W (Nb N' gS gM) nx ∧ ((r = 0 ∧ ∃ s', VaSt W N' gv g s' room (cmpV (v.hd.gen + 1) (1 - v.hd.area) o.b) ∧ Good s' room (cmpV (v.hd.gen + 1) (1 - v.hd.area) o.b)) ∨ (r = 280 ∧ ∃ s', BrSt W N' gv g s' room ∧ s'.down = true ∧ (Good s'.up room v ∨ Good s'.up room (cmpV (v.hd.gen + 1) (1 - v.hd.area) o.b))) ∨ (r ≠ 0 ∧ r ≠ 280 ∧ VaSt W N' gv g s room v))) ∧ row W gN = some nx.cells) ⟨HE.out.2.2, by rw [HNc.out]; exact HE.out.2.1⟩ ?_
            rintro w13 ⟨⟨N', hSf, hNx, hcase⟩, rN⟩
            have HSf := Lib.hid hSf
            have HNx := Lib.hid hNx
            clear hSf hNx HE HM HOff HCl

            rcases hcase with ⟨rfl, s', hv13, hG13⟩ | ⟨rfl, s', hb13, hd13, hG13⟩ | ⟨hr0, hr1, hv13⟩
            · have rS := HSf.out.rS
              have rM := HSf.out.rM
              have hx0 : (row w13 gS).map (·.size) = some 2 := by rw [rS]; rfl
              have hx1 : (row w13 gM).map (·.size) = some 2 := by rw [rM]; rfl
              have hx2 : (row (w13.setRow gS nx.cells) gM).map (·.size) = some 2 := by rw [row_setRow_far HSf.out.ne, rM]; rfl
              have hx3 : (row (w13.setRow gM nx.cells) gS).map (·.size) = some 2 := by rw [row_setRow_far (Ne.symm HSf.out.ne), rS]; rfl
              have hgnS : gS ≠ gN := HNe.out.1
              have hgnM : gM ≠ gN := HNe.out.2
              have hneM : gS ≠ gM := HSf.out.ne
              have hneS : gM ≠ gS := Ne.symm HSf.out.ne
              have HK : Hid ((row w13 gN = some nx.cells ∧ (row w13 gS).map (·.size) = some 2 ∧ (row w13 gM).map (·.size) = some 2) ∧ (row (w13.setRow gS nx.cells) gN = some nx.cells ∧ (row (w13.setRow gS nx.cells) gS).map (·.size) = some 2 ∧ (row (w13.setRow gS nx.cells) gM).map (·.size) = some 2) ∧ (row (w13.setRow gM nx.cells) gN = some nx.cells ∧ (row (w13.setRow gM nx.cells) gS).map (·.size) = some 2 ∧ (row (w13.setRow gM nx.cells) gM).map (·.size) = some 2) ∧ (row ((w13.setRow gS nx.cells).setRow gM nx.cells) gN = some nx.cells ∧ (row ((w13.setRow gS nx.cells).setRow gM nx.cells) gS).map (·.size) = some 2 ∧ (row ((w13.setRow gS nx.cells).setRow gM nx.cells) gM).map (·.size) = some 2) ∧ (row ((w13.setRow gM nx.cells).setRow gS nx.cells) gN = some nx.cells ∧ (row ((w13.setRow gM nx.cells).setRow gS nx.cells) gS).map (·.size) = some 2 ∧ (row ((w13.setRow gM nx.cells).setRow gS nx.cells) gM).map (·.size) = some 2)) := Lib.hid (by
                have a1 : row (w13.setRow gS nx.cells) gN = some nx.cells := (row_setRow_far hgnS).trans rN
                have a2 : row (w13.setRow gM nx.cells) gN = some nx.cells := (row_setRow_far hgnM).trans rN
                have b1 := row_setRow (new := nx.cells) rS
                have b2 := row_setRow (new := nx.cells) rM
                have c1 : row (w13.setRow gS nx.cells) gM = some uM.cells := (row_setRow_far HSf.out.ne).trans rM
                have c2 : row (w13.setRow gM nx.cells) gS = some uS.cells := (row_setRow_far (Ne.symm HSf.out.ne)).trans rS
                refine ⟨⟨rN, hx0, hx1⟩, ⟨a1, by rw [b1]; rfl, hx2⟩, ⟨a2, hx3, by rw [b2]; rfl⟩, ⟨(row_setRow_far hgnM).trans a1, ?_, ?_⟩, ⟨(row_setRow_far hgnS).trans a2, ?_, ?_⟩⟩
                · rw [row_setRow_far (Ne.symm HSf.out.ne), b1]; rfl
                · rw [row_setRow c1]; rfl
                · rw [row_setRow c2]; rfl
                · rw [row_setRow_far HSf.out.ne, b2]; rfl)
              have HSM := Lib.hid (HSf.out.setS HNx.out HSm.out)
              have HMS := Lib.hid (HSf.out.setM HNx.out HSm.out)
              have HVSM := Lib.hid ((hv13.box (chg_setRow1 w13 gS nx.cells) HSf.out.nS rS).box (chg_setRow1 (w13.setRow gS nx.cells) gM nx.cells) HSf.out.nM HSM.out.rM)
              have HVMS := Lib.hid ((hv13.box (chg_setRow1 w13 gM nx.cells) HSf.out.nM rM).box (chg_setRow1 (w13.setRow gM nx.cells) gS nx.cells) HSf.out.nS HMS.out.rS)
              have HG13 := Lib.hid hG13
              clear rS rM hv13 hG13
              go_upto_region 37 with fail
              go_region_held3 (fun W => row W gN = some nx.cells ∧ (row W gS).map (·.size) = some 2 ∧ (row W gM).map (·.size) = some 2) (first | exact HK.out.1 | exact HK.out.2.1 | exact HK.out.2.2.1 | exact HK.out.2.2.2.1 | exact HK.out.2.2.2.2) (fail)
              all_goals
                clear hx0 hx1 hx2 hx3 rN
                go_upto_region 40 with fail
                refine of_worldV (fun W => Sf w2 W gS gM (j + 1) N' nx nx ∧ VaSt W N' gv g s' room (cmpV (v.hd.gen + 1) (1 - v.hd.area) o.b)) (by first
                  | exact ⟨(HSM.out.setM HSM.out.hS HSm.out).stay (Below.drew (Below.refl _ _)), HVSM.out.stay (Below.drew (Below.refl _ _))⟩
                  | exact ⟨(HMS.out.setS HMS.out.hM HSm.out).stay (Below.drew (Below.refl _ _)), HVMS.out.stay (Below.drew (Below.refl _ _))⟩
                  | fail) ?_
                rintro w14 ⟨hs14, hv14⟩
                have HS14 := Lib.hid hs14
                have HV14 := Lib.hid hv14
                have rS := hs14.rS
                have HDn := Lib.hid (hv14.pl.quiet (fun gs pv A c hp => down_any g gs pv A c s' w14 hp))
                rw [HG13.out.down] at HDn
                have HHas := Lib.hid (hv14.has HRl.out HSm.out HSm.out (by omega) hs14.hS.at_)
                rw [hasB_yes HRl.out] at HHas
                clear hs14 hv14
                go_wp2_with fail
                refine (HDn.out).mono ?_
                rintro e w15 ⟨rfl, rfl⟩
                go_wp2_with fail
                refine (HHas.out).mono ?_
                rintro e w15 ⟨rfl, hb⟩
                have HFin := Lib.hid (And.intro (HS14.out.stay hb) (HV14.out.stay hb))
                clear hb HHas HDn rS
                go_wp2_with fail
                exact ⟨⟨j + 1, gv, N', s', nx, nx, by go_num, rfl, by omega, Lib.hid ⟨HFin.out.1, .inl ⟨_, HFin.out.2, HG13.out, HRl.out, HRl.out, HGe.out⟩⟩⟩, by simp [intOf]; omega⟩
            · have rM := HSf.out.rM
              have hx1 : (row w13 gM).map (·.size) = some 2 := by rw [rM]; rfl
              have HMS := Lib.hid (HSf.out.setM HNx.out HSm.out)
              have HB14 := Lib.hid (hb13.box (chg_setRow1 w13 gM nx.cells) HSf.out.nM)
              have HG13 := Lib.hid (And.intro hd13 hG13)
              clear hb13 hd13 hG13 rM
              go_upto_region 40 with fail
              generalize w13.setRow gM nx.cells = w14 at *
              have HDn := Lib.hid (HB14.out.pl.quiet (fun gs pv A c hp => down_any g gs pv A c s' w14 hp))
              rw [HG13.out.1] at HDn
              clear hx1 rN
              go_wp2_with fail
              refine (HDn.out).mono ?_
              rintro e w15 ⟨rfl, rfl⟩
              go_wp2_with fail
              exact ⟨⟨j + 1, gv, N', s', uS, nx, by go_num, rfl, by omega, Lib.hid ⟨HMS.out, .inr ⟨HB14.out, HG13.out.1, HG13.out.2.elim (fun h => ⟨v, h, .inl HG.out.2.1, Nat.le_succ_of_le HG.out.2.2.2⟩) (fun h => ⟨_, h, .inr HRl.out, HGe.out⟩)⟩⟩⟩, by simp [intOf]; omega⟩
            · have e0 : (r == 0) = false := beq_eq_false_iff_ne.2 hr0
              have e1 : (r == 280) = false := beq_eq_false_iff_ne.2 hr1
              have HV13 := Lib.hid hv13
              have rS := HSf.out.rS
              have HDn := Lib.hid (hv13.pl.quiet (fun gs pv A c hp => down_any g gs pv A c s w13 hp))
              rw [HG.out.1.down] at HDn
              have HHas := Lib.hid (hv13.has HG.out.2.1 HSf.out.bS HSf.out.bS (by omega) HSf.out.hS.at_)
              rw [hasB_yes HG.out.2.1] at HHas
              clear hv13 rN hr0 hr1
              go_wp2_with fail
              refine (HDn.out).mono ?_
              rintro e w15 ⟨rfl, rfl⟩
              go_wp2_with fail
              refine (HHas.out).mono ?_
              rintro e w15 ⟨rfl, hb⟩
              have HFin := Lib.hid (And.intro (HSf.out.stay hb) (HV13.out.stay hb))
              clear hb HHas HDn rS
              go_wp2_with fail
              exact ⟨⟨j + 1, gv, N', s, uS, uM, by go_num, rfl, by omega, Lib.hid ⟨HFin.out.1, .inl ⟨v, HFin.out.2, HG.out.1, HG.out.2.1, HG.out.2.2.1, Nat.le_succ_of_le HG.out.2.2.2⟩⟩⟩, by simp [intOf]; omega⟩
        · have e1 : (o.kind == 1) = true := beq_iff_eq.2 hk1
          clear hk1

          have HOff : Hid (0 < o.b.length → ∀ a, o.A = some a → ¬ (Nb N gS gM a.block ∨ a.block = gN)) := Lib.hid (fun hp a ha hx => by
            have h1 := HO.out.1.b.bys.lt hp a ha
            have h2 := B2.out.size
            have h3 := hH.out.1.bel.size
            have h4 := HGN.out
            have h5 := hH.out.1.lS
            have h6 := hH.out.1.lM
            rcases hx with (hx | hx | hx) | hx
            · have := hH.out.1.low _ hx; omega
            all_goals omega)
          have HM : Hid (∀ W, Below w7.heap.size w7 W → row W gS = some uS.cells ∧ W.cell? ⟨gO, 2, none⟩ = some (.slice o.A o.b.length o.c) ∧ (row W gN).map (·.size) = some 2) := Lib.hid (fun W hb => ⟨(row_below hb (row_lt HS7.out.rS)).trans HS7.out.rS, row_cell ((row_below hb (row_lt H7.out.1)).trans H7.out.1) 2, by rw [(row_below hb (row_lt H7.out.2)).trans H7.out.2]; rfl⟩)

          have HGe : Hid ((appV v o.b).hd.gen ≤ j + 1 + 1) := Lib.hid (Nat.succ_le_succ HG.out.2.2.2)
          have HWt : Hid (∀ W, Below w7.heap.size w7 W → Calls Try.prog 21 #[.agg uS.cells, .slice o.A o.b.length o.c] W fun e w' => ∃ nx, e = .returned (.agg nx.cells) ∧ Below W.heap.size W w' ∧ HvIn w' (fun k => Nb N gS gM k ∨ k = gN) nx ∧ Rel (appV v o.b) nx ∧ Small nx (j + 1)) := Lib.hid (fun W hb => by
            have hI7 : HvIn w7 (fun k => Nb N gS gM k ∨ k = gN) uS := (hH.out.1.hS.wider (by have := HGN.out; omega)).quiet HB7.out
            have ht7 : ∀ k, (Nb N gS gM k ∨ k = gN) → k < w7.heap.size := fun k hk => by
              rcases hk with (hk | hk | hk) | hk
              · exact HS7.out.top k hk
              · rw [hk]; exact row_lt HS7.out.rS
              · rw [hk]; exact row_lt HS7.out.rM
              · rw [hk]; exact row_lt H7.out.2
            refine (with_any uS (by have := hH.out.1.bS.2.1; omega) o.A o.b.length o.c o.b rfl W (HS7.out.hS.at_.ls.stay hb)).mono ?_
            rintro e w' ⟨An, cn, he, ho, hn, hb'⟩
            refine ⟨uS.more An cn o.A o.c o.b, by rw [he, more_cells], hb', more_in hI7 ht7 (Below.then hb hb') ho (fun k hk => Nat.le_trans hb.size (hn k hk)) (HBy.out.stay (Below.then hb hb')) HOff.out HO.out.2.2, ⟨HG.out.2.1.1, ?_⟩, hH.out.1.bS.1, ?_, fun r hr => ?_⟩
            · rw [more_recs, ← HG.out.2.1.2]; rfl
            · have := hH.out.1.bS.2.1
              unfold Hv.more
              show (uS.rs ++ [_]).length ≤ _
              rw [List.length_append]
              exact Nat.succ_le_succ this
            · have hr' : r ∈ uS.rs ++ [(⟨o.A, o.c, o.b⟩ : Rec)] := hr
              rcases List.mem_append.1 hr' with hr' | hr'
              · exact hH.out.1.bS.2.2 r hr'
              · rw [List.mem_singleton] at hr'; subst hr'; exact HO.out.2.2)
          have HCl := Lib.hid (fun W (hb : Below w7.heap.size w7 W) => (HV7.out.stay hb).append (fun k hk => Nat.lt_of_lt_of_le (HS7.out.top k hk) hb.size) HG.out.1 (by have := (HG.out.2.1.few hH.out.1.bS).2.1; omega) (by have := HG.out.2.2.2; omega) o.b.length o.c o.A o.b rfl (by have := HO.out.2.2; omega) HO.out.1.b.ok (HBy.out.stay hb) (fun hp a ha hx => HOff.out hp a ha (.inl (.inl hx))))
          go_wp2_with fail
          refine (HDn.out).mono ?_
          rintro e w8 ⟨rfl, rfl⟩
          go_upto_region 32 with fail
          go_region_held3 (fun W => row W gS = some uS.cells ∧ W.cell? ⟨gO, 2, none⟩ = some (.slice o.A o.b.length o.c) ∧ (row W gN).map (·.size) = some 2) (first | exact hE.1.1 | exact hE.1.2 | exact HM.out _ (by (repeat (first | exact Below.refl _ _ | assumption | (refine Below.allocT ?_ _) | refine Below.drew ?_ | refine below_drewN ?_ _ | (refine Below.then ?_ (by assumption)) | (refine Below.setRow ?_ ?_ _; rotate_left; (focus (first | exact Nat.lt_succ_self _ | ((repeat rw [World.size_alloc]); omega) | (simp; done) | (simp; omega) | omega))) | (refine Below.setCell ?_ ?_ _; rotate_left; (focus (first | exact Nat.lt_succ_self _ | ((repeat rw [World.size_alloc]); omega) | (simp; done) | (simp; omega) | omega))) | (refine Below.then' ?_ (by assumption) ?_; rotate_left; (focus (first | exact Nat.lt_succ_self _ | ((repeat rw [World.size_alloc]); omega) | (simp; done) | (simp; omega) | omega))) | fail)); (first | done | fail))) (first
            | (go_at_call 21; refine (HWt.out _ (show Below w7.heap.size w7 _ from (by (repeat (first | exact Below.refl _ _ | assumption | (refine Below.allocT ?_ _) | refine Below.drew ?_ | refine below_drewN ?_ _ | (refine Below.then ?_ (by assumption)) | (refine Below.setRow ?_ ?_ _; rotate_left; (focus (first | exact Nat.lt_succ_self _ | ((repeat rw [World.size_alloc]); omega) | (simp; done) | (simp; omega) | omega))) | (refine Below.setCell ?_ ?_ _; rotate_left; (focus (first | exact Nat.lt_succ_self _ | ((repeat rw [World.size_alloc]); omega) | (simp; done) | (simp; omega) | omega))) | (refine Below.then' ?_ (by assumption) ?_; rotate_left; (focus (first | exact Nat.lt_succ_self _ | ((repeat rw [World.size_alloc]); omega) | (simp; done) | (simp; omega) | omega))) | fail)); (first | done | fail)))).mono ?_; rintro e w8 ⟨nx, rfl, hb8, hnx8⟩)
            | (go_at_call 10; refine (HCl.out _ (show Below w7.heap.size w7 _ from (by (repeat (first | exact Below.refl _ _ | assumption | (refine Below.allocT ?_ _) | refine Below.drew ?_ | refine below_drewN ?_ _ | (refine Below.then ?_ (by assumption)) | (refine Below.setRow ?_ ?_ _; rotate_left; (focus (first | exact Nat.lt_succ_self _ | ((repeat rw [World.size_alloc]); omega) | (simp; done) | (simp; omega) | omega))) | (refine Below.setCell ?_ ?_ _; rotate_left; (focus (first | exact Nat.lt_succ_self _ | ((repeat rw [World.size_alloc]); omega) | (simp; done) | (simp; omega) | omega))) | (refine Below.then' ?_ (by assumption) ?_; rotate_left; (focus (first | exact Nat.lt_succ_self _ | ((repeat rw [World.size_alloc]); omega) | (simp; done) | (simp; omega) | omega))) | fail)); (first | done | fail)))).mono ?_; rintro e w12 ⟨r, rfl, hR⟩; have hE := op_all hH.out.1 HB7.out H7.out.1 H7.out.2 HGO.out HGN.out nx _ _ _ (hnx8.1.quiet (show Below w8.heap.size w8 _ from (by (repeat (first | exact Below.refl _ _ | assumption | (refine Below.allocT ?_ _) | refine Below.drew ?_ | refine below_drewN ?_ _ | (refine Below.then ?_ (by assumption)) | (refine Below.setRow ?_ ?_ _; rotate_left; (focus (first | exact Nat.lt_succ_self _ | ((repeat rw [World.size_alloc]); omega) | (simp; done) | (simp; omega) | omega))) | (refine Below.setCell ?_ ?_ _; rotate_left; (focus (first | exact Nat.lt_succ_self _ | ((repeat rw [World.size_alloc]); omega) | (simp; done) | (simp; omega) | omega))) | (refine Below.then' ?_ (by assumption) ?_; rotate_left; (focus (first | exact Nat.lt_succ_self _ | ((repeat rw [World.size_alloc]); omega) | (simp; done) | (simp; omega) | omega))) | fail)); (first | done | fail)))) (show Below w7.heap.size w7 _ from (by (repeat (first | exact Below.refl _ _ | assumption | (refine Below.allocT ?_ _) | refine Below.drew ?_ | refine below_drewN ?_ _ | (refine Below.then ?_ (by assumption)) | (refine Below.setRow ?_ ?_ _; rotate_left; (focus (first | exact Nat.lt_succ_self _ | ((repeat rw [World.size_alloc]); omega) | (simp; done) | (simp; omega) | omega))) | (refine Below.setCell ?_ ?_ _; rotate_left; (focus (first | exact Nat.lt_succ_self _ | ((repeat rw [World.size_alloc]); omega) | (simp; done) | (simp; omega) | omega))) | (refine Below.then' ?_ (by assumption) ?_; rotate_left; (focus (first | exact Nat.lt_succ_self _ | ((repeat rw [World.size_alloc]); omega) | (simp; done) | (simp; omega) | omega))) | fail)); (first | done | fail))) hR; clear hR))
          have HRl := Lib.hid hnx8.2.1
          have HSm := Lib.hid hnx8.2.2
          clear hnx8 HWt

          have HE := Lib.hid hE
          clear hE
          go_upto_region 35 with fail
          refine of_worldV (fun W => (∃ N', Sf w2 W gS gM (j + 1) N' uS uM ∧ HvIn W (Nb N' gS gM) nx ∧ ((r = 0 ∧ ∃ s', VaSt W N' gv g s' room (appV v o.b) ∧ Good s' room (appV v o.b)) ∨ (r = 280 ∧ ∃ s', BrSt W N' gv g s' room ∧ s'.down = true ∧ (Good s'.up room v ∨ Good s'.up room (appV v o.b))) ∨ (r ≠ 0 ∧ r ≠ 280 ∧ VaSt W N' gv g s room v))) ∧ row W gN = some nx.cells) ⟨HE.out.2.2, HE.out.2.1⟩ ?_
          rintro w13 ⟨⟨N', hSf, hNx, hcase⟩, rN⟩
          have HSf := Lib.hid hSf
          have HNx := Lib.hid hNx
          clear hSf hNx HE HM HOff HCl

          rcases hcase with ⟨rfl, s', hv13, hG13⟩ | ⟨rfl, s', hb13, hd13, hG13⟩ | ⟨hr0, hr1, hv13⟩
          · have rS := HSf.out.rS
            have rM := HSf.out.rM
            have hx0 : (row w13 gS).map (·.size) = some 2 := by rw [rS]; rfl
            have hx1 : (row w13 gM).map (·.size) = some 2 := by rw [rM]; rfl
            have hx2 : (row (w13.setRow gS nx.cells) gM).map (·.size) = some 2 := by rw [row_setRow_far HSf.out.ne, rM]; rfl
            have hx3 : (row (w13.setRow gM nx.cells) gS).map (·.size) = some 2 := by rw [row_setRow_far (Ne.symm HSf.out.ne), rS]; rfl
            have hgnS : gS ≠ gN := HNe.out.1
            have hgnM : gM ≠ gN := HNe.out.2
            have hneM : gS ≠ gM := HSf.out.ne
            have hneS : gM ≠ gS := Ne.symm HSf.out.ne
            have HK : Hid ((row w13 gN = some nx.cells ∧ (row w13 gS).map (·.size) = some 2 ∧ (row w13 gM).map (·.size) = some 2) ∧ (row (w13.setRow gS nx.cells) gN = some nx.cells ∧ (row (w13.setRow gS nx.cells) gS).map (·.size) = some 2 ∧ (row (w13.setRow gS nx.cells) gM).map (·.size) = some 2) ∧ (row (w13.setRow gM nx.cells) gN = some nx.cells ∧ (row (w13.setRow gM nx.cells) gS).map (·.size) = some 2 ∧ (row (w13.setRow gM nx.cells) gM).map (·.size) = some 2) ∧ (row ((w13.setRow gS nx.cells).setRow gM nx.cells) gN = some nx.cells ∧ (row ((w13.setRow gS nx.cells).setRow gM nx.cells) gS).map (·.size) = some 2 ∧ (row ((w13.setRow gS nx.cells).setRow gM nx.cells) gM).map (·.size) = some 2) ∧ (row ((w13.setRow gM nx.cells).setRow gS nx.cells) gN = some nx.cells ∧ (row ((w13.setRow gM nx.cells).setRow gS nx.cells) gS).map (·.size) = some 2 ∧ (row ((w13.setRow gM nx.cells).setRow gS nx.cells) gM).map (·.size) = some 2)) := Lib.hid (by
              have a1 : row (w13.setRow gS nx.cells) gN = some nx.cells := (row_setRow_far hgnS).trans rN
              have a2 : row (w13.setRow gM nx.cells) gN = some nx.cells := (row_setRow_far hgnM).trans rN
              have b1 := row_setRow (new := nx.cells) rS
              have b2 := row_setRow (new := nx.cells) rM
              have c1 : row (w13.setRow gS nx.cells) gM = some uM.cells := (row_setRow_far HSf.out.ne).trans rM
              have c2 : row (w13.setRow gM nx.cells) gS = some uS.cells := (row_setRow_far (Ne.symm HSf.out.ne)).trans rS
              refine ⟨⟨rN, hx0, hx1⟩, ⟨a1, by rw [b1]; rfl, hx2⟩, ⟨a2, hx3, by rw [b2]; rfl⟩, ⟨(row_setRow_far hgnM).trans a1, ?_, ?_⟩, ⟨(row_setRow_far hgnS).trans a2, ?_, ?_⟩⟩
              · rw [row_setRow_far (Ne.symm HSf.out.ne), b1]; rfl
              · rw [row_setRow c1]; rfl
              · rw [row_setRow c2]; rfl
              · rw [row_setRow_far HSf.out.ne, b2]; rfl)
            have HSM := Lib.hid (HSf.out.setS HNx.out HSm.out)
            have HMS := Lib.hid (HSf.out.setM HNx.out HSm.out)
            have HVSM := Lib.hid ((hv13.box (chg_setRow1 w13 gS nx.cells) HSf.out.nS rS).box (chg_setRow1 (w13.setRow gS nx.cells) gM nx.cells) HSf.out.nM HSM.out.rM)
            have HVMS := Lib.hid ((hv13.box (chg_setRow1 w13 gM nx.cells) HSf.out.nM rM).box (chg_setRow1 (w13.setRow gM nx.cells) gS nx.cells) HSf.out.nS HMS.out.rS)
            have HG13 := Lib.hid hG13
            clear rS rM hv13 hG13
            go_upto_region 37 with fail
            go_region_held3 (fun W => row W gN = some nx.cells ∧ (row W gS).map (·.size) = some 2 ∧ (row W gM).map (·.size) = some 2) (first | exact HK.out.1 | exact HK.out.2.1 | exact HK.out.2.2.1 | exact HK.out.2.2.2.1 | exact HK.out.2.2.2.2) (fail)
            all_goals
              clear hx0 hx1 hx2 hx3 rN
              go_upto_region 40 with fail
              refine of_worldV (fun W => Sf w2 W gS gM (j + 1) N' nx nx ∧ VaSt W N' gv g s' room (appV v o.b)) (by first
                | exact ⟨(HSM.out.setM HSM.out.hS HSm.out).stay (Below.drew (Below.refl _ _)), HVSM.out.stay (Below.drew (Below.refl _ _))⟩
                | exact ⟨(HMS.out.setS HMS.out.hM HSm.out).stay (Below.drew (Below.refl _ _)), HVMS.out.stay (Below.drew (Below.refl _ _))⟩
                | fail) ?_
              rintro w14 ⟨hs14, hv14⟩
              have HS14 := Lib.hid hs14
              have HV14 := Lib.hid hv14
              have rS := hs14.rS
              have HDn := Lib.hid (hv14.pl.quiet (fun gs pv A c hp => down_any g gs pv A c s' w14 hp))
              rw [HG13.out.down] at HDn
              have HHas := Lib.hid (hv14.has HRl.out HSm.out HSm.out (by omega) hs14.hS.at_)
              rw [hasB_yes HRl.out] at HHas
              clear hs14 hv14
              go_wp2_with fail
              refine (HDn.out).mono ?_
              rintro e w15 ⟨rfl, rfl⟩
              go_wp2_with fail
              refine (HHas.out).mono ?_
              rintro e w15 ⟨rfl, hb⟩
              have HFin := Lib.hid (And.intro (HS14.out.stay hb) (HV14.out.stay hb))
              clear hb HHas HDn rS
              go_wp2_with fail
              exact ⟨⟨j + 1, gv, N', s', nx, nx, by go_num, rfl, by omega, Lib.hid ⟨HFin.out.1, .inl ⟨_, HFin.out.2, HG13.out, HRl.out, HRl.out, HGe.out⟩⟩⟩, by simp [intOf]; omega⟩
          · have rM := HSf.out.rM
            have hx1 : (row w13 gM).map (·.size) = some 2 := by rw [rM]; rfl
            have HMS := Lib.hid (HSf.out.setM HNx.out HSm.out)
            have HB14 := Lib.hid (hb13.box (chg_setRow1 w13 gM nx.cells) HSf.out.nM)
            have HG13 := Lib.hid (And.intro hd13 hG13)
            clear hb13 hd13 hG13 rM
            go_upto_region 40 with fail
            generalize w13.setRow gM nx.cells = w14 at *
            have HDn := Lib.hid (HB14.out.pl.quiet (fun gs pv A c hp => down_any g gs pv A c s' w14 hp))
            rw [HG13.out.1] at HDn
            clear hx1 rN
            go_wp2_with fail
            refine (HDn.out).mono ?_
            rintro e w15 ⟨rfl, rfl⟩
            go_wp2_with fail
            exact ⟨⟨j + 1, gv, N', s', uS, nx, by go_num, rfl, by omega, Lib.hid ⟨HMS.out, .inr ⟨HB14.out, HG13.out.1, HG13.out.2.elim (fun h => ⟨v, h, .inl HG.out.2.1, Nat.le_succ_of_le HG.out.2.2.2⟩) (fun h => ⟨_, h, .inr HRl.out, HGe.out⟩)⟩⟩⟩, by simp [intOf]; omega⟩
          · have e0 : (r == 0) = false := beq_eq_false_iff_ne.2 hr0
            have e1 : (r == 280) = false := beq_eq_false_iff_ne.2 hr1
            have HV13 := Lib.hid hv13
            have rS := HSf.out.rS
            have HDn := Lib.hid (hv13.pl.quiet (fun gs pv A c hp => down_any g gs pv A c s w13 hp))
            rw [HG.out.1.down] at HDn
            have HHas := Lib.hid (hv13.has HG.out.2.1 HSf.out.bS HSf.out.bS (by omega) HSf.out.hS.at_)
            rw [hasB_yes HG.out.2.1] at HHas
            clear hv13 rN hr0 hr1
            go_wp2_with fail
            refine (HDn.out).mono ?_
            rintro e w15 ⟨rfl, rfl⟩
            go_wp2_with fail
            refine (HHas.out).mono ?_
            rintro e w15 ⟨rfl, hb⟩
            have HFin := Lib.hid (And.intro (HSf.out.stay hb) (HV13.out.stay hb))
            clear hb HHas HDn rS
            go_wp2_with fail
            exact ⟨⟨j + 1, gv, N', s, uS, uM, by go_num, rfl, by omega, Lib.hid ⟨HFin.out.1, .inl ⟨v, HFin.out.2, HG.out.1, HG.out.2.1, HG.out.2.2.1, Nat.le_succ_of_le HG.out.2.2.2⟩⟩⟩, by simp [intOf]; omega⟩
end Go.Proofs.Ytkkncijbedfdfaa

/-
  A vault is opened: vault.Open.
-/
import Derived.Test.YtkkncijbedfdfaaVaultG
namespace Go.Proofs.Ytkkncijbedfdfaa
open Go.RowKit
set_option linter.unusedVariables false

theorem compact_room (gv g room : Nat) (h0 : Hd) (s7 s8 s9 : Value) (n cD : Nat) (D : Option Addr) (hn : n ≤ 131072) (hroom : room ≤ 100000) (hfit : room < secs n) (w : World) (hv : row w gv = some (rawC h0 g room s7 s8 s9 false)) :
    Calls Try.prog 11 #[.pointer (some ⟨gv, 0, none⟩), .slice D n cD] w fun e w' => e = .returned (.int .i64 290) ∧ Below w.heap.size w w' := by
  have HIs := Lib.hid (vis_yes gv g w (row_cell hv 5))
  have HSec := Lib.hid (fun W => sectors_any n (by omega) W)
  have c6 : w.cell? ⟨gv, 6, none⟩ = some (.int .i64 (room : Int)) := row_cell hv 6
  have c10 : w.cell? ⟨gv, 10, none⟩ = some (.bool false) := row_cell hv 10
  have z1 : ¬ (131072 : Int) < (n : Int) := by omega
  have z2 : (room : Int) < ((secs n : Nat) : Int) := by omega
  clear hv
  go_enter Try.func11, Try.ntmps11
  go_wp2_with fail
  refine (HIs.out).mono ?_
  rintro e w1 ⟨rfl, rfl⟩
  go_upto_region 7 with fail
  go_region_held3 (fun W => W.cell? ⟨gv, 6, none⟩ = some (.int .i64 (room : Int))) (first | exact c6) ((go_at_call 28; refine (HSec.out _).mono ?_; rintro e w3 ⟨rfl, rfl⟩))
  go_wp2_with fail
  go_ret
  exact ⟨rfl, (by (repeat (first | exact Below.refl _ _ | assumption | (refine Below.allocT ?_ _) | refine Below.drew ?_ | refine below_drewN ?_ _ | (refine Below.then ?_ (by assumption)) | (refine Below.setRow ?_ ?_ _; rotate_left; (focus (first | exact Nat.lt_succ_self _ | ((repeat rw [World.size_alloc]); omega) | (simp; done) | (simp; omega) | omega))) | (refine Below.setCell ?_ ?_ _; rotate_left; (focus (first | exact Nat.lt_succ_self _ | ((repeat rw [World.size_alloc]); omega) | (simp; done) | (simp; omega) | omega))) | (refine Below.then' ?_ (by assumption) ?_; rotate_left; (focus (first | exact Nat.lt_succ_self _ | ((repeat rw [World.size_alloc]); omega) | (simp; done) | (simp; omega) | omega))) | fail)); (first | done | fail))⟩
theorem vt_built (g : Nat) (z : Int) : Try.prog.built 43 [(1, .pointer (some ⟨g, 0, none⟩)), (2, .int .i64 z)] = some #[.int .u64 0, .int .i64 0, .int .i64 0, .int .i64 0, .int .i64 0, .pointer (some ⟨g, 0, none⟩), .int .i64 z, .slice none 0 0, .slice none 0 0, .slice none 0 0, .bool false] := by kernel_rfl
attribute [go_sem] vt_built
/-- A vault that has just been opened, on a plate that is as it was. -/
def OpInv (w : World) (g gs : Nat) (pv : Value) (A : Option Addr) (c : Nat) (s : Ps) (room : Nat) (v : Vt) (e : Ending) (w' : World) : Prop := ∃ gv x, e = .returned (.tuple #[.pointer (some ⟨gv, 0, none⟩), .bool false, .int .i64 0]) ∧ VaAt w' gv g gs pv A c s room false v x ∧ (∀ k, VS gv x k → w.heap.size ≤ k) ∧ Below w.heap.size w w'
theorem room_eq (N : Nat) (h : 1 ≤ N) : ((N : Int) - 2).tdiv 2 = (((N - 2) / 2 : Nat) : Int) := by
  rcases Nat.lt_or_ge N 2 with h1 | h1
  · obtain rfl : N = 1 := by omega
    rfl
  · rw [Int.tdiv_eq_ediv_of_nonneg (by omega)]
    omega
set_option maxHeartbeats 8000000 in
set_option maxRecDepth 100000 in
theorem open_inv (g gs : Nat) (pv : Value) (A : Option Addr) (c : Nat) (s : Ps) (hd : s.down = false) (hp : s.pend = []) (room : Nat) (hroom : room = (s.sure.length - 2) / 2) (v : Vt) (hI : Inv s.sure room v) (hok : RecsOk v.recs) (hm5 : v.recs.length < 99999) (D : Option Addr) (n cD : Nat) (w : World) (h : PlAt w g gs pv A c s) :
    Calls Try.prog 9 #[.pointer (some ⟨g, 0, none⟩), .slice D n cD] w (OpInv w g gs pv A c s room v) := by
  have hfs := h.fews
  have hl := hI.len
  have HLn := Lib.hid (fun W (hb : Below w.heap.size w W) => len_any g gs pv A c s W (h.stay hb))
  obtain ⟨N, hN⟩ : ∃ N, N = s.sure.length := ⟨_, rfl⟩
  rw [← hN] at HLn hfs hl hroom
  have E1 : IntKind.i64.wrap ((N : Int) - 2) = (N : Int) - 2 := IntWalk.i64_in _ (by omega)
  have E2 : ((N : Int) - 2).tdiv 2 = (room : Int) := by rw [room_eq N (by omega), hroom]
  have E3 : ((N : Int) - 2) / 2 = (room : Int) := by omega
  have E4 : IntKind.i64.wrap (room : Int) = (room : Int) := IntWalk.i64_in _ (by omega)
  have e0 : ((N : Int) == 0) = false := beq_eq_false_iff_ne.2 (by omega)
  obtain ⟨ds, hs, oks, hds, hbest⟩ := inv_slots hI
  have hr100 := hI.ok.room
  have hb0 : Below w.heap.size w (w.alloc (.cells (rawC Hd.none g room (.slice none 0 0) (.slice none 0 0) (.slice none 0 0) false) 43)) := (by (repeat (first | exact Below.refl _ _ | assumption | (refine Below.allocT ?_ _) | refine Below.drew ?_ | refine below_drewN ?_ _ | (refine Below.then ?_ (by assumption)) | (refine Below.setRow ?_ ?_ _; rotate_left; (focus (first | exact Nat.lt_succ_self _ | ((repeat rw [World.size_alloc]); omega) | (simp; done) | (simp; omega) | omega))) | (refine Below.setCell ?_ ?_ _; rotate_left; (focus (first | exact Nat.lt_succ_self _ | ((repeat rw [World.size_alloc]); omega) | (simp; done) | (simp; omega) | omega))) | (refine Below.then' ?_ (by assumption) ?_; rotate_left; (focus (first | exact Nat.lt_succ_self _ | ((repeat rw [World.size_alloc]); omega) | (simp; done) | (simp; omega) | omega))) | fail)); (first | done | fail))
  have r0 : row (w.alloc (.cells (rawC Hd.none g room (.slice none 0 0) (.slice none 0 0) (.slice none 0 0) false) 43)) w.heap.size = some (rawC Hd.none g room (.slice none 0 0) (.slice none 0 0) (.slice none 0 0) false) := (by (repeat (first | assumption | (refine row_at _ _ _ _ ?_; first | rfl | (simp only [World.size_alloc]; done) | (simp only [World.size_alloc]; omega)) | (refine (row_past _ _ _ ?_).trans ?_; (focus (first | exact Nat.lt_succ_self _ | ((repeat rw [World.size_alloc]); omega) | (simp; done) | (simp; omega) | omega))) | rw [row_drewN] | rw [row_drew])); (first | done | fail))
  have hgv : ¬ PS g gs pv A w.heap.size := fun e => Nat.lt_irrefl _ (h.blocks _ e)
  have HNw := newest_any w.heap.size g gs pv A c s hd hp room hr100 ds hs oks hds _ (row_cell r0 5) (row_cell r0 6) (row_lt r0) (h.stay hb0)
  rw [hbest] at HNw
  have HLd := Lib.hid (fun W (hb : Below w.heap.size w W) (hr : row W w.heap.size = some (rawC Hd.none g room (.slice none 0 0) (.slice none 0 0) (.slice none 0 0) false)) => load_any w.heap.size g gs pv A c s hd hp room false v hI hok (by omega) Hd.none _ _ _ W hr (h.stay hb) hgv)
  have HN := Lib.hid HNw
  have HB0 := Lib.hid (And.intro hb0 r0)
  have HP := Lib.hid (And.intro h hgv)
  clear hroom hN HNw hbest hds hb0 r0 hI hok h hgv hd hp hm5
  go_enter Try.func9, Try.ntmps9
  go_wp2_with fail
  refine (HLn.out _ (Below.refl _ _)).mono ?_
  rintro e w1 ⟨rfl, rfl⟩
  go_wp2_with fail
  refine (HLn.out _ (Below.refl _ _)).mono ?_
  rintro e w1 ⟨rfl, rfl⟩
  go_wp2_with fail
  change Calls _ _ _ (w.alloc (.cells (rawC Hd.none g room (.slice none 0 0) (.slice none 0 0) (.slice none 0 0) false) 43)) _
  refine (HN.out).mono ?_
  rintro e w2 ⟨rfl, hb2⟩
  have r2 := (row_below hb2 (row_lt HB0.out.2)).trans HB0.out.2
  have HB2 := Lib.hid (And.intro (Below.then HB0.out.1 hb2) r2)
  have q3 : row (w2.alloc (.cells (headC v.hd) 40)) w2.heap.size = some (headC v.hd) := (by (repeat (first | assumption | (refine row_at _ _ _ _ ?_; first | rfl | (simp only [World.size_alloc]; done) | (simp only [World.size_alloc]; omega)) | (refine (row_past _ _ _ ?_).trans ?_; (focus (first | exact Nat.lt_succ_self _ | ((repeat rw [World.size_alloc]); omega) | (simp; done) | (simp; omega) | omega))) | rw [row_drewN] | rw [row_drew])); (first | done | fail))
  have hb3 : Below w2.heap.size w2 (w2.alloc (.cells (headC v.hd) 40)) := (by (repeat (first | exact Below.refl _ _ | assumption | (refine Below.allocT ?_ _) | refine Below.drew ?_ | refine below_drewN ?_ _ | (refine Below.then ?_ (by assumption)) | (refine Below.setRow ?_ ?_ _; rotate_left; (focus (first | exact Nat.lt_succ_self _ | ((repeat rw [World.size_alloc]); omega) | (simp; done) | (simp; omega) | omega))) | (refine Below.setCell ?_ ?_ _; rotate_left; (focus (first | exact Nat.lt_succ_self _ | ((repeat rw [World.size_alloc]); omega) | (simp; done) | (simp; omega) | omega))) | (refine Below.then' ?_ (by assumption) ?_; rotate_left; (focus (first | exact Nat.lt_succ_self _ | ((repeat rw [World.size_alloc]); omega) | (simp; done) | (simp; omega) | omega))) | fail)); (first | done | fail))
  have HR3 := Lib.hid ((row_past w2 (.cells (headC v.hd) 40) _ (row_lt r2)).trans r2)
  have HB3 := Lib.hid (Below.then HB2.out.1 hb3)
  clear hb2 r2 HN HLn hb3
  go_wp2_with fail
  refine (HLd.out _ HB3.out HR3.out).mono ?_
  rintro e w4 ⟨rfl, x, hV, hX, hC⟩
  have HV := Lib.hid (And.intro hV (And.intro hX hC))
  clear hV hX hC HLd q3
  go_wp2_with fail
  go_ret3
  obtain ⟨hV, hX, hC⟩ := HV.out
  have hP4 := (HP.out.1.stay HB3.out).chg hC (fun k hk e => HP.out.2 (by have e' : k = w.heap.size := e; rw [← e']; exact hk))
  refine ⟨w.heap.size, x, rfl, ⟨hV, hP4, fun k hk hx => ?_⟩, fun k hk => ?_, HB3.out.trans (hC.toBelow (fun k hk => by have e' : k = w.heap.size := hk; omega) HB3.out.size)⟩
  · have h1 := HP.out.1.blocks _ hx
    rcases hX k hk.symm with e | e
    · omega
    · have := HB3.out.size; omega
  · rcases hX k (.inr hk) with e | e
    · omega
    · exact Nat.le_trans HB3.out.size e
/-- What the first opening leaves. -/
def OpFresh (w : World) (F : Nat → Prop) (g room : Nat) (p : Int × Ps) (v' : Vt) (e : Ending) (w' : World) : Prop :=
  (p.1 = 0 → ∃ gv, e = .returned (.tuple #[.pointer (some ⟨gv, 0, none⟩), .bool true, .int .i64 0]) ∧ VaTo w F gv g p.2 room false v' w') ∧ (p.1 ≠ 0 → e = .returned (.tuple #[.pointer none, .bool false, .int .i64 p.1]) ∧ PlTo w F g p.2 w')
def NoRoom (w : World) (e : Ending) (w' : World) : Prop := e = .returned (.tuple #[.pointer none, .bool false, .int .i64 290]) ∧ Below w.heap.size w w'
theorem VaTo.before {w W W' : World} {F : Nat → Prop} {gv g : Nat} {s : Ps} {room : Nat} {br : Bool} {v : Vt} (h : VaTo W (fun k => F k ∨ k = gv) gv g s room br v W') (hb : Below w.heap.size w W) (hg : w.heap.size ≤ gv) : VaTo w F gv g s room br v W' := by
  obtain ⟨gs, pv, A, c, x, h1, h2, h3⟩ := h
  refine ⟨gs, pv, A, c, x, h1, fun k hk => ?_, (Chg.of_below (S := F) hb (Nat.le_refl _)).andThen h3 (fun k hk => hk.imp id (fun e => by rw [e]; exact hg))⟩
  rcases h2 k hk with (e | e) | e
  · exact .inl e
  · rw [e]; exact .inr hg
  · exact .inr (Nat.le_trans hb.size e)
theorem BrTo.before {w W W' : World} {F : Nat → Prop} {gv g : Nat} {s : Ps} {room : Nat} (h : BrTo W (fun k => F k ∨ k = gv) gv g s room W') (hb : Below w.heap.size w W) (hg : w.heap.size ≤ gv) : PlTo w F g s W' := by
  obtain ⟨gs, pv, A, c, h0, s7, s8, s9, h1, _, _, h2, h3⟩ := h
  refine ⟨gs, pv, A, c, h1, fun k hk => ?_, (Chg.of_below (S := F) hb (Nat.le_refl _)).andThen h3 (fun k hk => hk.imp id (fun e => by rw [e]; exact hg))⟩
  rcases h2 k hk with (e | e) | e
  · exact .inl e
  · rw [e]; exact .inr hg
  · exact .inr (Nat.le_trans hb.size e)
set_option maxHeartbeats 8000000 in
set_option maxRecDepth 100000 in
theorem open_fresh (g gs : Nat) (pv : Value) (A : Option Addr) (c : Nat) (s : Ps) (hd : s.down = false) (hp : s.pend = []) (room : Nat) (hroom : room = (s.sure.length - 2) / 2) (hr100 : room ≤ 100000) (hF : Fresh s.sure room) (D : Option Addr) (n cD : Nat) (bs : List Nat) (hbs : bs.length = n) (hn : n ≤ 131072) (hcap : n ≤ cD) (hcD : cD ≤ 9223372036854775807) (w : World) (hD : Bys w D bs) (hDn : 0 < n → ∀ a, D = some a → ¬ PS g gs pv A a.block) (h : PlAt w g gs pv A c s) :
    Calls Try.prog 9 #[.pointer (some ⟨g, 0, none⟩), .slice D n cD] w fun e w' => (secs n ≤ room → OpFresh w (PS g gs pv A) g room (commitP s (cmpW room 0 bs) (1, headS (cmpV 1 0 bs).hd)) (cmpV 1 0 bs) e w') ∧ (room < secs n → NoRoom w e w') := by
  have hfs := h.fews
  have hl := hF.len
  have HLn := Lib.hid (fun W (hb : Below w.heap.size w W) => len_any g gs pv A c s W (h.stay hb))
  obtain ⟨N, hN⟩ : ∃ N, N = s.sure.length := ⟨_, rfl⟩
  have hl2 := hl
  rw [← hN] at HLn hfs hl hroom
  have E1 : IntKind.i64.wrap ((N : Int) - 2) = (N : Int) - 2 := IntWalk.i64_in _ (by omega)
  have E2 : ((N : Int) - 2).tdiv 2 = (room : Int) := by rw [room_eq N (by omega), hroom]
  have E3 : ((N : Int) - 2) / 2 = (room : Int) := by omega
  have E4 : IntKind.i64.wrap (room : Int) = (room : Int) := IntWalk.i64_in _ (by omega)
  have e0 : ((N : Int) == 0) = false := beq_eq_false_iff_ne.2 (by omega)
  obtain ⟨ds, hs, oks, hds, hbest⟩ := fresh_slots hF
  have hb0 : Below w.heap.size w (w.alloc (.cells (rawC Hd.none g room (.slice none 0 0) (.slice none 0 0) (.slice none 0 0) false) 43)) := (by (repeat (first | exact Below.refl _ _ | assumption | (refine Below.allocT ?_ _) | refine Below.drew ?_ | refine below_drewN ?_ _ | (refine Below.then ?_ (by assumption)) | (refine Below.setRow ?_ ?_ _; rotate_left; (focus (first | exact Nat.lt_succ_self _ | ((repeat rw [World.size_alloc]); omega) | (simp; done) | (simp; omega) | omega))) | (refine Below.setCell ?_ ?_ _; rotate_left; (focus (first | exact Nat.lt_succ_self _ | ((repeat rw [World.size_alloc]); omega) | (simp; done) | (simp; omega) | omega))) | (refine Below.then' ?_ (by assumption) ?_; rotate_left; (focus (first | exact Nat.lt_succ_self _ | ((repeat rw [World.size_alloc]); omega) | (simp; done) | (simp; omega) | omega))) | fail)); (first | done | fail))
  have r0 : row (w.alloc (.cells (rawC Hd.none g room (.slice none 0 0) (.slice none 0 0) (.slice none 0 0) false) 43)) w.heap.size = some (rawC Hd.none g room (.slice none 0 0) (.slice none 0 0) (.slice none 0 0) false) := (by (repeat (first | assumption | (refine row_at _ _ _ _ ?_; first | rfl | (simp only [World.size_alloc]; done) | (simp only [World.size_alloc]; omega)) | (refine (row_past _ _ _ ?_).trans ?_; (focus (first | exact Nat.lt_succ_self _ | ((repeat rw [World.size_alloc]); omega) | (simp; done) | (simp; omega) | omega))) | rw [row_drewN] | rw [row_drew])); (first | done | fail))
  have hgv : ¬ PS g gs pv A w.heap.size := fun e => Nat.lt_irrefl _ (h.blocks _ e)
  have HNw := newest_any w.heap.size g gs pv A c s hd hp room hr100 ds hs oks hds _ (row_cell r0 5) (row_cell r0 6) (row_lt r0) (h.stay hb0)
  rw [hbest] at HNw
  have hDne : 0 < n → ∀ a, D = some a → a.block ≠ w.heap.size := fun hpos a ha e => by
    have := hD.lt (by rw [hbs]; exact hpos) a ha
    omega
  have HCp : Hid (secs n ≤ room → ∀ W, Below w.heap.size w W → row W w.heap.size = some (rawC ⟨0, 1, 0, 0, 0⟩ g room (.slice none 0 0) (.slice none 0 0) (.slice none 0 0) false) → Calls Try.prog 11 #[.pointer (some ⟨w.heap.size, 0, none⟩), .slice D n cD] W (OpPost W (fun k => PS g gs pv A k ∨ k = w.heap.size) w.heap.size g room (commitP s (cmpW room 0 bs) (1, headS (cmpV 1 0 bs).hd)) (cmpV 1 0 bs))) := Lib.hid fun hfit W hb hr =>
    compact_any w.heap.size g gs pv A c s hd hp room hr100 ⟨0, 1, 0, 0, 0⟩ (Nat.le_refl _) (by show 0 + 1 < _; omega) _ _ _ n cD D bs hbs hn hcap hcD hfit hl2 W (hD.stay hb) (fun hpos a ha => ⟨hDn hpos a ha, hDne hpos a ha⟩) hr hgv (h.stay hb)
  have HCr : Hid (room < secs n → ∀ W, row W w.heap.size = some (rawC ⟨0, 1, 0, 0, 0⟩ g room (.slice none 0 0) (.slice none 0 0) (.slice none 0 0) false) → Calls Try.prog 11 #[.pointer (some ⟨w.heap.size, 0, none⟩), .slice D n cD] W fun e w' => e = .returned (.int .i64 290) ∧ Below W.heap.size W w') := Lib.hid fun hfit W hr =>
    compact_room w.heap.size g room ⟨0, 1, 0, 0, 0⟩ _ _ _ n cD D hn hr100 hfit W hr
  have hcc : (commitP s (cmpW room 0 bs) (1, headS (cmpV 1 0 bs).hd)).1 = 0 ∨ (commitP s (cmpW room 0 bs) (1, headS (cmpV 1 0 bs).hd)).1 = 280 := by
    rcases commitP_cases s (cmpW room 0 bs) (1, headS (cmpV 1 0 bs).hd) hd hp with ⟨q, _⟩ | ⟨q, _⟩ | ⟨q, _⟩
    · exact .inl q
    · exact .inr q
    · exact .inr q
  generalize commitP s (cmpW room 0 bs) (1, headS (cmpV 1 0 bs).hd) = p at *
  have HCc := Lib.hid hcc
  have HN := Lib.hid HNw
  have HB0 := Lib.hid (And.intro hb0 r0)
  generalize secs n = sn at *
  clear hroom hN HNw hbest hds hb0 r0 hF h hgv hd hp hcc hD hDn hDne hbs hl2
  go_enter Try.func9, Try.ntmps9
  go_wp2_with fail
  refine (HLn.out _ (Below.refl _ _)).mono ?_
  rintro e w1 ⟨rfl, rfl⟩
  go_wp2_with fail
  refine (HLn.out _ (Below.refl _ _)).mono ?_
  rintro e w1 ⟨rfl, rfl⟩
  go_wp2_with fail
  change Calls _ _ _ (w.alloc (.cells (rawC Hd.none g room (.slice none 0 0) (.slice none 0 0) (.slice none 0 0) false) 43)) _
  refine (HN.out).mono ?_
  rintro e w2 ⟨rfl, hb2⟩
  have r2 := (row_below hb2 (row_lt HB0.out.2)).trans HB0.out.2
  have hb3 : Below w2.heap.size w2 (w2.alloc (.cells (headC Hd.none) 40)) := (by (repeat (first | exact Below.refl _ _ | assumption | (refine Below.allocT ?_ _) | refine Below.drew ?_ | refine below_drewN ?_ _ | (refine Below.then ?_ (by assumption)) | (refine Below.setRow ?_ ?_ _; rotate_left; (focus (first | exact Nat.lt_succ_self _ | ((repeat rw [World.size_alloc]); omega) | (simp; done) | (simp; omega) | omega))) | (refine Below.setCell ?_ ?_ _; rotate_left; (focus (first | exact Nat.lt_succ_self _ | ((repeat rw [World.size_alloc]); omega) | (simp; done) | (simp; omega) | omega))) | (refine Below.then' ?_ (by assumption) ?_; rotate_left; (focus (first | exact Nat.lt_succ_self _ | ((repeat rw [World.size_alloc]); omega) | (simp; done) | (simp; omega) | omega))) | fail)); (first | done | fail))
  have r3 := (row_past w2 (.cells (headC Hd.none) 40) _ (row_lt r2)).trans r2
  have HB3 := Lib.hid (Below.then (Below.then HB0.out.1 hb2) hb3)
  have HR3 := Lib.hid r3
  have k1 : (w2.alloc (.cells (headC Hd.none) 40)).cell? ⟨w.heap.size, 1, none⟩ = some (.int .i64 0) := row_cell r3 1
  have f1 := row_frozen r3 1
  clear hb2 r2 HN HLn hb3 r3
  go_upto_region 13 with fail
  refine of_worldV (fun W => row W w.heap.size = some (rawC ⟨0, 1, 0, 0, 0⟩ g room (.slice none 0 0) (.slice none 0 0) (.slice none 0 0) false) ∧ Below w.heap.size w W) ⟨(row_set HR3.out 1 _).trans rfl, Below.setCell HB3.out (p := ⟨w.heap.size, 1, none⟩) (Nat.le_refl _) _⟩ ?_
  intro w4 hW4
  have HW4 := Lib.hid hW4
  clear hW4 k1 f1 HB3 HR3
  by_cases hfit : sn ≤ room
  · have HC4 := Lib.hid (HCp.out hfit w4 HW4.out.2 HW4.out.1)
    clear HCp HCr
    rcases HCc.out with hp0 | hp0
    · have HP0 := Lib.hid hp0
      unfold OpPost at HC4
      rw [hp0] at HC4
      clear hp0
      go_wp2_with fail
      refine (HC4.out).mono ?_
      rintro e w5 ⟨rfl, hok, _⟩
      have HOk := Lib.hid (hok (by first | rfl | trivial))
      clear hok HC4
      go_wp2_with fail
      go_ret3
      exact ⟨fun _ => ⟨fun _ => ⟨w.heap.size, rfl, HOk.out.before HW4.out.2 (Nat.le_refl _)⟩, fun e => absurd HP0.out e⟩, fun e => by omega⟩
    · have HP0 := Lib.hid hp0
      unfold OpPost at HC4
      rw [hp0] at HC4
      clear hp0
      go_wp2_with fail
      refine (HC4.out).mono ?_
      rintro e w5 ⟨rfl, _, hbr⟩
      have HOk := Lib.hid (hbr (by first | decide | trivial))
      clear hbr HC4
      go_wp2_with fail
      go_ret3
      exact ⟨fun _ => ⟨(fun e => by rw [HP0.out] at e; cases e), fun _ => ⟨by rw [HP0.out]; rfl, HOk.out.before HW4.out.2 (Nat.le_refl _)⟩⟩, fun e => by omega⟩
  · have HC4 := Lib.hid (HCr.out (by omega) w4 HW4.out.1)
    clear HCp HCr
    go_wp2_with fail
    refine (HC4.out).mono ?_
    rintro e w5 ⟨rfl, hb5⟩
    have HB5 := Lib.hid (Below.then HW4.out.2 hb5)
    clear hb5 HC4
    go_wp2_with fail
    go_ret3
    exact ⟨fun e => absurd e hfit, fun _ => ⟨rfl, HB5.out⟩⟩
set_option maxHeartbeats 8000000 in
set_option maxRecDepth 100000 in
/-- A plate of one sector. -/
theorem open_one (g gs : Nat) (pv : Value) (A : Option Addr) (c : Nat) (s : Ps) (hd : s.down = false) (hp : s.pend = []) (h1 : s.sure = [zSec]) (D : Option Addr) (n cD : Nat) (w : World) (h : PlAt w g gs pv A c s) :
    Calls Try.prog 9 #[.pointer (some ⟨g, 0, none⟩), .slice D n cD] w (NoRoom w) := by
  have HLn := Lib.hid (fun W (hb : Below w.heap.size w W) => len_any g gs pv A c s W (h.stay hb))
  rw [h1] at HLn
  have hb0 : Below w.heap.size w (w.alloc (.cells (rawC Hd.none g 0 (.slice none 0 0) (.slice none 0 0) (.slice none 0 0) false) 43)) := (by (repeat (first | exact Below.refl _ _ | assumption | (refine Below.allocT ?_ _) | refine Below.drew ?_ | refine below_drewN ?_ _ | (refine Below.then ?_ (by assumption)) | (refine Below.setRow ?_ ?_ _; rotate_left; (focus (first | exact Nat.lt_succ_self _ | ((repeat rw [World.size_alloc]); omega) | (simp; done) | (simp; omega) | omega))) | (refine Below.setCell ?_ ?_ _; rotate_left; (focus (first | exact Nat.lt_succ_self _ | ((repeat rw [World.size_alloc]); omega) | (simp; done) | (simp; omega) | omega))) | (refine Below.then' ?_ (by assumption) ?_; rotate_left; (focus (first | exact Nat.lt_succ_self _ | ((repeat rw [World.size_alloc]); omega) | (simp; done) | (simp; omega) | omega))) | fail)); (first | done | fail))
  have r0 : row (w.alloc (.cells (rawC Hd.none g 0 (.slice none 0 0) (.slice none 0 0) (.slice none 0 0) false) 43)) w.heap.size = some (rawC Hd.none g 0 (.slice none 0 0) (.slice none 0 0) (.slice none 0 0) false) := (by (repeat (first | assumption | (refine row_at _ _ _ _ ?_; first | rfl | (simp only [World.size_alloc]; done) | (simp only [World.size_alloc]; omega)) | (refine (row_past _ _ _ ?_).trans ?_; (focus (first | exact Nat.lt_succ_self _ | ((repeat rw [World.size_alloc]); omega) | (simp; done) | (simp; omega) | omega))) | rw [row_drewN] | rw [row_drew])); (first | done | fail))
  have HN := Lib.hid (newest_one w.heap.size g gs pv A c s hd hp 0 (by omega) h1 _ (row_cell r0 5) (row_cell r0 6) (row_lt r0) (h.stay hb0))
  have HB0 := Lib.hid hb0
  clear hb0 r0 h hd hp h1
  go_enter Try.func9, Try.ntmps9
  go_wp2_with fail
  refine (HLn.out _ (Below.refl _ _)).mono ?_
  rintro e w1 ⟨rfl, rfl⟩
  go_wp2_with fail
  refine (HLn.out _ (Below.refl _ _)).mono ?_
  rintro e w1 ⟨rfl, rfl⟩
  go_wp2_with fail
  change Calls _ _ _ (w.alloc (.cells (rawC Hd.none g 0 (.slice none 0 0) (.slice none 0 0) (.slice none 0 0) false) 43)) _
  refine (HN.out).mono ?_
  rintro e w2 ⟨rfl, hb2⟩
  have HB2 := Lib.hid (Below.then HB0.out hb2)
  clear hb2 HN
  go_wp2_with fail
  go_ret3
  exact ⟨rfl, Below.then HB2.out (by (repeat (first | exact Below.refl _ _ | assumption | (refine Below.allocT ?_ _) | refine Below.drew ?_ | refine below_drewN ?_ _ | (refine Below.then ?_ (by assumption)) | (refine Below.setRow ?_ ?_ _; rotate_left; (focus (first | exact Nat.lt_succ_self _ | ((repeat rw [World.size_alloc]); omega) | (simp; done) | (simp; omega) | omega))) | (refine Below.setCell ?_ ?_ _; rotate_left; (focus (first | exact Nat.lt_succ_self _ | ((repeat rw [World.size_alloc]); omega) | (simp; done) | (simp; omega) | omega))) | (refine Below.then' ?_ (by assumption) ?_; rotate_left; (focus (first | exact Nat.lt_succ_self _ | ((repeat rw [World.size_alloc]); omega) | (simp; done) | (simp; omega) | omega))) | fail)); (first | done | fail))⟩
end Go.Proofs.Ytkkncijbedfdfaa

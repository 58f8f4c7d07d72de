/-
  A snapshot stands for all: (*vault.Vault).Compact.
-/
import Derived.Test.YtkkncijbedfdfaaVaultB
namespace Go.Proofs.Ytkkncijbedfdfaa
open Go.RowKit
set_option linter.unusedVariables false

theorem vis_yes (gv g : Nat) (w : World) (h5 : w.cell? ⟨gv, 5, none⟩ = some (.pointer (some ⟨g, 0, none⟩))) : Calls Try.prog 25 #[.pointer (some ⟨gv, 0, none⟩)] w fun e w' => e = .returned (.bool true) ∧ w = w' := by
  go_enter Try.func25, Try.ntmps25
  go_wp2_with fail
  go_ret
  exact ⟨rfl, rfl⟩
/-- A vault that is broken, and its plate. -/
def BrTo (w : World) (F : Nat → Prop) (gv g : Nat) (s : Ps) (room : Nat) (W : World) : Prop := ∃ gs pv A c h0 s7 s8 s9, PlAt W g gs pv A c s ∧ row W gv = some (rawC h0 g room s7 s8 s9 true) ∧ ¬ PS g gs pv A gv ∧ (∀ k, PS g gs pv A k → F k ∨ w.heap.size ≤ k) ∧ Chg F w W
/-- The blocks that a vault and its plate may write. -/
def FS (g gs : Nat) (pv : Value) (A : Option Addr) (gv : Nat) (x : VtA) : Nat → Prop := fun k => PS g gs pv A k ∨ VS gv x k
def OpPost (w : World) (F : Nat → Prop) (gv g room : Nat) (p : Int × Ps) (v' : Vt) (e : Ending) (w' : World) : Prop := e = .returned (.int .i64 p.1) ∧ (p.1 = 0 → VaTo w F gv g p.2 room false v' w') ∧ (p.1 ≠ 0 → BrTo w F gv g p.2 room w')
theorem hd_built3 (x y z : Int) : Try.prog.built 40 [(0, .int .u64 x), (1, .int .i64 y), (2, .int .i64 z)] = some #[.int .u64 x, .int .i64 y, .int .i64 z, .int .i64 0, .int .i64 0] := by kernel_rfl
theorem run_store_aggV {P : Program} (T : TypeId) (n : Nat) (hi : (P.info? T).map (·.size) = some n)
    {ρ : Operand → Value} {dst : Option Tmp} {x y : Operand} {ty : TypeId} {pos : String} {after : Array Edge} {gd : Option (Nat × Bool)} {w : World}
    (h1 : ρ x = .pointer (some ⟨blk (ρ x), 0, none⟩)) (h2 : (row w (blk (ρ x))).map (·.size) = some n)
    (h3 : ρ y = .agg (aggOf (ρ y))) (h4 : (aggOf (ρ y)).size = n) (h5 : allOne (aggOf (ρ y)) = true) :
    (execOp ρ ⟨dst, .store T x y, ty, pos, after, gd⟩).run P w = .ok .skip (w.setRow (blk (ρ x)) (aggOf (ρ y))) := by
  obtain ⟨cs, hc, hs⟩ := Option.map_eq_some_iff.1 h2
  obtain ⟨t, ht⟩ := row_heap hc
  generalize blk (ρ x) = g at *
  generalize aggOf (ρ y) = new at *
  unfold execOp
  simp only [h1, h3, Instr.storeAt, Instr.sureAddr, Sem.run_bind, Sem.run_pure, Result.andThen_ok, run_storeVar_row w g t T cs new ht (by rw [hi, h4]) (by omega) h5]
theorem hd_run_store {ρ : Operand → Value} {dst : Option Tmp} {x y : Operand} {ty : TypeId} {pos : String} {after : Array Edge} {gd : Option (Nat × Bool)} {w : World}
    (h1 : ρ x = .pointer (some ⟨blk (ρ x), 0, none⟩)) (h2 : (row w (blk (ρ x))).map (·.size) = some 5)
    (h3 : ρ y = .agg (aggOf (ρ y))) (h4 : (aggOf (ρ y)).size = 5) (h5 : allOne (aggOf (ρ y)) = true) :
    (execOp ρ ⟨dst, .store 40 x y, ty, pos, after, gd⟩).run Try.prog w = .ok .skip (w.setRow (blk (ρ x)) (aggOf (ρ y))) := run_store_aggV _ 5 hd_info h1 h2 h3 h4 h5
attribute [go_sem ↓] hd_run_store
attribute [go_sem] hd_built3
theorem VaAt.bounds {W : World} {gv g gs : Nat} {pv : Value} {A : Option Addr} {c : Nat} {s : Ps} {room : Nat} {br : Bool} {v : Vt} {x : VtA} (h : VaAt W gv g gs pv A c s room br v x) : row W gv = some (rawC v.hd g room (.slice x.a7 v.snap.length x.c7) (.slice x.a8 v.log.length x.c8) (.slice x.a9 x.rs.length x.c9) br) ∧ ¬ PS g gs pv A gv := ⟨h.vt.row, h.far gv (.inl (.inl rfl))⟩
theorem CommitPost.before {w W w' : World} {F : Nat → Prop} {gv g room : Nat} {h0 h : Hd} {s7 s8 s9 : Value} {br : Bool} {p : Int × Ps} {e : Ending} (hc : CommitPost W F gv g room h0 h s7 s8 s9 br p e w') (hb : Below w.heap.size w W) : CommitPost w F gv g room h0 h s7 s8 s9 br p e w' := by
  obtain ⟨he, ⟨gs, pv, A, c, k1, k2⟩, hch, h1, h2⟩ := hc
  exact ⟨he, ⟨gs, pv, A, c, k1, fun x hx => (k2 x hx).imp id (fun q => Nat.le_trans hb.size q)⟩, Chg.below_before hb hch, h1, h2⟩
set_option maxHeartbeats 8000000 in
set_option maxRecDepth 100000 in
theorem compact_any (gv g gs : Nat) (pv : Value) (A : Option Addr) (c : Nat) (s : Ps) (hd : s.down = false) (hp : s.pend = []) (room : Nat) (hroom : room ≤ 100000) (h0 : Hd) (ha : h0.area ≤ 1) (hgen : h0.gen + 1 < 18446744073709551615) (s7 s8 s9 : Value) (n cD : Nat) (D : Option Addr) (bs : List Nat) (hbs : bs.length = n) (hn : n ≤ 131072) (hcap : n ≤ cD) (hcD : cD ≤ 9223372036854775807) (hfit : secs n ≤ room) (hlen : 2 + 2 * room ≤ s.sure.length) (w : World) (hD : Bys w D bs) (hDn : 0 < n → ∀ a, D = some a → ¬ PS g gs pv A a.block ∧ a.block ≠ gv) (hv : row w gv = some (rawC h0 g room s7 s8 s9 false)) (hgn : ¬ PS g gs pv A gv) (hP : PlAt w g gs pv A c s) :
    Calls Try.prog 11 #[.pointer (some ⟨gv, 0, none⟩), .slice D n cD] w (OpPost w (fun k => PS g gs pv A k ∨ k = gv) gv g room (commitP s (cmpW room (1 - h0.area) bs) ((h0.gen + 1) % 2, headS (cmpV (h0.gen + 1) (1 - h0.area) bs).hd)) (cmpV (h0.gen + 1) (1 - h0.area) bs)) := by
  have HIs := Lib.hid (fun W (hb : Below w.heap.size w W) => vis_yes gv g W ((hb.cell (p := ⟨gv, 5, none⟩) (row_lt hv)).trans (row_cell hv 5)))
  have HSec := Lib.hid (fun W => sectors_any n (by omega) W)
  obtain ⟨g', hg'⟩ : ∃ g', g' = h0.gen + 1 := ⟨_, rfl⟩
  obtain ⟨a', ha'⟩ : ∃ a', a' = 1 - h0.area := ⟨_, rfl⟩
  have ha1 : a' ≤ 1 := by omega
  have HC : Hid ((cmpV (h0.gen + 1) (1 - h0.area) bs).hd = ⟨g', a', n, 0, 0⟩) := Lib.hid (by rw [← hg', ← ha', ← hbs]; rfl)
  have hok : Hd.Ok room ⟨g', a', n, 0, 0⟩ := ⟨⟨by show 1 ≤ g'; omega, by show g' < _; omega⟩, ha1, by show secs n + secs 0 ≤ room; unfold secs at hfit ⊢; omega, hroom, Nat.le_refl _⟩
  have hbeg : 2 ≤ begA room a' ∧ begA room a' + room ≤ 2 + 2 * room := by
    unfold begA
    rcases area_cases ha1 with q | q <;> rw [q] <;> omega
  have HBg : Hid (∀ W, Below w.heap.size w W → Calls Try.prog 29 #[.pointer (some ⟨gv, 0, none⟩), .int .i64 (a' : Int)] W fun e w' => e = .returned (.int .i64 ((begA room a' : Nat) : Int)) ∧ W = w') := Lib.hid fun W hb => begin_any gv room a' ha1 hroom W ((hb.cell (p := ⟨gv, 6, none⟩) (row_lt hv)).trans (row_cell hv 6))
  have HCm : Hid (∀ W b, Below w.heap.size w W → row W b = some #[.int .i64 ((begA room a' : Nat) : Int), .slice D n cD] → Calls Try.prog 30 #[.pointer (some ⟨gv, 0, none⟩), .agg (headC ⟨g', a', n, 0, 0⟩), .slice (some ⟨b, 0, none⟩) 1 1] W (CommitPost W (PS g gs pv A) gv g room h0 ⟨g', a', n, 0, 0⟩ s7 s8 s9 false (commitP s (cmpW room (1 - h0.area) bs) ((h0.gen + 1) % 2, headS (cmpV (h0.gen + 1) (1 - h0.area) bs).hd)))) := Lib.hid fun W b hb hr => by
    rw [HC.out, ← hg', ← ha']
    exact commit_any gv g gs pv A c s hd hp room h0 ⟨g', a', n, 0, 0⟩ hok s7 s8 s9 false (begA room a') n cD b D bs hbs (by omega) hcap hcD (by omega) (by omega) W hr (hD.stay hb) (fun hpos a ha => (hDn hpos a ha).1) ((row_below hb (row_lt hv)).trans hv) hgn (hP.stay hb)
  have hcc : (commitP s (cmpW room (1 - h0.area) bs) ((h0.gen + 1) % 2, headS (cmpV (h0.gen + 1) (1 - h0.area) bs).hd)).1 = 0 ∨ (commitP s (cmpW room (1 - h0.area) bs) ((h0.gen + 1) % 2, headS (cmpV (h0.gen + 1) (1 - h0.area) bs).hd)).1 = 280 := by
    rcases commitP_cases s (cmpW room (1 - h0.area) bs) ((h0.gen + 1) % 2, headS (cmpV (h0.gen + 1) (1 - h0.area) bs).hd) hd hp with ⟨q, _⟩ | ⟨q, _⟩ | ⟨q, _⟩
    · exact .inl q
    · exact .inr q
    · exact .inr q
  obtain ⟨cv, hcv⟩ : ∃ cv, cv = cmpV (h0.gen + 1) (1 - h0.area) bs := ⟨_, rfl⟩
  have HCv : Hid (cv.hd = ⟨g', a', n, 0, 0⟩ ∧ cv.snap = bs ∧ cv.log = [] ∧ cv.recs = []) := Lib.hid ⟨by rw [hcv]; exact HC.out, by rw [hcv]; rfl, by rw [hcv]; rfl, by rw [hcv]; rfl⟩
  rw [← hcv] at HCm hcc ⊢
  clear HC hcv
  generalize commitP s (cmpW room (1 - h0.area) bs) ((h0.gen + 1) % 2, headS cv.hd) = p at *
  have c0 : w.cell? ⟨gv, 0, none⟩ = some (.int .u64 (h0.gen : Int)) := row_cell hv 0
  have c1 : w.cell? ⟨gv, 1, none⟩ = some (.int .i64 (h0.area : Int)) := row_cell hv 1
  have c6 : w.cell? ⟨gv, 6, none⟩ = some (.int .i64 (room : Int)) := row_cell hv 6
  have c10 : w.cell? ⟨gv, 10, none⟩ = some (.bool false) := row_cell hv 10
  have z1 : ¬ (131072 : Int) < (n : Int) := by omega
  have z2 : ¬ (room : Int) < ((secs n : Nat) : Int) := by omega
  have E1 : IntKind.u64.wrap ((h0.gen : Int) + 1) = (g' : Int) := by rw [IntKind.wrap_u64]; omega
  have E2 : IntKind.i64.wrap (1 - (h0.area : Int)) = (a' : Int) := by rw [show (1 : Int) - (h0.area : Int) = (a' : Int) by omega]; exact IntWalk.i64_in _ (by omega)
  have H0 := Lib.hid (And.intro hv (And.intro hgn hP))
  have HD := Lib.hid (And.intro hD hDn)
  have HBs := Lib.hid hbs
  have hgl := row_lt hv
  clear hv hgn hP hD hDn hok hd hp hg' ha' hgen ha hlen hfit
  go_enter Try.func11, Try.ntmps11
  go_wp2_with fail
  refine (HIs.out _ (Below.refl _ _)).mono ?_
  rintro e w1 ⟨rfl, rfl⟩
  go_upto_region 7 with fail
  go_region_held3 (fun W => W.cell? ⟨gv, 6, none⟩ = some (.int .i64 (room : Int))) (first | exact c6) ((go_at_call 28; refine (HSec.out _).mono ?_; rintro e w3 ⟨rfl, rfl⟩))
  go_upto_region 9 with fail
  have HM : Hid (∀ W, Below w.heap.size w W → W.cell? ⟨gv, 0, none⟩ = some (.int .u64 (h0.gen : Int)) ∧ W.cell? ⟨gv, 1, none⟩ = some (.int .i64 (h0.area : Int))) := Lib.hid fun W hb => ⟨(hb.cell (p := ⟨gv, 0, none⟩) hgl).trans c0, (hb.cell (p := ⟨gv, 1, none⟩) hgl).trans c1⟩
  go_region_held3 (fun W => W.cell? ⟨gv, 0, none⟩ = some (.int .u64 (h0.gen : Int)) ∧ W.cell? ⟨gv, 1, none⟩ = some (.int .i64 (h0.area : Int))) (exact HM.out _ (by (repeat (first | exact Below.refl _ _ | assumption | (refine Below.allocT ?_ _) | refine Below.drew ?_ | refine below_drewN ?_ _ | (refine Below.then ?_ (by assumption)) | (refine Below.setRow ?_ ?_ _; rotate_left; (focus (first | exact Nat.lt_succ_self _ | ((repeat rw [World.size_alloc]); omega) | (simp; done) | (simp; omega) | omega))) | (refine Below.setCell ?_ ?_ _; rotate_left; (focus (first | exact Nat.lt_succ_self _ | ((repeat rw [World.size_alloc]); omega) | (simp; done) | (simp; omega) | omega))) | (refine Below.then' ?_ (by assumption) ?_; rotate_left; (focus (first | exact Nat.lt_succ_self _ | ((repeat rw [World.size_alloc]); omega) | (simp; done) | (simp; omega) | omega))) | fail)); (first | done | fail))) (fail)
  go_upto_region 10 with fail
  refine of_worldV (fun W => row W w.heap.size = some (headC ⟨g', a', n, 0, 0⟩) ∧ Below w.heap.size w W) ⟨(by (repeat (first | assumption | (refine row_at _ _ _ _ ?_; first | rfl | (simp only [World.size_alloc]; done) | (simp only [World.size_alloc]; omega)) | (refine (row_past _ _ _ ?_).trans ?_; (focus (first | exact Nat.lt_succ_self _ | ((repeat rw [World.size_alloc]); omega) | (simp; done) | (simp; omega) | omega))) | rw [row_drewN] | rw [row_drew])); (first | done | fail)), (by (repeat (first | exact Below.refl _ _ | assumption | (refine Below.allocT ?_ _) | refine Below.drew ?_ | refine below_drewN ?_ _ | (refine Below.then ?_ (by assumption)) | (refine Below.setRow ?_ ?_ _; rotate_left; (focus (first | exact Nat.lt_succ_self _ | ((repeat rw [World.size_alloc]); omega) | (simp; done) | (simp; omega) | omega))) | (refine Below.setCell ?_ ?_ _; rotate_left; (focus (first | exact Nat.lt_succ_self _ | ((repeat rw [World.size_alloc]); omega) | (simp; done) | (simp; omega) | omega))) | (refine Below.then' ?_ (by assumption) ?_; rotate_left; (focus (first | exact Nat.lt_succ_self _ | ((repeat rw [World.size_alloc]); omega) | (simp; done) | (simp; omega) | omega))) | fail)); (first | done | fail))⟩ ?_
  intro w2 hW2
  have HW2 := Lib.hid hW2
  have hx2 : Hid (∀ W, Chg (fun x => PS g gs pv A x ∨ x = gv) w2 W → W.cell? ⟨w.heap.size, 1, none⟩ = some (.int .i64 (a' : Int)) ∧ row W w.heap.size = some (headC ⟨g', a', n, 0, 0⟩)) := Lib.hid fun W hc => by
    have hr := (hc.row (row_lt HW2.out.1) (fun hx => by
      rcases hx with hx | hx
      · exact Nat.lt_irrefl _ (H0.out.2.2.blocks _ hx)
      · omega)).trans HW2.out.1
    exact ⟨row_cell hr 1, hr⟩
  clear hW2 HM c0 c1 c6 c10
  go_region_held3 (fun W => W.cell? ⟨w.heap.size, 1, none⟩ = some (.int .i64 (a' : Int)) ∧ row W w.heap.size = some (headC ⟨g', a', n, 0, 0⟩)) (first | exact hx2.out _ hC6 | exact hx2.out _ (Chg.of_below (show Below w2.heap.size w2 _ from (by (repeat (first | exact Below.refl _ _ | assumption | (refine Below.allocT ?_ _) | refine Below.drew ?_ | refine below_drewN ?_ _ | (refine Below.then ?_ (by assumption)) | (refine Below.setRow ?_ ?_ _; rotate_left; (focus (first | exact Nat.lt_succ_self _ | ((repeat rw [World.size_alloc]); omega) | (simp; done) | (simp; omega) | omega))) | (refine Below.setCell ?_ ?_ _; rotate_left; (focus (first | exact Nat.lt_succ_self _ | ((repeat rw [World.size_alloc]); omega) | (simp; done) | (simp; omega) | omega))) | (refine Below.then' ?_ (by assumption) ?_; rotate_left; (focus (first | exact Nat.lt_succ_self _ | ((repeat rw [World.size_alloc]); omega) | (simp; done) | (simp; omega) | omega))) | fail)); (first | done | fail))) (Nat.le_refl _))) (first
    | (go_at_call 29; refine (HBg.out _ (Below.then HW2.out.2 (by (repeat (first | exact Below.refl _ _ | assumption | (refine Below.allocT ?_ _) | refine Below.drew ?_ | refine below_drewN ?_ _ | (refine Below.then ?_ (by assumption)) | (refine Below.setRow ?_ ?_ _; rotate_left; (focus (first | exact Nat.lt_succ_self _ | ((repeat rw [World.size_alloc]); omega) | (simp; done) | (simp; omega) | omega))) | (refine Below.setCell ?_ ?_ _; rotate_left; (focus (first | exact Nat.lt_succ_self _ | ((repeat rw [World.size_alloc]); omega) | (simp; done) | (simp; omega) | omega))) | (refine Below.then' ?_ (by assumption) ?_; rotate_left; (focus (first | exact Nat.lt_succ_self _ | ((repeat rw [World.size_alloc]); omega) | (simp; done) | (simp; omega) | omega))) | fail)); (first | done | fail)))).mono ?_; rintro e w3 ⟨rfl, rfl⟩)
    | (go_at_call 30; refine (HCm.out _ _ (Below.then HW2.out.2 (by (repeat (first | exact Below.refl _ _ | assumption | (refine Below.allocT ?_ _) | refine Below.drew ?_ | refine below_drewN ?_ _ | (refine Below.then ?_ (by assumption)) | (refine Below.setRow ?_ ?_ _; rotate_left; (focus (first | exact Nat.lt_succ_self _ | ((repeat rw [World.size_alloc]); omega) | (simp; done) | (simp; omega) | omega))) | (refine Below.setCell ?_ ?_ _; rotate_left; (focus (first | exact Nat.lt_succ_self _ | ((repeat rw [World.size_alloc]); omega) | (simp; done) | (simp; omega) | omega))) | (refine Below.then' ?_ (by assumption) ?_; rotate_left; (focus (first | exact Nat.lt_succ_self _ | ((repeat rw [World.size_alloc]); omega) | (simp; done) | (simp; omega) | omega))) | fail)); (first | done | fail))) (by (repeat (first | assumption | (refine row_at _ _ _ _ ?_; first | rfl | (simp only [World.size_alloc]; done) | (simp only [World.size_alloc]; omega)) | (refine (row_past _ _ _ ?_).trans ?_; (focus (first | exact Nat.lt_succ_self _ | ((repeat rw [World.size_alloc]); omega) | (simp; done) | (simp; omega) | omega))) | rw [row_drewN] | rw [row_drew])); (first | done | fail))).mono ?_; intro e w6 hC; have hC2 := hC.before (show Below w2.heap.size w2 _ from (by (repeat (first | exact Below.refl _ _ | assumption | (refine Below.allocT ?_ _) | refine Below.drew ?_ | refine below_drewN ?_ _ | (refine Below.then ?_ (by assumption)) | (refine Below.setRow ?_ ?_ _; rotate_left; (focus (first | exact Nat.lt_succ_self _ | ((repeat rw [World.size_alloc]); omega) | (simp; done) | (simp; omega) | omega))) | (refine Below.setCell ?_ ?_ _; rotate_left; (focus (first | exact Nat.lt_succ_self _ | ((repeat rw [World.size_alloc]); omega) | (simp; done) | (simp; omega) | omega))) | (refine Below.then' ?_ (by assumption) ?_; rotate_left; (focus (first | exact Nat.lt_succ_self _ | ((repeat rw [World.size_alloc]); omega) | (simp; done) | (simp; omega) | omega))) | fail)); (first | done | fail))); have hC3 := hC2.before HW2.out.2; obtain ⟨rfl, hPl', hC7, hz, hnz⟩ := hC3; have hC6 := hC2.2.2.1))
  have HC7 := Lib.hid hC7
  have HPl := Lib.hid hPl'
  have HZ := Lib.hid (And.intro hz hnz)
  clear hC hC2 hC6 hC7 hPl' hz hnz hx2 HCm HBg HSec HIs
  rcases hcc with hp0 | hp0
  · have HP0 := Lib.hid hp0
    obtain ⟨gs6, pv6, A6, c6, hP6, hF6⟩ := HPl.out
    have q6 := HZ.out.1 hp0
    have hgF : ¬ PS g gs6 pv6 A6 gv := fun hx => by
      rcases hF6 gv hx with e | e
      · exact H0.out.2.1 e
      · omega
    have HQ6 := Lib.hid (And.intro q6 (And.intro hP6 (And.intro hF6 hgF)))
    have hD6 := HD.out.1.chg' HC7.out (fun hpos a ha hx => by
      rcases hx with hx | hx
      · exact (HD.out.2 (by rw [← HBs.out]; exact hpos) a ha).1 hx
      · exact (HD.out.2 (by rw [← HBs.out]; exact hpos) a ha).2 hx)
    have HD6 := Lib.hid hD6
    rw [hp0]
    clear hp0 q6 hP6 hF6 hgF hD6
    go_wp2_with (at_builtin; refine wpList_appb rfl _ _ rfl (.slice none 0 0) [] bs D n cD (OwnB.nil _) HD6.out rfl rfl HBs.out (by rw [HBs.out, List.length_nil]; omega) ?_; intro v7 w7 hA7; have hb7 : Below w6.heap.size w6 w7 := (Below.refl _ _).grown hA7.2.1 (Nat.le_refl _) (fun k hk => by cases hk); have q7 := (row_below hb7 (row_lt HQ6.out.1)).trans HQ6.out.1; have k7 : w7.cell? ⟨gv, 7, none⟩ = some s7 := row_cell q7 7; have k8 : w7.cell? ⟨gv, 8, none⟩ = some s8 := row_cell q7 8; have k9 : w7.cell? ⟨gv, 9, none⟩ = some s9 := row_cell q7 9; have f7 := row_frozen q7 7; have f8 := row_frozen q7 8; have f9 := row_frozen q7 9; have HA7 := Lib.hid hA7; have HB7 := Lib.hid hb7; have HQ7 := Lib.hid q7; obtain ⟨A7, c7, hv7⟩ := hA7.form; rw [HBs.out, List.length_nil, Nat.zero_add] at hv7; subst hv7; clear hA7 hb7 q7)
    go_ret
    obtain ⟨q6, hP6, hF6, hgF⟩ := HQ6.out
    obtain ⟨A', c', e', hy7, _, _, _, hown7⟩ := HA7.out.1.form
    rw [List.nil_append] at hy7
    rw [Value.slice.injEq] at e'
    have hy7' : Bys w7 A7 bs := by rw [e'.1]; exact hy7
    have hnew7 : ∀ a, A7 = some a → w6.heap.size ≤ a.block := fun a ha => by
      have h1 := hown7 a (by rw [← e'.1]; exact ha)
      rcases HA7.out.2.2 with h2 | h2
      · rw [h2] at h1; cases h1
      · rw [h2] at h1
        exact Nat.le_of_eq (Option.some.inj h1)
    have hgl6 := row_lt q6
    obtain ⟨z1, z2, z3⟩ := vt_fin (B := w6.heap.size) (v := cv) (rs := []) (A8 := none) (A9 := none) (n7 := n) (n8 := 0) (n9 := 0) (c7 := c7) (c8 := 0) (c9 := 0) (w3 := w7) (w4 := w7) (w5 := w7) hgl6 HB7.out.size (Chg.refl _ _) (by rw [HCv.out.1]; exact HQ7.out) ⟨by rw [HCv.out.2.1, HBs.out], by simp [HCv.out.2.2.1], by simp [HCv.out.2.2.2]⟩ (by rw [HCv.out.2.1]; exact hy7') (by rw [HCv.out.2.2.1]; exact Bys.nil _ _) (by rw [HCv.out.2.1]; exact hy7') (by rw [HCv.out.2.2.1]; exact Bys.nil _ _) hnew7 (fun a ha => by cases ha) (RecsIn.nil _ _) (by simp [HCv.out.2.2.2])
    have hP8 := (hP6.stay HB7.out).chg z3 (fun x hx e => by have e' : x = gv := e; rw [e'] at hx; exact hgF hx)
    refine ⟨by rw [HP0.out]; rfl, fun _ => ⟨gs6, pv6, A6, c6, _, ⟨z1, hP8, fun k hk hx => ?_⟩, fun k hk => ?_, ?_⟩, fun e => absurd HP0.out e⟩
    · rcases z2 k hk.symm with e | e
      · rw [e] at hx; exact hgF hx
      · have := hP6.blocks k hx; omega
    · rcases hk with hk | hk
      · exact (hF6 k hk).imp .inl id
      · rcases z2 k (.inr hk) with e | e
        · exact .inl (.inr e)
        · exact .inr (Nat.le_trans HC7.out.size e)
    · exact (HC7.out.below_then HB7.out (Nat.le_refl _)).andThen z3 (fun k hk => .inl (.inr hk))
  · have HP0 := Lib.hid hp0
    have q6 := HZ.out.2 (by rw [hp0]; decide)
    have HQ6 := Lib.hid q6
    rw [hp0]
    clear hp0 q6
    go_wp2_with fail
    go_ret
    obtain ⟨gs6, pv6, A6, c6, hP6, hF6⟩ := HPl.out
    refine ⟨by rw [HP0.out]; rfl, (fun e => by rw [HP0.out] at e; cases e), fun _ => ⟨gs6, pv6, A6, c6, h0, s7, s8, s9, hP6, HQ6.out, fun hx => ?_, fun k hk => (hF6 k hk).imp .inl id, HC7.out⟩⟩
    rcases hF6 gv hx with e | e
    · exact H0.out.2.1 e
    · omega
end Go.Proofs.Ytkkncijbedfdfaa

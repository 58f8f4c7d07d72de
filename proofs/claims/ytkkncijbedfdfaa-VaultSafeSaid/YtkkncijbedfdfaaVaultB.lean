/-
  Pieces are written, then a head: (*vault.Vault).commit.
-/
import Derived.Test.YtkkncijbedfdfaaVaultA
namespace Go.Proofs.Ytkkncijbedfdfaa
open Go.RowKit
set_option linter.unusedVariables false

theorem pieces_head (h : Hd) : pieces (h.gen % 2) (formH h) = [(h.gen % 2, headS h)] := by
  unfold pieces
  rw [formH_len, show secs 64 = 1 from rfl]
  show [((h.gen % 2 + 0), chunk (formH h) 0)] = _
  have : chunk (formH h) 0 = headS h := by
    apply Subtype.ext
    show chunkL (formH h) 0 = formH h
    unfold chunkL
    rw [Nat.zero_mul, List.drop_zero, List.take_of_length_le (by rw [formH_len]; exact Nat.le_refl _), formH_len]
    simp
  rw [this]; rfl
theorem pc_built (z : Int) (A : Option Addr) (n c : Nat) : Try.prog.built 77 [(0, .int .i64 z), (1, .slice A n c)] = some #[.int .i64 z, .slice A n c] := by kernel_rfl
attribute [go_sem] pc_built
/-- What a commit leaves: the plate, and the vault's block. -/
def CommitPost (w : World) (F : Nat → Prop) (gv g room : Nat) (h0 h : Hd) (s7 s8 s9 : Value) (br : Bool) (p : Int × Ps) (e : Ending) (w' : World) : Prop :=
  e = .returned (.int .i64 p.1) ∧ (∃ gs pv A c, PlAt w' g gs pv A c p.2 ∧ (∀ x, PS g gs pv A x → F x ∨ w.heap.size ≤ x)) ∧ Chg (fun x => F x ∨ x = gv) w w' ∧ (p.1 = 0 → row w' gv = some (rawC h g room s7 s8 s9 br)) ∧ (p.1 ≠ 0 → row w' gv = some (rawC h0 g room s7 s8 s9 true))
theorem commit_fin {w w0 W wX : World} {F : Nat → Prop} {gv g : Nat} {s : Ps} (hb : Below w.heap.size w w0) (hn : ¬ F gv) (hg : gv < w.heap.size) (h : PlTo w0 F g s W) (hc : Chg (fun x => x = gv) W wX) :
    (∃ gs pv A c, PlAt wX g gs pv A c s ∧ (∀ x, PS g gs pv A x → F x ∨ w.heap.size ≤ x)) ∧ Chg (fun x => F x ∨ x = gv) w wX := by
  obtain ⟨gs1, pv1, A1, c1, hP1, hF1, hC1⟩ := h
  refine ⟨⟨gs1, pv1, A1, c1, hP1.chg hc (fun x hx e => ?_), fun x hx => ?_⟩, Chg.below_before hb ((hC1.mono (fun x hx => .inl hx)).andThen hc (fun x hx => .inl (.inr hx)))⟩
  · subst e
    rcases hF1 _ hx with e | e
    · exact hn e
    · have := hb.size; omega
  · rcases hF1 x hx with e | e
    · exact .inl e
    · exact .inr (Nat.le_trans hb.size e)
set_option maxHeartbeats 8000000 in
set_option maxRecDepth 100000 in
theorem commit_any (gv g gs : Nat) (pv : Value) (A : Option Addr) (c : Nat) (s : Ps) (hd : s.down = false) (hp : s.pend = []) (room : Nat) (h0 h : Hd) (ho : h.Ok room) (s7 s8 s9 : Value) (br : Bool) (o n cD b : Nat) (D : Option Addr) (bs : List Nat) (hbs : bs.length = n) (hn : n ≤ 10000000) (hcap : n ≤ cD) (hcD : cD ≤ 9223372036854775807) (hos : o + secs n ≤ s.sure.length) (h2s : 2 ≤ s.sure.length) (w : World) (hr : row w b = some (PieceC o D n cD)) (hD : Bys w D bs) (hDn : 0 < n → ∀ a, D = some a → ¬ PS g gs pv A a.block) (hv : row w gv = some (rawC h0 g room s7 s8 s9 br)) (hgn : ¬ PS g gs pv A gv) (hP : PlAt w g gs pv A c s) :
    Calls Try.prog 30 #[.pointer (some ⟨gv, 0, none⟩), .agg (headC h), .slice (some ⟨b, 0, none⟩) 1 1] w (CommitPost w (PS g gs pv A) gv g room h0 h s7 s8 s9 br (commitP s (pieces o bs) (h.gen % 2, headS h))) := by
  have hfs := hP.fews
  have r0 : row (w.alloc (.cells (headC h) 40)) w.heap.size = some (headC h) := (by (repeat (first | assumption | (refine row_at _ _ _ _ ?_; first | rfl | (simp only [World.size_alloc]; done) | (simp only [World.size_alloc]; omega)) | (refine (row_past _ _ _ ?_).trans ?_; (focus (first | exact Nat.lt_succ_self _ | ((repeat rw [World.size_alloc]); omega) | (simp; done) | (simp; omega) | omega))) | rw [row_drewN] | rw [row_drew])); (first | done | fail))
  have q0 : row (w.alloc (.cells (headC h) 40)) gv = some (rawC h0 g room s7 s8 s9 br) := (row_past _ _ _ (row_lt hv)).trans hv
  have b0 : row (w.alloc (.cells (headC h) 40)) b = some (PieceC o D n cD) := (row_past _ _ _ (row_lt hr)).trans hr
  have hB0 : Below w.heap.size w (w.alloc (.cells (headC h) 40)) := (by (repeat (first | exact Below.refl _ _ | assumption | (refine Below.allocT ?_ _) | refine Below.drew ?_ | refine below_drewN ?_ _ | (refine Below.then ?_ (by assumption)) | (refine Below.setRow ?_ ?_ _; rotate_left; (focus (first | exact Nat.lt_succ_self _ | ((repeat rw [World.size_alloc]); omega) | (simp; done) | (simp; omega) | omega))) | (refine Below.setCell ?_ ?_ _; rotate_left; (focus (first | exact Nat.lt_succ_self _ | ((repeat rw [World.size_alloc]); omega) | (simp; done) | (simp; omega) | omega))) | (refine Below.then' ?_ (by assumption) ?_; rotate_left; (focus (first | exact Nat.lt_succ_self _ | ((repeat rw [World.size_alloc]); omega) | (simp; done) | (simp; omega) | omega))) | fail)); (first | done | fail))
  have hbox : ¬ PS g gs pv A w.heap.size := fun e => Nat.lt_irrefl _ (hP.blocks _ e)
  have hP0 := hP.stay hB0
  have hs0 : w.heap.size < (w.alloc (.cells (headC h) 40)).heap.size := by rw [World.size_alloc]; omega
  have HGv := Lib.hid (row_lt hv)
  generalize hw0 : w.alloc (.cells (headC h) 40) = w0 at *
  have HPut := Lib.hid (put_any gv g gs pv A c s hd o n cD b D bs hbs hn hcap hcD hos (by rw [hp, List.length_nil]; omega) w0 b0 (hD.stay hB0) hDn (row_cell q0 5) (Nat.lt_of_lt_of_le (row_lt hv) hB0.size) hgn hP0)
  have hcs := putP_cases (pieces o bs) s hd
  have HB0 := Lib.hid hB0
  have HR0 := Lib.hid (And.intro r0 q0)
  have HGn := Lib.hid (And.intro hgn hbox)
  have HO := Lib.hid ho
  have H2s := Lib.hid h2s
  have hsz := Lib.hid (show (putP s (pieces o bs)).2.sure.length = s.sure.length by
    rcases hcs with ⟨_, _, _, e⟩ | ⟨_, _, e, _⟩
    · rw [e, fold_len]
    · rw [e])
  clear r0 q0 b0 hB0 hP0 hP hv hr hD hDn hgn hbox ho hs0 h2s hd
  rcases hcs with ⟨a1, a2, a3, a4⟩ | ⟨a1, a2, a3, _⟩
  · have HV : Hid (commitP s (pieces o bs) (h.gen % 2, headS h) = putP (putP s (pieces o bs)).2 [(h.gen % 2, headS h)]) := Lib.hid (by
      unfold commitP
      rw [if_pos a1])
    rw [a1] at HPut
    generalize (putP s (pieces o bs)).2 = s1 at *
    have HS1 := Lib.hid (And.intro a2 a3)
    clear a1 a2 a3 a4
    go_enter Try.func30, Try.ntmps30
    go_upto_region 1 with fail
    clear hw0
    go_wp2_with fail
    refine (HPut.out).mono ?_
    rintro e w1 ⟨rfl, gs1, pv1, A1, c1, hP1, hF1, hC1⟩
    clear HPut
    have q1 := (hC1.row (row_lt HR0.out.2) HGn.out.1).trans HR0.out.2
    have r1 := (hC1.row (row_lt HR0.out.1) HGn.out.2).trans HR0.out.1
    have hg0 := row_lt HR0.out.2
    have hb0 := row_lt HR0.out.1
    have hn1 : ¬ PS g gs1 pv1 A1 gv ∧ ¬ PS g gs1 pv1 A1 w.heap.size := ⟨fun hx => by
      rcases hF1 _ hx with e | e
      · exact HGn.out.1 e
      · omega, fun hx => by
      rcases hF1 _ hx with e | e
      · exact HGn.out.2 e
      · omega⟩
    have HE := Lib.hid (And.intro hP1 (And.intro hF1 hC1))
    have HQ := Lib.hid (And.intro q1 r1)
    have HN1 := Lib.hid hn1
    have HPut2 : Hid (∀ W b A' cc (z : Int), z = ((h.gen % 2 : Nat) : Int) → Below w1.heap.size w1 W → row W b = some #[.int .i64 z, .slice A' (formH h).length cc] → OwnB W (.slice A' (formH h).length cc) (formH h) → (∀ a, A' = some a → w1.heap.size ≤ a.block) → Calls Try.prog 42 #[.pointer (some ⟨gv, 0, none⟩), .slice (some ⟨b, 0, none⟩) 1 1] W fun e w' => e = .returned (.int .i64 (putP s1 [(h.gen % 2, headS h)]).1) ∧ PlTo W (PS g gs1 pv1 A1) g (putP s1 [(h.gen % 2, headS h)]).2 w') := Lib.hid fun W b A' cc z hz hb hr hO hA => by
      subst hz
      obtain ⟨A2, c2, e2, hBy, hl1, hl2, hl3, _⟩ := hO.form
      rw [Value.slice.injEq] at e2
      have hBy' : Bys W A' (formH h) := by rw [e2.1]; exact hBy
      have := put_any gv g gs1 pv1 A1 c1 s1 HS1.out.1 (h.gen % 2) (formH h).length cc b A' (formH h) rfl (by rw [formH_len]; omega) (by rw [e2.2.2]; exact hl2) (by rw [e2.2.2]; exact hl3) (by rw [formH_len, hsz.out, show secs 64 = 1 from rfl]; have := H2s.out; omega) (by rw [HS1.out.2, formH_len, List.length_nil, show secs 64 = 1 from rfl]; omega) W hr hBy' (fun _ a ha hp => by have h1 := HE.out.1.blocks _ hp; have h2 := hA a ha; omega) ((hb.cell (p := ⟨gv, 5, none⟩) (row_lt HQ.out.1)).trans (row_cell HQ.out.1 5)) (Nat.lt_of_lt_of_le (row_lt HQ.out.1) hb.size) HN1.out.1 (HE.out.1.stay hb)
      rw [pieces_head] at this
      exact this
    have HM : Hid (∀ W, Chg (PS g gs1 pv1 A1) w1 W → W.cell? ⟨w.heap.size, 0, none⟩ = some (.int .u64 (h.gen : Int)) ∧ row W w.heap.size = some (headC h)) := Lib.hid fun W hc => by
      have hr := (hc.row (row_lt HQ.out.2) HN1.out.2).trans HQ.out.2
      exact ⟨row_cell hr 0, hr⟩
    have hg2 := HO.out.gen
    have HTm : Hid (IntKind.i64.wrap ((h.gen : Int).tmod 2) = ((h.gen % 2 : Nat) : Int)) := Lib.hid (by
      rw [Int.tmod_eq_emod_of_nonneg (by omega), IntWalk.i64_in _ (by omega)]; omega)
    clear q1 r1 hP1 hF1 hC1 hg0 hb0 hn1 hg2
    go_upto_region 3 with fail
    go_region_held3 (fun W => W.cell? ⟨w.heap.size, 0, none⟩ = some (.int .u64 (h.gen : Int)) ∧ row W w.heap.size = some (headC h)) (first | exact HM.out _ hC6 | exact HM.out _ (Chg.of_below (show Below w1.heap.size w1 _ from (by (repeat (first | exact Below.refl _ _ | assumption | (refine Below.allocT ?_ _) | refine Below.drew ?_ | refine below_drewN ?_ _ | (refine Below.then ?_ (by assumption)) | (refine Below.setRow ?_ ?_ _; rotate_left; (focus (first | exact Nat.lt_succ_self _ | ((repeat rw [World.size_alloc]); omega) | (simp; done) | (simp; omega) | omega))) | (refine Below.setCell ?_ ?_ _; rotate_left; (focus (first | exact Nat.lt_succ_self _ | ((repeat rw [World.size_alloc]); omega) | (simp; done) | (simp; omega) | omega))) | (refine Below.then' ?_ (by assumption) ?_; rotate_left; (focus (first | exact Nat.lt_succ_self _ | ((repeat rw [World.size_alloc]); omega) | (simp; done) | (simp; omega) | omega))) | fail)); (first | done | fail))) (Nat.le_refl _))) (first
      | (go_at_call 43; refine (form_any h room HO.out _).mono ?_; rintro e w3 ⟨A3, c3, rfl, hO3, hA3, hb3⟩; have hA3' : ∀ a, A3 = some a → w1.heap.size ≤ a.block := (fun a ha => Nat.le_trans (Below.size (show Below w1.heap.size w1 _ from (by (repeat (first | exact Below.refl _ _ | assumption | (refine Below.allocT ?_ _) | refine Below.drew ?_ | refine below_drewN ?_ _ | (refine Below.then ?_ (by assumption)) | (refine Below.setRow ?_ ?_ _; rotate_left; (focus (first | exact Nat.lt_succ_self _ | ((repeat rw [World.size_alloc]); omega) | (simp; done) | (simp; omega) | omega))) | (refine Below.setCell ?_ ?_ _; rotate_left; (focus (first | exact Nat.lt_succ_self _ | ((repeat rw [World.size_alloc]); omega) | (simp; done) | (simp; omega) | omega))) | (refine Below.then' ?_ (by assumption) ?_; rotate_left; (focus (first | exact Nat.lt_succ_self _ | ((repeat rw [World.size_alloc]); omega) | (simp; done) | (simp; omega) | omega))) | fail)); (first | done | fail)))) (hA3 a ha)); replace hb3 : Below w1.heap.size w1 w3 := (by (repeat (first | exact Below.refl _ _ | assumption | (refine Below.allocT ?_ _) | refine Below.drew ?_ | refine below_drewN ?_ _ | (refine Below.then ?_ (by assumption)) | (refine Below.setRow ?_ ?_ _; rotate_left; (focus (first | exact Nat.lt_succ_self _ | ((repeat rw [World.size_alloc]); omega) | (simp; done) | (simp; omega) | omega))) | (refine Below.setCell ?_ ?_ _; rotate_left; (focus (first | exact Nat.lt_succ_self _ | ((repeat rw [World.size_alloc]); omega) | (simp; done) | (simp; omega) | omega))) | (refine Below.then' ?_ (by assumption) ?_; rotate_left; (focus (first | exact Nat.lt_succ_self _ | ((repeat rw [World.size_alloc]); omega) | (simp; done) | (simp; omega) | omega))) | fail)); (first | done | fail)))
      | (go_at_call 42; refine (HPut2.out _ _ _ _ (IntKind.i64.wrap ((h.gen : Int).tmod 2)) HTm.out (by (repeat (first | exact Below.refl _ _ | assumption | (refine Below.allocT ?_ _) | refine Below.drew ?_ | refine below_drewN ?_ _ | (refine Below.then ?_ (by assumption)) | (refine Below.setRow ?_ ?_ _; rotate_left; (focus (first | exact Nat.lt_succ_self _ | ((repeat rw [World.size_alloc]); omega) | (simp; done) | (simp; omega) | omega))) | (refine Below.setCell ?_ ?_ _; rotate_left; (focus (first | exact Nat.lt_succ_self _ | ((repeat rw [World.size_alloc]); omega) | (simp; done) | (simp; omega) | omega))) | (refine Below.then' ?_ (by assumption) ?_; rotate_left; (focus (first | exact Nat.lt_succ_self _ | ((repeat rw [World.size_alloc]); omega) | (simp; done) | (simp; omega) | omega))) | fail)); (first | done | fail)) (row_at _ _ _ _ rfl) (hO3.stay (by (repeat (first | exact Below.refl _ _ | assumption | (refine Below.allocT ?_ _) | refine Below.drew ?_ | refine below_drewN ?_ _ | (refine Below.then ?_ (by assumption)) | (refine Below.setRow ?_ ?_ _; rotate_left; (focus (first | exact Nat.lt_succ_self _ | ((repeat rw [World.size_alloc]); omega) | (simp; done) | (simp; omega) | omega))) | (refine Below.setCell ?_ ?_ _; rotate_left; (focus (first | exact Nat.lt_succ_self _ | ((repeat rw [World.size_alloc]); omega) | (simp; done) | (simp; omega) | omega))) | (refine Below.then' ?_ (by assumption) ?_; rotate_left; (focus (first | exact Nat.lt_succ_self _ | ((repeat rw [World.size_alloc]); omega) | (simp; done) | (simp; omega) | omega))) | fail)); (first | done | fail))) hA3').mono ?_; rintro e w6 ⟨rfl, hT⟩; have hT6 := PlTo.trans (F := PS g gs1 pv1 A1) (fun x hx => .inl hx) (Chg.of_below (show Below w1.heap.size w1 _ from (by (repeat (first | exact Below.refl _ _ | assumption | (refine Below.allocT ?_ _) | refine Below.drew ?_ | refine below_drewN ?_ _ | (refine Below.then ?_ (by assumption)) | (refine Below.setRow ?_ ?_ _; rotate_left; (focus (first | exact Nat.lt_succ_self _ | ((repeat rw [World.size_alloc]); omega) | (simp; done) | (simp; omega) | omega))) | (refine Below.setCell ?_ ?_ _; rotate_left; (focus (first | exact Nat.lt_succ_self _ | ((repeat rw [World.size_alloc]); omega) | (simp; done) | (simp; omega) | omega))) | (refine Below.then' ?_ (by assumption) ?_; rotate_left; (focus (first | exact Nat.lt_succ_self _ | ((repeat rw [World.size_alloc]); omega) | (simp; done) | (simp; omega) | omega))) | fail)); (first | done | fail))) (Nat.le_refl _)) hT; have hC6 : Chg (PS g gs1 pv1 A1) w1 w6 := (by obtain ⟨_, _, _, _, _, _, hc⟩ := hT6; exact hc)))
    have HT := Lib.hid hT6
    have q6 := (hC6.row (row_lt HQ.out.1) HN1.out.1).trans HQ.out.1
    have r6 := (hC6.row (row_lt HQ.out.2) HN1.out.2).trans HQ.out.2
    have HQ6 := Lib.hid q6
    have hpc := putP_cases [(h.gen % 2, headS h)] s1 HS1.out.1
    have HFin : Hid (PlTo w0 (PS g gs pv A) g (putP s1 [(h.gen % 2, headS h)]).2 w6) := Lib.hid (PlTo.trans HE.out.2.1 HE.out.2.2 HT.out)
    clear hT hT6 hC6 HM HPut2 hO3 hA3' hb3 hA3
    rcases hpc with ⟨b1, _⟩ | ⟨b1, _⟩
    · rw [b1]
      have HB1 := Lib.hid b1
      clear b1
      go_wp2_with fail
      go_ret
      have hc2 : Chg (fun x => x = gv) w6 (putCs w6 gv (headC h)) := putHd_chg w6 gv h
      obtain ⟨z1, z2⟩ := commit_fin HB0.out HGn.out.1 HGv.out HFin.out hc2
      rw [HV.out]
      exact ⟨by rw [HB1.out]; rfl, z1, z2, fun _ => putHd_row HQ6.out, fun e => absurd HB1.out e⟩
    · rw [b1]
      have HB1 := Lib.hid b1
      have k10 : w6.cell? ⟨gv, 10, none⟩ = some (.bool br) := row_cell q6 10
      have f10 := row_frozen q6 10
      clear b1
      go_wp2_with fail
      go_ret
      have hc2 : Chg (fun x => x = gv) w6 (w6.setCell ⟨gv, 10, none⟩ (.bool true)) := (Chg.refl (fun x => x = gv) _).setCell (p := ⟨gv, 10, none⟩) (.inl rfl) _
      obtain ⟨z1, z2⟩ := commit_fin HB0.out HGn.out.1 HGv.out HFin.out hc2
      rw [HV.out]
      exact ⟨by rw [HB1.out]; rfl, z1, z2, (fun e => by rw [HB1.out] at e; cases e), fun _ => (row_set HQ6.out 10 _).trans rfl⟩
  · have HV : Hid (commitP s (pieces o bs) (h.gen % 2, headS h) = (280, (putP s (pieces o bs)).2)) := Lib.hid (by
      unfold commitP
      rw [if_neg (by rw [a1]; decide), ← a1])
    rw [a1] at HPut
    generalize (putP s (pieces o bs)).2 = s1 at *
    clear a1 a2 a3
    go_enter Try.func30, Try.ntmps30
    go_upto_region 1 with fail
    go_wp2_with fail
    refine (HPut.out).mono ?_
    rintro e w1 ⟨rfl, gs1, pv1, A1, c1, hP1, hF1, hC1⟩
    have q1 := (hC1.row (row_lt HR0.out.2) HGn.out.1).trans HR0.out.2
    have k10 : w1.cell? ⟨gv, 10, none⟩ = some (.bool br) := row_cell q1 10
    have f10 := row_frozen q1 10
    have HE := Lib.hid (And.intro q1 (And.intro hP1 (And.intro hF1 hC1)))
    clear q1 hP1 hF1 hC1
    go_wp2_with fail
    go_ret
    obtain ⟨q1, hP1, hF1, hC1⟩ := HE.out
    have hc2 : Chg (fun x => x = gv) w1 (w1.setCell ⟨gv, 10, none⟩ (.bool true)) := (Chg.refl (fun x => x = gv) _).setCell (p := ⟨gv, 10, none⟩) (.inl rfl) _
    obtain ⟨z1, z2⟩ := commit_fin HB0.out HGn.out.1 HGv.out ⟨gs1, pv1, A1, c1, hP1, hF1, hC1⟩ hc2
    rw [HV.out]
    exact ⟨rfl, z1, z2, (fun e => by cases e), fun _ => (row_set q1 10 _).trans rfl⟩
end Go.Proofs.Ytkkncijbedfdfaa

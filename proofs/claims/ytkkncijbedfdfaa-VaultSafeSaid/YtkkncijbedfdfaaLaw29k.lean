/-
  Layer 29: what stands in memory beside a vault in play: what it is to have, kept through its calls.
-/
import Derived.Test.YtkkncijbedfdfaaLaw29w
namespace Go.Proofs.Ytkkncijbedfdfaa
open Go.RowKit
set_option linter.unusedVariables false

/-! ### What is kept where only a vault's own blocks turn -/
theorem SliceOf.chg2 {C : Nat} {α : Type} {f : α → Array Value} {W W' : World} {A : Option Addr} {l : List α} {S : Nat → Prop} (h : SliceOf C f W A l) (hc : Chg S W W') (hS : 0 < l.length → ∀ a, A = some a → ¬ S a.block) : SliceOf C f W' A l := fun hn => by
  obtain ⟨b, off, e, hg, hx⟩ := h hn
  exact ⟨b, off, e, Nat.lt_of_lt_of_le hg hc.size, fun i x hi j v hv => (hc.cell hg (hS hn _ e) _).trans (hx i x hi j v hv)⟩
theorem SliceOf.lt2 {C : Nat} {α : Type} {f : α → Array Value} {W : World} {A : Option Addr} {l : List α} (h : SliceOf C f W A l) (hp : 0 < l.length) : ∀ a, A = some a → a.block < W.heap.size := fun a ha => by
  obtain ⟨b, off, e, hg, _⟩ := h hp
  rw [e] at ha; cases ha; exact hg
/-- The blocks of what is to be had. -/
def HB (u : Hv) : Nat → Prop := fun k => (0 < u.snap.length ∧ ∃ a, u.a7 = some a ∧ a.block = k) ∨ (0 < u.rs.length ∧ ∃ a, u.a9 = some a ∧ a.block = k) ∨ ∃ r ∈ u.rs, 0 < r.bs.length ∧ ∃ a, r.a = some a ∧ a.block = k
structure HvIn (W : World) (N : Nat → Prop) (u : Hv) : Prop where
  at_ : HvAt W u
  off : ∀ k, HB u k → ¬ N k
theorem HvIn.lt {W : World} {N : Nat → Prop} {u : Hv} (h : HvIn W N u) : ∀ k, HB u k → k < W.heap.size := fun k hk => by
  rcases hk with ⟨hp, a, ha, rfl⟩ | ⟨hp, a, ha, rfl⟩ | ⟨r, hr, hp, a, ha, rfl⟩
  · exact h.at_.snap.lt hp a ha
  · exact h.at_.ls.sl.lt2 hp a ha
  · exact (h.at_.ls.bys r hr).lt hp a ha
theorem HvIn.step {W W' : World} {N N' : Nat → Prop} {u : Hv} (h : HvIn W N u) (hc : Chg N W W') (hN : ∀ k, N' k → N k ∨ W.heap.size ≤ k) : HvIn W' N' u :=
  ⟨⟨h.at_.snap.chg' hc (fun hp a ha => h.off _ (.inl ⟨hp, a, ha, rfl⟩)), ⟨h.at_.ls.sl.chg2 hc (fun hp a ha => h.off _ (.inr (.inl ⟨hp, a, ha, rfl⟩))), fun r hr => (h.at_.ls.bys r hr).chg' hc (fun hp a ha => h.off _ (.inr (.inr ⟨r, hr, hp, a, ha, rfl⟩))), h.at_.ls.len⟩⟩, fun k hk hn => by
    have h1 := h.lt k hk
    rcases hN k hn with e | e
    · exact h.off k hk e
    · omega⟩
def Small (u : Hv) (q : Nat) : Prop := u.snap.length ≤ 3000 ∧ u.rs.length ≤ q ∧ ∀ r ∈ u.rs, r.bs.length ≤ 3000
theorem Small.mono {u : Hv} {q q' : Nat} (h : Small u q) (hq : q ≤ q') : Small u q' := ⟨h.1, Nat.le_trans h.2.1 hq, h.2.2⟩
def Nb (N : Nat → Prop) (gS gM : Nat) : Nat → Prop := fun k => N k ∨ k = gS ∨ k = gM
/-- What is sure and what may be, in their boxes; beside the blocks N of a vault. -/
structure Sf (w1 W : World) (gS gM q : Nat) (N : Nat → Prop) (uS uM : Hv) : Prop where
  low : ∀ k, N k → w1.heap.size ≤ k
  top : ∀ k, N k → k < W.heap.size
  bel : Below w1.heap.size w1 W
  rS : row W gS = some uS.cells
  rM : row W gM = some uM.cells
  nS : ¬ N gS
  nM : ¬ N gM
  hS : HvIn W (Nb N gS gM) uS
  hM : HvIn W (Nb N gS gM) uM
  bS : Small uS q
  bM : Small uM q
  lS : w1.heap.size ≤ gS
  lM : w1.heap.size ≤ gM
  ne : gS ≠ gM
/-- What a call on a vault leaves: only N's blocks have turned; N' are the vault's now. -/
structure Ch (W W' : World) (N N' : Nat → Prop) : Prop where
  chg : Chg N W W'
  sub : ∀ k, N' k → N k ∨ W.heap.size ≤ k
  top : ∀ k, N' k → k < W'.heap.size
theorem Ch.below {W W' W'' : World} {N N' : Nat → Prop} (h : Ch W' W'' N N') (hb : Below W.heap.size W W') : Ch W W'' N N' := ⟨Chg.below_before hb h.chg, fun k hk => (h.sub k hk).imp id (fun e => Nat.le_trans hb.size e), h.top⟩
theorem Ch.quiet {W W' : World} {N : Nat → Prop} (ht : ∀ k, N k → k < W.heap.size) (hb : Below W.heap.size W W') : Ch W W' N N := ⟨Chg.of_below hb (Nat.le_refl _), fun k hk => .inl hk, fun k hk => Nat.lt_of_lt_of_le (ht k hk) hb.size⟩
theorem Ch.then {W W' W'' : World} {N N' N'' : Nat → Prop} (h : Ch W W' N N') (h' : Ch W' W'' N' N'') : Ch W W'' N N'' := ⟨h.chg.andThen h'.chg h.sub, fun k hk => by
  rcases h'.sub k hk with e | e
  · exact h.sub k e
  · exact .inr (Nat.le_trans h.chg.size e), h'.top⟩
theorem Ch.row {W W' : World} {N N' : Nat → Prop} (h : Ch W W' N N') {g : Nat} {cs : Array Value} (hr : row W g = some cs) (hn : ¬ N g) : row W' g = some cs ∧ ¬ N' g := ⟨(h.chg.row (row_lt hr) hn).trans hr, fun e => by
  have := row_lt hr
  rcases h.sub g e with e | e
  · exact hn e
  · omega⟩
theorem Ch.nb {W W' : World} {N N' : Nat → Prop} (h : Ch W W' N N') (gS gM : Nat) : Chg (Nb N gS gM) W W' ∧ ∀ k, Nb N' gS gM k → Nb N gS gM k ∨ W.heap.size ≤ k := ⟨h.chg.mono (fun k hk => .inl hk), fun k hk => by
  rcases hk with hk | hk
  · exact (h.sub k hk).imp .inl id
  · exact .inl (.inr hk)⟩
theorem Sf.step {w1 W W' : World} {gS gM q : Nat} {N N' : Nat → Prop} {uS uM : Hv} (h : Sf w1 W gS gM q N uS uM) (hc : Ch W W' N N') : Sf w1 W' gS gM q N' uS uM :=
  ⟨fun k hk => by
    rcases hc.sub k hk with e | e
    · exact h.low k e
    · exact Nat.le_trans h.bel.size e, hc.top, h.bel.trans (hc.chg.toBelow h.low h.bel.size), (hc.row h.rS h.nS).1, (hc.row h.rM h.nM).1, (hc.row h.rS h.nS).2, (hc.row h.rM h.nM).2, h.hS.step (hc.nb gS gM).1 (hc.nb gS gM).2, h.hM.step (hc.nb gS gM).1 (hc.nb gS gM).2, h.bS, h.bM, h.lS, h.lM, h.ne⟩
theorem Sf.stay {w1 W W' : World} {gS gM q : Nat} {N : Nat → Prop} {uS uM : Hv} (h : Sf w1 W gS gM q N uS uM) (hb : Below W.heap.size W W') : Sf w1 W' gS gM q N uS uM := h.step (Ch.quiet h.top hb)
theorem Sf.more {w1 W : World} {gS gM q q' : Nat} {N : Nat → Prop} {uS uM : Hv} (h : Sf w1 W gS gM q N uS uM) (hq : q ≤ q') : Sf w1 W gS gM q' N uS uM := ⟨h.low, h.top, h.bel, h.rS, h.rM, h.nS, h.nM, h.hS, h.hM, h.bS.mono hq, h.bM.mono hq, h.lS, h.lM, h.ne⟩
theorem HvIn.far {W W' : World} {N : Nat → Prop} {u : Hv} {g : Nat} (h : HvIn W N u) (hg : N g) (hc : Chg (only g) W W') : HvIn W' N u :=
  h.step (hc.mono (S' := N) (fun k hk => by have e : k = g := hk; rw [e]; exact hg)) (fun k hk => .inl hk)
theorem size_setRowV (W : World) (g : Nat) (cs : Array Value) : (W.setRow g cs).heap.size = W.heap.size := by simp [World.setRow]
theorem Sf.setS {w1 W : World} {gS gM q : Nat} {N : Nat → Prop} {uS uM u : Hv} (h : Sf w1 W gS gM q N uS uM) (hu : HvIn W (Nb N gS gM) u) (hs : Small u q) : Sf w1 (W.setRow gS u.cells) gS gM q N u uM :=
  ⟨h.low, fun k hk => by rw [size_setRowV]; exact h.top k hk, Below.setRow h.bel h.lS _, row_setRow h.rS, (row_setRow_far h.ne).trans h.rM, h.nS, h.nM, hu.far (.inr (.inl rfl)) (chg_setRow1 _ _ _), h.hM.far (.inr (.inl rfl)) (chg_setRow1 _ _ _), hs, h.bM, h.lS, h.lM, h.ne⟩
theorem Sf.setM {w1 W : World} {gS gM q : Nat} {N : Nat → Prop} {uS uM u : Hv} (h : Sf w1 W gS gM q N uS uM) (hu : HvIn W (Nb N gS gM) u) (hs : Small u q) : Sf w1 (W.setRow gM u.cells) gS gM q N uS u :=
  ⟨h.low, fun k hk => by rw [size_setRowV]; exact h.top k hk, Below.setRow h.bel h.lM _, (row_setRow_far (Ne.symm h.ne)).trans h.rS, row_setRow h.rM, h.nS, h.nM, h.hS.far (.inr (.inr rfl)) (chg_setRow1 _ _ _), hu.far (.inr (.inr rfl)) (chg_setRow1 _ _ _), h.bS, hs, h.lS, h.lM, h.ne⟩
theorem bys_box {W : World} {A : Option Addr} {l : List Nat} {a : Addr} {u : Hv} (h : Bys W A l) (hp : 0 < l.length) (ha : A = some a) (hr : row W a.block = some u.cells) : False := by
  obtain ⟨b, off, e, _, hc⟩ := h hp
  rw [e] at ha
  cases ha
  have h1 := hc 0 hp
  rw [row_cell hr] at h1
  unfold Hv.cells at h1
  match off, h1 with
  | 0, h1 => simp at h1
  | 1, h1 => simp at h1
  | k + 2, h1 => simp at h1
/-! ### The vault in play -/
def VaSt (W : World) (N : Nat → Prop) (gv g : Nat) (s : Ps) (room : Nat) (v : Vt) : Prop := ∃ gs pv A c x, VaAt W gv g gs pv A c s room false v x ∧ ∀ k, FS g gs pv A gv x k → N k
def BrSt (W : World) (N : Nat → Prop) (gv g : Nat) (s : Ps) (room : Nat) : Prop := ∃ gs pv A c h0 s7 s8 s9, PlAt W g gs pv A c s ∧ row W gv = some (rawC h0 g room s7 s8 s9 true) ∧ ¬ PS g gs pv A gv ∧ ∀ k, PS g gs pv A k ∨ k = gv → N k
def PlSt (W : World) (N : Nat → Prop) (g : Nat) (s : Ps) : Prop := ∃ gs pv A c, PlAt W g gs pv A c s ∧ ∀ k, PS g gs pv A k → N k
theorem VaSt.pl {W : World} {N : Nat → Prop} {gv g : Nat} {s : Ps} {room : Nat} {v : Vt} (h : VaSt W N gv g s room v) : PlSt W N g s := by
  obtain ⟨gs, pv, A, c, x, h1, h2⟩ := h
  exact ⟨gs, pv, A, c, h1.pl, fun k hk => h2 k (.inl hk)⟩
theorem BrSt.pl {W : World} {N : Nat → Prop} {gv g : Nat} {s : Ps} {room : Nat} (h : BrSt W N gv g s room) : PlSt W N g s := by
  obtain ⟨gs, pv, A, c, h0, s7, s8, s9, h1, h2, h3, h4⟩ := h
  exact ⟨gs, pv, A, c, h1, fun k hk => h4 k (.inl hk)⟩
theorem VaSt.stay {W W' : World} {N : Nat → Prop} {gv g : Nat} {s : Ps} {room : Nat} {v : Vt} (h : VaSt W N gv g s room v) (hb : Below W.heap.size W W') : VaSt W' N gv g s room v := by
  obtain ⟨gs, pv, A, c, x, h1, h2⟩ := h
  exact ⟨gs, pv, A, c, x, h1.stay hb, h2⟩
theorem BrSt.stay {W W' : World} {N : Nat → Prop} {gv g : Nat} {s : Ps} {room : Nat} (h : BrSt W N gv g s room) (hb : Below W.heap.size W W') : BrSt W' N gv g s room := by
  obtain ⟨gs, pv, A, c, h0, s7, s8, s9, h1, h2, h3, h4⟩ := h
  exact ⟨gs, pv, A, c, h0, s7, s8, s9, h1.stay hb, (row_below hb (row_lt h2)).trans h2, h3, h4⟩
theorem PlSt.stay {W W' : World} {N : Nat → Prop} {g : Nat} {s : Ps} (h : PlSt W N g s) (hb : Below W.heap.size W W') : PlSt W' N g s := by
  obtain ⟨gs, pv, A, c, h1, h2⟩ := h
  exact ⟨gs, pv, A, c, h1.stay hb, h2⟩
/-- Is a box beside them written, they are as they were. -/
theorem VaSt.box {W W' : World} {N : Nat → Prop} {gv g : Nat} {s : Ps} {room : Nat} {v : Vt} {b : Nat} {u : Hv} (h : VaSt W N gv g s room v) (hc : Chg (only b) W W') (hb : ¬ N b) (hr : row W b = some u.cells) : VaSt W' N gv g s room v := by
  obtain ⟨gs, pv, A, c, x, h1, h2⟩ := h
  have hV : ∀ k, VS gv x k → ¬ only b k := fun k hk e => by
    have e' : k = b := e
    rw [e'] at hk
    exact hb (h2 b (.inr hk))
  have hD : ∀ k, DB v x k → ¬ only b k := fun k hk e => by
    have e' : k = b := e
    rw [e'] at hk
    rcases hk with ⟨hp, a, ha, rfl⟩ | ⟨hp, a, ha, rfl⟩ | ⟨r, hrr, hp, a, ha, rfl⟩
    · exact bys_box h1.vt.snap hp ha hr
    · exact bys_box h1.vt.log hp ha hr
    · exact bys_box (h1.vt.recs r hrr) hp ha hr
  exact ⟨gs, pv, A, c, x, ⟨h1.vt.chg hc hV hD, h1.pl.chg hc (fun k hk e => by
    have e' : k = b := e
    rw [e'] at hk
    exact hb (h2 b (.inl hk))), h1.far⟩, h2⟩
theorem BrSt.box {W W' : World} {N : Nat → Prop} {gv g : Nat} {s : Ps} {room : Nat} {b : Nat} (h : BrSt W N gv g s room) (hc : Chg (only b) W W') (hb : ¬ N b) : BrSt W' N gv g s room := by
  obtain ⟨gs, pv, A, c, h0, s7, s8, s9, h1, h2, h3, h4⟩ := h
  refine ⟨gs, pv, A, c, h0, s7, s8, s9, h1.chg hc (fun k hk e => ?_), (hc.row (row_lt h2) (fun e => ?_)).trans h2, h3, h4⟩
  · have e' : k = b := e
    rw [e'] at hk
    exact hb (h4 b (.inl hk))
  · have e' : gv = b := e
    exact hb (h4 b (.inr e'.symm))
def Rel (v : Vt) (u : Hv) : Prop := v.snap = u.snap ∧ v.recs = u.recs
theorem hasB_yes {v : Vt} {u : Hv} (h : Rel v u) : hasB v u = true := decide_eq_true h
theorem hasB_no {v : Vt} {u : Hv} (h : ¬ Rel v u) : hasB v u = false := decide_eq_false h
theorem Rel.few {v : Vt} {u : Hv} {q : Nat} (h : Rel v u) (hs : Small u q) : v.snap.length ≤ 3000 ∧ v.recs.length ≤ q ∧ ∀ r ∈ v.recs, r.length ≤ 3000 := by
  refine ⟨by rw [h.1]; exact hs.1, by rw [h.2]; unfold Hv.recs; rw [List.length_map]; exact hs.2.1, fun r hr => ?_⟩
  rw [h.2] at hr
  obtain ⟨x, hx, rfl⟩ := List.mem_map.1 hr
  exact hs.2.2 x hx
theorem VaSt.has {W : World} {N : Nat → Prop} {gv g : Nat} {s : Ps} {room : Nat} {v : Vt} {u0 u : Hv} {q : Nat} (h : VaSt W N gv g s room v) (hr : Rel v u0) (h0 : Small u0 q) (hs : Small u q) (hq : q ≤ 100) (hu : HvAt W u) :
    Calls Try.prog 19 #[.agg u.cells, .pointer (some ⟨gv, 0, none⟩)] W fun e w' => e = .returned (.bool (hasB v u)) ∧ Below W.heap.size W w' := by
  obtain ⟨gs, pv, A, c, x, h1, h2⟩ := h
  obtain ⟨f1, f2, f3⟩ := hr.few h0
  exact has_any gv g room false v x u (by omega) (by omega) (fun r hr => by have := f3 r hr; omega) (by have := hs.1; omega) (by have := hs.2.1; omega) W h1.vt hu
/-- The loop's state: the vault stands, or it is broken and the power is gone. -/
def LoopSt (W : World) (N : Nat → Prop) (gv g : Nat) (s : Ps) (room j : Nat) (uS uM : Hv) : Prop :=
  (∃ v, VaSt W N gv g s room v ∧ Good s room v ∧ Rel v uS ∧ Rel v uM ∧ v.hd.gen ≤ j + 1) ∨ (BrSt W N gv g s room ∧ s.down = true ∧ ∃ v, Good s.up room v ∧ (Rel v uS ∨ Rel v uM) ∧ v.hd.gen ≤ j + 1)
theorem VaSt.plate {P : Program} {f : FuncId} {args : Array Value} {W : World} {N : Nat → Prop} {gv g : Nat} {s s' : Ps} {room : Nat} {v : Vt} {e0 : Ending} (h : VaSt W N gv g s room v)
    (hc : ∀ gs pv A c, PlAt W g gs pv A c s → Calls P f args W fun e w' => e = e0 ∧ PlTo W (PS g gs pv A) g s' w') : Calls P f args W fun e w' => e = e0 ∧ ∃ N', VaSt w' N' gv g s' room v ∧ Ch W w' N N' := by
  obtain ⟨gs, pv, A, c, x, h1, h2⟩ := h
  refine (hc gs pv A c h1.pl).mono ?_
  rintro e w' ⟨he, gs', pv', A', c', k1, k2, k3⟩
  have hvt := h1.vt.chg k3 (fun k hk => h1.far k (.inl hk)) (fun k hk => h1.far k (.inr hk))
  refine ⟨he, FS g gs' pv' A' gv x, ⟨gs', pv', A', c', x, ⟨hvt, k1, fun k hk hx => ?_⟩, fun k hk => hk⟩, k3.mono (fun k hk => h2 k (.inl hk)), fun k hk => ?_, fun k hk => ?_⟩
  · have hl := h1.vt.lt k hk
    rcases k2 k hx with e | e
    · exact h1.far k hk e
    · omega
  · rcases hk with hk | hk
    · exact (k2 k hk).imp (fun e => h2 k (.inl e)) id
    · exact .inl (h2 k (.inr hk))
  · rcases hk with hk | hk
    · exact k1.blocks k hk
    · exact hvt.lt k (.inl hk)
theorem BrSt.plate {P : Program} {f : FuncId} {args : Array Value} {W : World} {N : Nat → Prop} {gv g : Nat} {s s' : Ps} {room : Nat} {e0 : Ending} (h : BrSt W N gv g s room)
    (hc : ∀ gs pv A c, PlAt W g gs pv A c s → Calls P f args W fun e w' => e = e0 ∧ PlTo W (PS g gs pv A) g s' w') : Calls P f args W fun e w' => e = e0 ∧ ∃ N', BrSt w' N' gv g s' room ∧ Ch W w' N N' := by
  obtain ⟨gs, pv, A, c, h0, s7, s8, s9, h1, h2, h3, h4⟩ := h
  refine (hc gs pv A c h1).mono ?_
  rintro e w' ⟨he, gs', pv', A', c', k1, k2, k3⟩
  have hr := (k3.row (row_lt h2) h3).trans h2
  have hlt := row_lt h2
  refine ⟨he, fun k => PS g gs' pv' A' k ∨ k = gv, ⟨gs', pv', A', c', h0, s7, s8, s9, k1, hr, fun hx => ?_, fun k hk => hk⟩, k3.mono (fun k hk => h4 k (.inl hk)), fun k hk => ?_, fun k hk => ?_⟩
  · rcases k2 gv hx with e | e
    · exact h3 e
    · omega
  · rcases hk with hk | hk
    · exact (k2 k hk).imp (fun e => h4 k (.inl e)) id
    · exact .inl (h4 k (.inr hk))
  · rcases hk with hk | hk
    · exact k1.blocks k hk
    · rw [hk]; exact row_lt hr
theorem PlSt.plate {P : Program} {f : FuncId} {args : Array Value} {W : World} {N : Nat → Prop} {g : Nat} {s s' : Ps} {e0 : Ending} (h : PlSt W N g s)
    (hc : ∀ gs pv A c, PlAt W g gs pv A c s → Calls P f args W fun e w' => e = e0 ∧ PlTo W (PS g gs pv A) g s' w') : Calls P f args W fun e w' => e = e0 ∧ ∃ N', PlSt w' N' g s' ∧ Ch W w' N N' := by
  obtain ⟨gs, pv, A, c, h1, h4⟩ := h
  refine (hc gs pv A c h1).mono ?_
  rintro e w' ⟨he, gs', pv', A', c', k1, k2, k3⟩
  exact ⟨he, fun k => PS g gs' pv' A' k, ⟨gs', pv', A', c', k1, fun k hk => hk⟩, k3.mono (fun k hk => h4 k hk), fun k hk => (k2 k hk).imp (fun e => h4 k e) id, fun k hk => k1.blocks k hk⟩
theorem PlSt.quiet {P : Program} {f : FuncId} {args : Array Value} {W : World} {N : Nat → Prop} {g : Nat} {s : Ps} {e0 : Ending} (h : PlSt W N g s)
    (hc : ∀ gs pv A c, PlAt W g gs pv A c s → Calls P f args W fun e w' => e = e0 ∧ W = w') : Calls P f args W fun e w' => e = e0 ∧ W = w' := by
  obtain ⟨gs, pv, A, c, h1, h4⟩ := h
  exact hc gs pv A c h1
theorem PlSt.reopen {W : World} {N : Nat → Prop} {g : Nat} {s : Ps} {room : Nat} {v : Vt} (h : PlSt W N g s) (hG : Good s room v) (hm5 : v.recs.length < 99999) (D : Option Addr) (n cD : Nat) :
    Calls Try.prog 9 #[.pointer (some ⟨g, 0, none⟩), .slice D n cD] W fun e w' => ∃ gv, e = .returned (.tuple #[.pointer (some ⟨gv, 0, none⟩), .bool false, .int .i64 0]) ∧ ∃ N', VaSt w' N' gv g s room v ∧ Ch W w' N N' := by
  obtain ⟨gs, pv, A, c, k1, k2⟩ := h
  refine (open_inv g gs pv A c s hG.down hG.pend room hG.room v hG.inv hG.recs hm5 D n cD W k1).mono ?_
  rintro e w' ⟨gv, x, he, hV, hX, hb⟩
  refine ⟨gv, he, FS g gs pv A gv x, ⟨gs, pv, A, c, x, hV, fun k hk => hk⟩, Chg.of_below hb (Nat.le_refl _), fun k hk => ?_, fun k hk => ?_⟩
  · rcases hk with hk | hk
    · exact .inl (k2 k hk)
    · exact .inr (hX k hk)
  · rcases hk with hk | hk
    · exact hV.pl.blocks k hk
    · exact hV.vt.lt k (.inl hk)
/-- What an append or a compaction leaves. -/
def OpR (W : World) (N : Nat → Prop) (gv g : Nat) (s : Ps) (room : Nat) (v v' : Vt) (r : Int) (w' : World) : Prop :=
  (r = 0 ∧ ∃ N' s', VaSt w' N' gv g s' room v' ∧ Good s' room v' ∧ Ch W w' N N') ∨
  (r = 280 ∧ ∃ N' s', BrSt w' N' gv g s' room ∧ s'.down = true ∧ (Good s'.up room v ∨ Good s'.up room v') ∧ Ch W w' N N') ∨
  (r ≠ 0 ∧ r ≠ 280 ∧ VaSt w' N gv g s room v ∧ Ch W w' N N)
theorem opR_of {W w' : World} {N F : Nat → Prop} {gv g : Nat} {s : Ps} {room : Nat} {v v' : Vt} {p : Int × Ps} {e : Ending} (hF : ∀ k, F k → N k) (hgv : N gv) (hc : Cm room s (fun t => Good t room v) v' p) (h : OpPost W F gv g room p v' e w') : ∃ r : Int, e = .returned (.int .i64 r) ∧ OpR W N gv g s room v v' r w' := by
  obtain ⟨he, h1, h2⟩ := h
  refine ⟨p.1, he, ?_⟩
  rcases hc with ⟨hz, hg⟩ | ⟨hz, hd, hx⟩
  · obtain ⟨gs, pv, A, c, x, k1, k2, k3⟩ := h1 hz
    refine .inl ⟨hz, FS g gs pv A gv x, p.2, ⟨gs, pv, A, c, x, k1, fun k hk => hk⟩, hg, k3.mono hF, fun k hk => (k2 k hk).imp (hF k) id, fun k hk => ?_⟩
    rcases hk with hk | hk
    · exact k1.pl.blocks k hk
    · exact k1.vt.lt k (.inl hk)
  · obtain ⟨gs, pv, A, c, h0, s7, s8, s9, k1, k2, k3, k4, k5⟩ := h2 (by rw [hz]; decide)
    refine .inr (.inl ⟨hz, fun k => PS g gs pv A k ∨ k = gv, p.2, ⟨gs, pv, A, c, h0, s7, s8, s9, k1, k2, k3, fun k hk => hk⟩, hd, hx, k5.mono hF, fun k hk => ?_, fun k hk => ?_⟩)
    · rcases hk with hk | hk
      · exact (k4 k hk).imp (hF k) id
      · rw [hk]; exact .inl hgv
    · rcases hk with hk | hk
      · exact k1.blocks k hk
      · rw [hk]; exact row_lt k2
theorem VaSt.append {W : World} {N : Nat → Prop} {gv g : Nat} {s : Ps} {room : Nat} {v : Vt} (h : VaSt W N gv g s room v) (ht : ∀ k, N k → k < W.heap.size) (hG : Good s room v) (hm5 : v.recs.length < 99999) (hgen : v.hd.gen + 1 < 18446744073709551615) (n cD : Nat) (D : Option Addr) (bs : List Nat) (hbs : bs.length = n) (hn : n ≤ 16384) (hok : bytesOk bs) (hD : Bys W D bs) (hDn : 0 < n → ∀ a, D = some a → ¬ N a.block) :
    Calls Try.prog 10 #[.pointer (some ⟨gv, 0, none⟩), .slice D n cD] W fun e w' => ∃ r : Int, e = .returned (.int .i64 r) ∧ OpR W N gv g s room v (appV v bs) r w' := by
  have hh := h
  obtain ⟨gs, pv, A, c, x, k1, k2⟩ := h
  obtain ⟨hv, hgn⟩ := k1.bounds
  rcases Nat.eq_zero_or_pos n with h0 | h0
  · subst h0
    refine (append_empty gv g D cD W (row_cell hv 5) (row_cell hv 10)).mono ?_
    rintro e w' ⟨he, rfl⟩
    exact ⟨2, he, .inr (.inr ⟨by decide, by decide, hh, Ch.quiet ht (Below.refl _ _)⟩)⟩
  · refine (append_any gv g gs pv A c s hG.down hG.pend room v x hG.inv.ok hgen hG.inv.snap hG.inv.log hG.inv.all hm5 n cD D bs hbs h0 hn hok hG.inv.len W hD (fun a ha hx => hDn h0 a ha (k2 a.block hx)) k1).mono ?_
    rintro e w' ⟨h1, h2⟩
    by_cases hfit : secs v.snap.length + secs (v.log ++ rawF bs).length ≤ room
    · exact opR_of k2 (k2 gv (.inr (.inl rfl))) (good_append hG bs (by omega) (by omega) hok hfit hgen) (h1 hfit)
    · obtain ⟨he, hb⟩ := h2 hfit
      exact ⟨290, he, .inr (.inr ⟨by decide, by decide, hh.stay hb, Ch.quiet ht hb⟩)⟩
theorem VaSt.compact {W : World} {N : Nat → Prop} {gv g : Nat} {s : Ps} {room : Nat} {v : Vt} (h : VaSt W N gv g s room v) (ht : ∀ k, N k → k < W.heap.size) (hG : Good s room v) (hgen : v.hd.gen + 1 < 18446744073709551615) (n cD : Nat) (D : Option Addr) (bs : List Nat) (hbs : bs.length = n) (hn : n ≤ 131072) (hcap : n ≤ cD) (hcD : cD ≤ 9223372036854775807) (hD : Bys W D bs) (hDn : 0 < n → ∀ a, D = some a → ¬ N a.block) :
    Calls Try.prog 11 #[.pointer (some ⟨gv, 0, none⟩), .slice D n cD] W fun e w' => ∃ r : Int, e = .returned (.int .i64 r) ∧ OpR W N gv g s room v (cmpV (v.hd.gen + 1) (1 - v.hd.area) bs) r w' := by
  have hh := h
  obtain ⟨gs, pv, A, c, x, k1, k2⟩ := h
  obtain ⟨hv, hgn⟩ := k1.bounds
  by_cases hfit : secs n ≤ room
  · refine (compact_any gv g gs pv A c s hG.down hG.pend room hG.inv.ok.room v.hd hG.inv.ok.area hgen _ _ _ n cD D bs hbs hn hcap hcD hfit hG.inv.len W hD (fun hpos a haD => ⟨fun e => hDn hpos a haD (k2 _ (.inl e)), fun e => hDn hpos a haD (k2 _ (.inr (.inl e)))⟩) hv hgn k1.pl).mono ?_
    rintro e w' hp
    refine opR_of (fun k hk => ?_) (k2 gv (.inr (.inl rfl))) (good_compact hG bs (by rw [hbs]; exact hfit) hgen) hp
    rcases hk with hk | hk
    · exact k2 k (.inl hk)
    · exact k2 k (.inr (.inl hk))
  · refine (compact_room gv g room v.hd _ _ _ n cD D hn hG.inv.ok.room (by omega) W hv).mono ?_
    rintro e w' ⟨he, hb⟩
    exact ⟨290, he, .inr (.inr ⟨by decide, by decide, hh.stay hb, Ch.quiet ht hb⟩)⟩
/-- What is to be had, with a record more. -/
def Hv.more (u : Hv) (An : Option Addr) (cn : Nat) (D : Option Addr) (c : Nat) (bs : List Nat) : Hv := ⟨u.a7, u.c7, u.snap, An, cn, u.rs ++ [⟨D, c, bs⟩]⟩
theorem more_in {W W' : World} {N : Nat → Prop} {u : Hv} {An : Option Addr} {cn : Nat} {D : Option Addr} {c : Nat} {bs : List Nat} (h : HvIn W N u) (ht : ∀ k, N k → k < W.heap.size) (hb : Below W.heap.size W W') (ho : OwnC 22 1 recK W' 0 (.slice An (u.rs.length + 1) cn) (u.rs ++ [⟨D, c, bs⟩])) (hn : ∀ k, (Value.slice An (u.rs.length + 1) cn).ownBlock = some k → W.heap.size ≤ k) (hD : Bys W' D bs) (hDn : 0 < bs.length → ∀ a, D = some a → ¬ N a.block) (hl : bs.length ≤ 3000) : HvIn W' N (u.more An cn D c bs) := by
  obtain ⟨A', c', e, hs, _⟩ := ho.form recK_size
  rw [Value.slice.injEq] at e
  have hs' : SliceOf 1 recK W' An (u.rs ++ [⟨D, c, bs⟩]) := by rw [e.1]; exact hs
  refine ⟨⟨h.at_.snap.stay hb, ⟨hs', fun r hr => ?_, fun r hr => ?_⟩⟩, fun k hk hx => ?_⟩
  · rcases List.mem_append.1 hr with hr | hr
    · exact (h.at_.ls.bys r hr).stay hb
    · rw [List.mem_singleton] at hr; subst hr; exact hD
  · rcases List.mem_append.1 hr with hr | hr
    · exact h.at_.ls.len r hr
    · rw [List.mem_singleton] at hr; subst hr; show bs.length ≤ _; omega
  · rcases hk with hk | ⟨hp, a, ha, rfl⟩ | ⟨r, hr, hp, a, ha, rfl⟩
    · exact h.off k (.inl hk) hx
    · obtain ⟨b, off, e2, _, _⟩ := hs' hp
      have e3 : An = some a := ha
      rw [e2] at e3
      cases e3
      have h1 := ht _ hx
      rcases ho.2 with ⟨q, _⟩ | ⟨g, cap, cur, q, _⟩
      · rw [e2] at q
        simp at q
      · rw [e2] at q
        simp only [Value.slice.injEq, Option.some.injEq, Addr.mk.injEq, and_true] at q
        have h2 := hn b (by rw [e2, q.1.2]; rfl)
        have h3 : (⟨b, off, none⟩ : Addr).block = b := rfl
        omega
    · rcases List.mem_append.1 hr with hr | hr
      · exact h.off _ (.inr (.inr ⟨r, hr, hp, a, ha, rfl⟩)) hx
      · rw [List.mem_singleton] at hr; subst hr; exact hDn hp a ha hx
theorem more_cells (u : Hv) (An : Option Addr) (cn : Nat) (D : Option Addr) (c : Nat) (bs : List Nat) : (u.more An cn D c bs).cells = #[.slice u.a7 u.snap.length u.c7, .slice An (u.rs.length + 1) cn] := by
  unfold Hv.more Hv.cells
  show #[_, Value.slice An (u.rs ++ [_]).length cn] = _
  rw [List.length_append]; rfl
theorem more_recs (u : Hv) (An : Option Addr) (cn : Nat) (D : Option Addr) (c : Nat) (bs : List Nat) : (u.more An cn D c bs).recs = u.recs ++ [bs] := by
  unfold Hv.more Hv.recs
  rw [List.map_append]; rfl
theorem HvIn.narrow {W : World} {N N' : Nat → Prop} {u : Hv} (h : HvIn W N u) (hs : ∀ k, N' k → N k) : HvIn W N' u := ⟨h.at_, fun k hk hn => h.off k hk (hs k hn)⟩
theorem HvIn.wider {W : World} {N : Nat → Prop} {u : Hv} {b : Nat} (h : HvIn W N u) (hb : W.heap.size ≤ b) : HvIn W (fun k => N k ∨ k = b) u := ⟨h.at_, fun k hk hn => by
  have := h.lt k hk
  rcases hn with hn | hn
  · exact h.off k hk hn
  · omega⟩
theorem HvIn.quiet {W W' : World} {N : Nat → Prop} {u : Hv} (h : HvIn W N u) (hb : Below W.heap.size W W') : HvIn W' N u := ⟨h.at_.stay hb, h.off⟩
theorem Sf.other {w1 W W' : World} {gS gM q b : Nat} {N : Nat → Prop} {uS uM : Hv} (h : Sf w1 W gS gM q N uS uM) (hc : Chg (only b) W W') (hb : w1.heap.size ≤ b) (h1 : b ≠ gS) (h2 : b ≠ gM) (h3 : ¬ HB uS b) (h4 : ¬ HB uM b) : Sf w1 W' gS gM q N uS uM := by
  have hv : ∀ {u : Hv}, HvIn W (Nb N gS gM) u → ¬ HB u b → HvIn W' (Nb N gS gM) u := fun {u} hu hn =>
    ⟨⟨hu.at_.snap.chg' hc (fun hp a ha e => hn (.inl ⟨hp, a, ha, e⟩)), ⟨hu.at_.ls.sl.chg2 hc (fun hp a ha e => hn (.inr (.inl ⟨hp, a, ha, e⟩))), fun r hr => (hu.at_.ls.bys r hr).chg' hc (fun hp a ha e => hn (.inr (.inr ⟨r, hr, hp, a, ha, e⟩))), hu.at_.ls.len⟩⟩, hu.off⟩
  exact ⟨h.low, fun k hk => Nat.lt_of_lt_of_le (h.top k hk) hc.size, h.bel.trans (hc.toBelow (fun k hk => by have e : k = b := hk; rw [e]; exact hb) h.bel.size), (hc.row (row_lt h.rS) (fun e => h1 e.symm)).trans h.rS, (hc.row (row_lt h.rM) (fun e => h2 e.symm)).trans h.rM, h.nS, h.nM, hv h.hS h3, hv h.hM h4, h.bS, h.bM, h.lS, h.lM, h.ne⟩
/-- What an append or a compaction has left, and what would have been, in its box. -/
theorem op_end {w1 wr Wc w12 w13 : World} {gS gM gN j : Nat} {N : Nat → Prop} {uS uM nx : Hv} {gv g : Nat} {s : Ps} {room : Nat} {v v' : Vt} {r : Int} (hS : Sf w1 wr gS gM j N uS uM) (hb : Below wr.heap.size wr Wc) (hN : wr.heap.size ≤ gN) (hrN : row Wc gN = some uS.cells) (hnx : HvIn Wc (fun k => Nb N gS gM k ∨ k = gN) nx) (h : OpR Wc N gv g s room v v' r w12) (hc : Chg (only gN) w12 w13) :
    ∃ N', Sf w1 w13 gS gM (j + 1) N' uS uM ∧ HvIn w13 (Nb N' gS gM) nx ∧ ((r = 0 ∧ ∃ s', VaSt w13 N' gv g s' room v' ∧ Good s' room v') ∨ (r = 280 ∧ ∃ s', BrSt w13 N' gv g s' room ∧ s'.down = true ∧ (Good s'.up room v ∨ Good s'.up room v')) ∨ (r ≠ 0 ∧ r ≠ 280 ∧ VaSt w13 N' gv g s room v)) := by
  have hgw := row_lt hrN
  have hnN : ¬ N gN := fun e => by have := hS.top gN e; omega
  have hneS : gN ≠ gS := by have := row_lt hS.rS; omega
  have hneM : gN ≠ gM := by have := row_lt hS.rM; omega
  have key : ∀ N', Ch Wc w12 N N' → Sf w1 w13 gS gM (j + 1) N' uS uM ∧ HvIn w13 (Nb N' gS gM) nx ∧ row w12 gN = some uS.cells ∧ ¬ N' gN := fun N' hch => by
    obtain ⟨k1, k2⟩ := hch.row hrN hnN
    have hs12 := (hS.stay hb).step hch
    refine ⟨(hs12.other hc (Nat.le_trans hS.bel.size hN) hneS hneM (fun e => ?_) (fun e => ?_)).more (Nat.le_succ _), ?_, k1, k2⟩
    · have := hS.hS.lt _ e; omega
    · have := hS.hM.lt _ e; omega
    · have h1 := hnx.step (W' := w12) (N' := fun k => Nb N' gS gM k ∨ k = gN) ((hch.nb gS gM).1.mono (fun k hk => .inl hk)) (fun k hk => by
        rcases hk with hk | hk
        · exact ((hch.nb gS gM).2 k hk).imp .inl id
        · exact .inl (.inr hk))
      exact (h1.far (.inr rfl) hc).narrow (fun k hk => .inl hk)
  rcases h with ⟨hr, N', s', a1, a2, a3⟩ | ⟨hr, N', s', a1, a2, a3, a4⟩ | ⟨hr, hr2, a1, a3⟩
  · obtain ⟨k1, k2, k3, k4⟩ := key N' a3
    exact ⟨N', k1, k2, .inl ⟨hr, s', a1.box hc k4 k3, a2⟩⟩
  · obtain ⟨k1, k2, k3, k4⟩ := key N' a4
    exact ⟨N', k1, k2, .inr (.inl ⟨hr, s', a1.box hc k4, a2, a3⟩)⟩
  · obtain ⟨k1, k2, k3, k4⟩ := key N a3
    exact ⟨N, k1, k2, .inr (.inr ⟨hr, hr2, a1.box hc k4 k3⟩)⟩
end Go.Proofs.Ytkkncijbedfdfaa

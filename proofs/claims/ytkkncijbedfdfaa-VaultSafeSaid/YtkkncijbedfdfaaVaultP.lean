/-
  A vault's play: what a commit makes of a plate that holds a vault, or nothing yet (the plain law).
-/
import Derived.Test.YtkkncijbedfdfaaVaultF
namespace Go.Proofs.Ytkkncijbedfdfaa
open Go.RowKit
set_option linter.unusedVariables false

/-- A plate whose sure sectors hold a vault; nothing is pending. -/
structure Good (s : Ps) (room : Nat) (v : Vt) : Prop where
  down : s.down = false
  pend : s.pend = []
  inv : Inv s.sure room v
  room : room = (s.sure.length - 2) / 2
  recs : RecsOk v.recs
/-- A plate that holds none yet. -/
structure Bare (s : Ps) (room : Nat) : Prop where
  down : s.down = false
  pend : s.pend = []
  fresh : Fresh s.sure room
  room : room = (s.sure.length - 2) / 2
theorem up_down (s : Ps) : s.up.down = false ∧ s.up.pend = [] ∧ s.up.armed = false ∧ s.up.sure.length = s.sure.length := ⟨rfl, rfl, rfl, upL_len _ _ _ _⟩
theorem up_self {s : Ps} (h : s.pend = []) : s.up.sure = s.sure := by unfold Ps.up; rw [h]; rfl
theorem Good.up {s : Ps} {room : Nat} {v : Vt} (h : Good s room v) : Good s.up room v := ⟨rfl, rfl, by rw [up_self h.pend]; exact h.inv, by rw [up_self h.pend]; exact h.room, h.recs⟩
theorem Bare.up {s : Ps} {room : Nat} (h : Bare s room) : Bare s.up room := ⟨rfl, rfl, by rw [up_self h.pend]; exact h.fresh, by rw [up_self h.pend]; exact h.room⟩
theorem arm_same (s : Ps) (ops : Int) (keep : List Bool) : (s.arm ops keep).down = s.down ∧ (s.arm ops keep).pend = s.pend ∧ (s.arm ops keep).sure = s.sure := by
  unfold Ps.arm
  split <;> exact ⟨rfl, rfl, rfl⟩
theorem Good.arm {s : Ps} {room : Nat} {v : Vt} (h : Good s room v) (ops : Int) (keep : List Bool) : Good (s.arm ops keep) room v := by
  obtain ⟨h1, h2, h3⟩ := arm_same s ops keep
  exact ⟨by rw [h1]; exact h.down, by rw [h2]; exact h.pend, by rw [h3]; exact h.inv, by rw [h3]; exact h.room, h.recs⟩
theorem Bare.arm {s : Ps} {room : Nat} (h : Bare s room) (ops : Int) (keep : List Bool) : Bare (s.arm ops keep) room := by
  obtain ⟨h1, h2, h3⟩ := arm_same s ops keep
  exact ⟨by rw [h1]; exact h.down, by rw [h2]; exact h.pend, by rw [h3]; exact h.fresh, by rw [h3]; exact h.room⟩
theorem arm_down {s : Ps} (h : s.down = true) (ops : Int) (keep : List Bool) : s.arm ops keep = s := by unfold Ps.arm; rw [if_pos h]
theorem bare_new (N : Nat) (h : 2 ≤ N) : Bare (newPs N) ((N - 2) / 2) := by
  have hg : ∀ i, i < N → (newPs N).sure[i]? = some zSec := fun i hi => by
    show (List.replicate N zSec)[i]? = _
    rw [List.getElem?_replicate, if_pos hi]
  have hl : (newPs N).sure.length = N := by show (List.replicate N zSec).length = N; exact List.length_replicate ..
  exact ⟨rfl, rfl, ⟨by rw [hl]; omega, hg 0 (by omega), hg 1 (by omega)⟩, by rw [hl]⟩
/-- What a commit leaves of a plate: what it makes, or, the power gone, behind Up what was or what it makes. -/
def Cm (room : Nat) (s : Ps) (A : Ps → Prop) (v' : Vt) (p : Int × Ps) : Prop :=
  (p.1 = 0 ∧ Good p.2 room v') ∨ (p.1 = 280 ∧ p.2.down = true ∧ (A p.2.up ∨ Good p.2.up room v'))
theorem bare_first {s : Ps} {room : Nat} (h : Bare s room) (hr : room ≤ 100000) (first : List Nat) (hfit : secs first.length ≤ room) : Cm room s (fun t => Bare t room) (cmpV 1 0 first) (commitP s (cmpW room 0 first) (1, headS (cmpV 1 0 first).hd)) := by
  have hl := h.fresh.len
  have hN := cmp_new (gen := 1) (area := 0) (snap := first) hfit hr (by omega) ⟨by omega, by omega⟩ hl (.inl h.fresh.z0)
  have hc := crash (A := fun S => Fresh S room ∧ S.length = s.sure.length) (B := fun S => Inv S room (cmpV 1 0 first) ∧ S.length = s.sure.length) s (cmpW room 0 first) (1, headS (cmpV 1 0 first).hd) h.down h.pend ⟨h.fresh, rfl⟩ (fun T e he hT => ⟨fresh_part he hT.1, by rw [land_len]; exact hT.2⟩) ⟨hN, by rw [land_len, fold_len]⟩
  rcases hc with ⟨h1, h2, h3, h4, h5⟩ | ⟨h1, h2, ⟨h4, h5⟩ | ⟨h4, h5⟩⟩
  · exact .inl ⟨h1, h2, h3, h4, by rw [h5]; exact h.room, fun r hr => by cases hr⟩
  · exact .inr ⟨h1, h2, .inl ⟨rfl, rfl, h4, by rw [h5]; exact h.room⟩⟩
  · exact .inr ⟨h1, h2, .inr ⟨rfl, rfl, h4, by rw [h5]; exact h.room, fun r hr => by cases hr⟩⟩
theorem good_append {s : Ps} {room : Nat} {v : Vt} (h : Good s room v) (r : List Nat) (hr1 : 1 ≤ r.length) (hr2 : r.length ≤ 16384) (hr3 : bytesOk r) (hfit : secs v.snap.length + secs (v.log ++ rawF r).length ≤ room) (hg : v.hd.gen + 1 < 18446744073709551615) :
    Cm room s (fun t => Good t room v) (appV v r) (commitP s (appW room v (rawF r)) ((v.hd.gen + 1) % 2, headS (appV v r).hd)) := by
  have hok : RecsOk (appV v r).recs := fun x hx => by
    rcases List.mem_append.1 hx with hx | hx
    · exact h.recs x hx
    · rw [List.mem_singleton] at hx; subst hx; exact ⟨hr1, hr2, hr3⟩
  have hN := app_done (r := r) hfit hg h.inv
  have hc := crash (A := fun S => Inv S room v ∧ S.length = s.sure.length) (B := fun S => Inv S room (appV v r) ∧ S.length = s.sure.length) s (appW room v (rawF r)) ((v.hd.gen + 1) % 2, headS (appV v r).hd) h.down h.pend ⟨h.inv, rfl⟩ (fun T e he hT => ⟨app_part hfit he hT.1, by rw [land_len]; exact hT.2⟩) ⟨hN, by rw [land_len, fold_len]⟩
  rcases hc with ⟨h1, h2, h3, h4, h5⟩ | ⟨h1, h2, ⟨h4, h5⟩ | ⟨h4, h5⟩⟩
  · exact .inl ⟨h1, h2, h3, h4, by rw [h5]; exact h.room, hok⟩
  · exact .inr ⟨h1, h2, .inl ⟨rfl, rfl, h4, by rw [h5]; exact h.room, h.recs⟩⟩
  · exact .inr ⟨h1, h2, .inr ⟨rfl, rfl, h4, by rw [h5]; exact h.room, hok⟩⟩
theorem good_compact {s : Ps} {room : Nat} {v : Vt} (h : Good s room v) (snap : List Nat) (hfit : secs snap.length ≤ room) (hg : v.hd.gen + 1 < 18446744073709551615) :
    Cm room s (fun t => Good t room v) (cmpV (v.hd.gen + 1) (1 - v.hd.area) snap) (commitP s (cmpW room (1 - v.hd.area) snap) ((v.hd.gen + 1) % 2, headS (cmpV (v.hd.gen + 1) (1 - v.hd.area) snap).hd)) := by
  have hN := cmp_new (S := s.sure) (gen := v.hd.gen + 1) (area := 1 - v.hd.area) (snap := snap) hfit h.inv.ok.room (by omega) ⟨by omega, hg⟩ h.inv.len (.inr ⟨v.hd, h.inv.ok, by rw [show (v.hd.gen + 1 + 1) % 2 = v.hd.gen % 2 by omega]; exact h.inv.here, by omega⟩)
  have hc := crash (A := fun S => Inv S room v ∧ S.length = s.sure.length) (B := fun S => Inv S room (cmpV (v.hd.gen + 1) (1 - v.hd.area) snap) ∧ S.length = s.sure.length) s (cmpW room (1 - v.hd.area) snap) ((v.hd.gen + 1) % 2, headS (cmpV (v.hd.gen + 1) (1 - v.hd.area) snap).hd) h.down h.pend ⟨h.inv, rfl⟩ (fun T e he hT => ⟨cmp_part hfit he hT.1, by rw [land_len]; exact hT.2⟩) ⟨hN, by rw [land_len, fold_len]⟩
  rcases hc with ⟨h1, h2, h3, h4, h5⟩ | ⟨h1, h2, ⟨h4, h5⟩ | ⟨h4, h5⟩⟩
  · exact .inl ⟨h1, h2, h3, h4, by rw [h5]; exact h.room, fun r hr => by cases hr⟩
  · exact .inr ⟨h1, h2, .inl ⟨rfl, rfl, h4, by rw [h5]; exact h.room, h.recs⟩⟩
  · exact .inr ⟨h1, h2, .inr ⟨rfl, rfl, h4, by rw [h5]; exact h.room, fun r hr => by cases hr⟩⟩
theorem Cm.calm {room : Nat} {s : Ps} {A : Ps → Prop} {v' : Vt} {ws : List (Nat × Sec)} {e : Nat × Sec} (h : Cm room s A v' (commitP s ws e)) (hd : s.down = false) (ha : s.armed = false) : (commitP s ws e).1 = 0 ∧ Good (commitP s ws e).2 room v' ∧ (commitP s ws e).2.armed = false := by
  obtain ⟨h1, h2⟩ := commitP_calm (ws := ws) (h := e) hd ha
  rcases h with ⟨_, h3⟩ | ⟨h3, _⟩
  · exact ⟨h1, h3, h2⟩
  · rw [h1] at h3; cases h3
/-! ### In memory, all of it made since a world -/
def PlIn (w : World) (g : Nat) (s : Ps) (W : World) : Prop := PlTo w (fun x => w.heap.size ≤ x) g s W
def VaIn (w : World) (gv g : Nat) (s : Ps) (room : Nat) (v : Vt) (W : World) : Prop := VaTo w (fun x => w.heap.size ≤ x) gv g s room false v W
theorem PlIn.of_new {w W : World} {g gs : Nat} {s : Ps} (hg : w.heap.size ≤ g) (hgs : w.heap.size ≤ gs) (h : PlAt W g gs (.slice none 0 0) none 0 s) (hb : Below w.heap.size w W) : PlIn w g s W :=
  ⟨gs, _, none, 0, h, fun x hx => .inl (by
    rcases hx with rfl | rfl | hx | ⟨a, ha, _⟩
    · exact hg
    · exact hgs
    · cases hx
    · cases ha), Chg.of_below hb (Nat.le_refl _)⟩
theorem PlIn.below {w W : World} {g : Nat} {s : Ps} (h : PlIn w g s W) : Below w.heap.size w W := by
  obtain ⟨gs, pv, A, c, h1, h2, h3⟩ := h
  exact h3.toBelow (fun k hk => hk) (Nat.le_refl _)
theorem PlIn.stay {w W W' : World} {g : Nat} {s : Ps} (h : PlIn w g s W) (hb : Below W.heap.size W W') : PlIn w g s W' := PlTo.below h hb
theorem VaIn.below {w W : World} {gv g : Nat} {s : Ps} {room : Nat} {v : Vt} (h : VaIn w gv g s room v W) : Below w.heap.size w W := by
  obtain ⟨gs, pv, A, c, x, h1, h2, h3⟩ := h
  exact h3.toBelow (fun k hk => hk) (Nat.le_refl _)
theorem VaTo.below {w W W' : World} {F : Nat → Prop} {gv g : Nat} {s : Ps} {room : Nat} {br : Bool} {v : Vt} (h : VaTo w F gv g s room br v W) (hb : Below W.heap.size W W') : VaTo w F gv g s room br v W' := by
  obtain ⟨gs, pv, A, c, x, h1, h2, h3⟩ := h
  exact ⟨gs, pv, A, c, x, h1.stay hb, h2, h3.below_then hb (Nat.le_refl _)⟩
theorem VaIn.stay {w W W' : World} {gv g : Nat} {s : Ps} {room : Nat} {v : Vt} (h : VaIn w gv g s room v W) (hb : Below W.heap.size W W') : VaIn w gv g s room v W' := VaTo.below h hb
theorem VaIn.pl {w W : World} {gv g : Nat} {s : Ps} {room : Nat} {v : Vt} (h : VaIn w gv g s room v W) : PlIn w g s W := by
  obtain ⟨gs, pv, A, c, x, h1, h2, h3⟩ := h
  exact ⟨gs, pv, A, c, h1.pl, fun k hk => h2 k (.inl hk), h3⟩
theorem VaTo.trans {w W W' : World} {F F' : Nat → Prop} {gv g : Nat} {s : Ps} {room : Nat} {br : Bool} {v : Vt} (hF : ∀ x, F' x → F x ∨ w.heap.size ≤ x) (hc : Chg F w W) (h : VaTo W F' gv g s room br v W') : VaTo w F gv g s room br v W' := by
  obtain ⟨gs, pv, A, c, x, h1, h2, h3⟩ := h
  refine ⟨gs, pv, A, c, x, h1, fun k hk => ?_, hc.andThen h3 hF⟩
  rcases h2 k hk with h4 | h4
  · exact hF k h4
  · exact .inr (Nat.le_trans hc.size h4)
/-! ### Calls on a vault, all of it made since a world, on a plate that is not armed -/
theorem VaIn.app {w W0 W : World} {gv g : Nat} {s : Ps} {room : Nat} {v : Vt} (h : VaIn w gv g s room v W0) (hb : Below W0.heap.size W0 W) (hG : Good s room v) (ha : s.armed = false) (hm5 : v.recs.length < 99999) (hgen : v.hd.gen + 1 < 18446744073709551615) (n cD : Nat) (D : Option Addr) (bs : List Nat) (hbs : bs.length = n) (hn1 : 1 ≤ n) (hn : n ≤ 16384) (hok : bytesOk bs) (hD : Bys W D bs) (hDn : ∀ a, D = some a → W0.heap.size ≤ a.block ∨ a.block < w.heap.size) (hfit : secs v.snap.length + secs (v.log ++ rawF bs).length ≤ room) :
    ∃ s2, Good s2 room (appV v bs) ∧ s2.armed = false ∧ Calls Try.prog 10 #[.pointer (some ⟨gv, 0, none⟩), .slice D n cD] W fun e w' => e = .returned (.int .i64 0) ∧ VaIn w gv g s2 room (appV v bs) w' := by
  obtain ⟨h1, h2, h3⟩ := (good_append hG bs (by omega) (by omega) hok hfit hgen).calm hG.down ha
  refine ⟨_, h2, h3, ?_⟩
  obtain ⟨gs, pv, A, c, x, k1, k2, k3⟩ := h
  refine (append_any gv g gs pv A c s hG.down hG.pend room v x hG.inv.ok hgen hG.inv.snap hG.inv.log hG.inv.all hm5 n cD D bs hbs hn1 hn hok hG.inv.len W hD (fun a haD hx => ?_) (k1.stay hb)).mono ?_
  · rcases hDn a haD with q | q
    · rcases hx with hx | hx
      · have := k1.pl.blocks _ hx; omega
      · have := k1.vt.lt _ (.inl hx); omega
    · have := k2 a.block hx
      omega
  · rintro e w' ⟨hp, _⟩
    obtain ⟨he, hz, _⟩ := hp hfit
    rw [h1] at he
    exact ⟨he, VaTo.trans (fun k hk => k2 k hk) (k3.below_then hb (Nat.le_refl _)) (hz h1)⟩
theorem VaIn.full {w W0 W : World} {gv g : Nat} {s : Ps} {room : Nat} {v : Vt} (h : VaIn w gv g s room v W0) (hb : Below W0.heap.size W0 W) (hG : Good s room v) (hm5 : v.recs.length < 99999) (hgen : v.hd.gen + 1 < 18446744073709551615) (n cD : Nat) (D : Option Addr) (bs : List Nat) (hbs : bs.length = n) (hn1 : 1 ≤ n) (hn : n ≤ 16384) (hok : bytesOk bs) (hD : Bys W D bs) (hDn : ∀ a, D = some a → W0.heap.size ≤ a.block ∨ a.block < w.heap.size) (hfit : ¬ secs v.snap.length + secs (v.log ++ rawF bs).length ≤ room) :
    Calls Try.prog 10 #[.pointer (some ⟨gv, 0, none⟩), .slice D n cD] W fun e w' => e = .returned (.int .i64 290) ∧ Below W.heap.size W w' := by
  obtain ⟨gs, pv, A, c, x, k1, k2, k3⟩ := h
  refine (append_any gv g gs pv A c s hG.down hG.pend room v x hG.inv.ok hgen hG.inv.snap hG.inv.log hG.inv.all hm5 n cD D bs hbs hn1 hn hok hG.inv.len W hD (fun a haD hx => ?_) (k1.stay hb)).mono ?_
  · rcases hDn a haD with q | q
    · rcases hx with hx | hx
      · have := k1.pl.blocks _ hx; omega
      · have := k1.vt.lt _ (.inl hx); omega
    · have := k2 a.block hx
      omega
  · rintro e w' ⟨_, hp⟩
    exact hp hfit
theorem VaIn.cmp {w W0 W : World} {gv g : Nat} {s : Ps} {room : Nat} {v : Vt} (h : VaIn w gv g s room v W0) (hb : Below W0.heap.size W0 W) (hG : Good s room v) (ha : s.armed = false) (hgen : v.hd.gen + 1 < 18446744073709551615) (n cD : Nat) (D : Option Addr) (bs : List Nat) (hbs : bs.length = n) (hn : n ≤ 131072) (hcap : n ≤ cD) (hcD : cD ≤ 9223372036854775807) (hD : Bys W D bs) (hDn : 0 < n → ∀ a, D = some a → W0.heap.size ≤ a.block ∨ a.block < w.heap.size) (hfit : secs n ≤ room) :
    ∃ s2, Good s2 room (cmpV (v.hd.gen + 1) (1 - v.hd.area) bs) ∧ s2.armed = false ∧ Calls Try.prog 11 #[.pointer (some ⟨gv, 0, none⟩), .slice D n cD] W fun e w' => e = .returned (.int .i64 0) ∧ VaIn w gv g s2 room (cmpV (v.hd.gen + 1) (1 - v.hd.area) bs) w' := by
  obtain ⟨h1, h2, h3⟩ := (good_compact hG bs (by rw [hbs]; exact hfit) hgen).calm hG.down ha
  refine ⟨_, h2, h3, ?_⟩
  obtain ⟨gs, pv, A, c, x, k1, k2, k3⟩ := h
  have k1' := k1.stay hb
  obtain ⟨hv, hgn⟩ := k1'.bounds
  refine (compact_any gv g gs pv A c s hG.down hG.pend room hG.inv.ok.room v.hd hG.inv.ok.area hgen _ _ _ n cD D bs hbs hn hcap hcD hfit hG.inv.len W hD (fun hpos a haD => ?_) hv hgn k1'.pl).mono ?_
  · have hx : ¬ FS g gs pv A gv x a.block := fun hx => by
      rcases hDn hpos a haD with q | q
      · rcases hx with hx | hx
        · have := k1.pl.blocks _ hx; omega
        · have := k1.vt.lt _ (.inl hx); omega
      · have := k2 a.block hx
        omega
    exact ⟨fun e => hx (.inl e), fun e => hx (.inr (.inl e))⟩
  · rintro e w' ⟨he, hz, _⟩
    rw [h1] at he
    refine ⟨he, VaTo.trans (fun k hk => ?_) (k3.below_then hb (Nat.le_refl _)) (hz h1)⟩
    rcases hk with hk | hk
    · exact k2 k (.inl hk)
    · exact k2 k (.inr (.inl hk))
theorem PlIn.first {w W0 W : World} {g : Nat} {s : Ps} {room : Nat} (h : PlIn w g s W0) (hb : Below W0.heap.size W0 W) (hG : Bare s room) (hr : room ≤ 100000) (n cD : Nat) (D : Option Addr) (bs : List Nat) (hbs : bs.length = n) (hn : n ≤ 131072) (hcap : n ≤ cD) (hcD : cD ≤ 9223372036854775807) (hD : Bys W D bs) (hDn : 0 < n → ∀ a, D = some a → W0.heap.size ≤ a.block ∨ a.block < w.heap.size) :
    ∃ p : Int × Ps, p = commitP s (cmpW room 0 bs) (1, headS (cmpV 1 0 bs).hd) ∧ Calls Try.prog 9 #[.pointer (some ⟨g, 0, none⟩), .slice D n cD] W fun e w' => (secs n ≤ room → Cm room s (fun t => Bare t room) (cmpV 1 0 bs) p ∧ (p.1 = 0 → ∃ gv, e = .returned (.tuple #[.pointer (some ⟨gv, 0, none⟩), .bool true, .int .i64 0]) ∧ VaIn w gv g p.2 room (cmpV 1 0 bs) w') ∧ (p.1 ≠ 0 → e = .returned (.tuple #[.pointer none, .bool false, .int .i64 p.1]) ∧ PlIn w g p.2 w')) ∧ (room < secs n → e = .returned (.tuple #[.pointer none, .bool false, .int .i64 290]) ∧ Below W.heap.size W w') := by
  refine ⟨_, rfl, ?_⟩
  obtain ⟨gs, pv, A, c, k1, k2, k3⟩ := h
  refine (open_fresh g gs pv A c s hG.down hG.pend room hG.room hr hG.fresh D n cD bs hbs hn hcap hcD W hD (fun hpos a haD hx => ?_) (k1.stay hb)).mono ?_
  · rcases hDn hpos a haD with q | q
    · have := k1.blocks _ hx; omega
    · have := k2 a.block hx
      omega
  · rintro e w' ⟨ho, hn⟩
    refine ⟨fun hfit => ?_, hn⟩
    obtain ⟨o1, o2⟩ := ho hfit
    refine ⟨bare_first hG hr bs (by rw [hbs]; exact hfit), fun hz => ?_, fun hz => ?_⟩
    · obtain ⟨gv, he, hv⟩ := o1 hz
      exact ⟨gv, he, VaTo.trans (fun k hk => k2 k hk) (k3.below_then hb (Nat.le_refl _)) hv⟩
    · obtain ⟨he, hp⟩ := o2 hz
      exact ⟨he, PlTo.trans (fun k hk => k2 k hk) (k3.below_then hb (Nat.le_refl _)) hp⟩
theorem PlIn.again {w W : World} {g : Nat} {s : Ps} {room : Nat} {v : Vt} (h : PlIn w g s W) (hG : Good s room v) (hm5 : v.recs.length < 99999) (D : Option Addr) (n cD : Nat) :
    Calls Try.prog 9 #[.pointer (some ⟨g, 0, none⟩), .slice D n cD] W fun e w' => ∃ gv, e = .returned (.tuple #[.pointer (some ⟨gv, 0, none⟩), .bool false, .int .i64 0]) ∧ VaIn w gv g s room v w' ∧ W.heap.size ≤ gv ∧ Below W.heap.size W w' := by
  obtain ⟨gs, pv, A, c, k1, k2, k3⟩ := h
  refine (open_inv g gs pv A c s hG.down hG.pend room hG.room v hG.inv hG.recs hm5 D n cD W k1).mono ?_
  rintro e w' ⟨gv, x, he, hV, hX, hb⟩
  refine ⟨gv, he, ⟨gs, pv, A, c, x, hV, fun k hk => ?_, k3.below_then hb (Nat.le_refl _)⟩, hX gv (.inl rfl), hb⟩
  rcases hk with hk | hk
  · exact k2 k hk
  · exact .inl (Nat.le_trans k3.size (hX k hk))
end Go.Proofs.Ytkkncijbedfdfaa

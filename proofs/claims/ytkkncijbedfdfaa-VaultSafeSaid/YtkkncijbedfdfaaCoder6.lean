/-
  What package coder's reader does: what is left; a reader that is opened.
-/
import Derived.Test.YtkkncijbedfdfaaCoder5
namespace Go.Proofs.Ytkkncijbedfdfaa
open Go.RowKit
set_option linter.unusedVariables false

theorem flip_same {P : Program} {f : FuncId} {args : Array Value} {w : World} {v : Value} (h : Calls P f args w fun e w' => e = .returned v ∧ w = w') : Calls P f args w fun e w' => e = .returned v ∧ w' = w :=
  h.mono fun _ _ ⟨a, b⟩ => ⟨a, b.symm⟩
theorem RdPostC.of_quiet {C : Option Addr → Nat → Rd → Array Value} {w : World} {g : Nat} {A : Option Addr} {c : Nat} {s : Rd} {v v' : Value} (k : Nat) (h : RdAtC C w g A c s) (hv : v = v') : RdPostC C w g A c v' s (.returned v) (w.drewN k) := ⟨by rw [hv], h.drewN k, (Chg.refl _ _).drewN k⟩
set_option maxRecDepth 100000 in
set_option maxHeartbeats 2000000 in
theorem rdone_quiet (g : Nat) (A : Option Addr) (c : Nat) (s : Rd) (hs : s.Ok) (w : World) (hR : RdAt w g A c s) :
    Calls Try.prog 48 #[.pointer (some ⟨g, 0, none⟩)] w fun e w' => e = .returned (.int .i64 s.done) ∧ ∃ k, w' = w.drewN k := by
  have HR := Lib.hid hR
  have c0 : w.cell? ⟨g, 0, none⟩ = some (.slice A s.xs.length c) := hR.cells 0
  have c1 : w.cell? ⟨g, 1, none⟩ = some (.int .i64 s.e) := hR.cells 1
  have c2 : w.cell? ⟨g, 2, none⟩ = some (.int .i64 (s.at_ : Int)) := hR.cells 2
  by_cases h0 : s.e = 0
  · have HG := Lib.hid (fun W (h : W.cell? ⟨g, 1, none⟩ = some (.int .i64 0)) => flip_same (good_yes g W h))
    rw [h0] at c1
    by_cases h1 : s.at_ < s.xs.length
    · have HV : Hid (s.done = 52) := Lib.hid (by unfold Rd.done; rw [if_pos ⟨h0, h1⟩])
      generalize s.xs.length = n at *
      clear hs hR h0
      go_enter Try.func48, Try.ntmps48
      go_wp2_with fail
      go_quiet ((go_at_call 39; exact Calls.quiet_of_same (HG.out _ c1)))
      go_wp2_with fail
      go_ret
      exact ⟨by rw [HV.out]; rfl, _, rfl⟩
    · have HV : Hid (s.done = 0) := Lib.hid (by unfold Rd.done; rw [if_neg (fun h => h1 h.2)]; exact h0)
      have h2 : decide (s.at_ < s.xs.length) = false := decide_eq_false h1
      generalize s.xs.length = n at *
      clear hs hR h0 h1
      go_enter Try.func48, Try.ntmps48
      go_wp2_with fail
      go_quiet ((go_at_call 39; exact Calls.quiet_of_same (HG.out _ c1)))
      go_wp2_with fail
      go_ret
      exact ⟨by rw [HV.out]; rfl, _, rfl⟩
  · have HG := Lib.hid (fun W (h : W.cell? ⟨g, 1, none⟩ = some (.int .i64 s.e)) => flip_same (good_no g s.e h0 W h))
    have HV : Hid (s.done = s.e) := Lib.hid (by unfold Rd.done; rw [if_neg (fun h => h0 h.1)])
    generalize s.xs.length = n at *
    clear hs hR h0
    go_enter Try.func48, Try.ntmps48
    go_wp2_with fail
    go_quiet ((go_at_call 39; exact Calls.quiet_of_same (HG.out _ c1)))
    go_wp2_with fail
    go_ret
    exact ⟨by rw [HV.out]; rfl, _, rfl⟩
theorem rdone_any (g : Nat) (A : Option Addr) (c : Nat) (s : Rd) (hs : s.Ok) (w : World) (hR : RdAt w g A c s) :
    Calls Try.prog 48 #[.pointer (some ⟨g, 0, none⟩)] w (RdPost w g A c (.int .i64 s.done) s) :=
  (rdone_quiet g A c s hs w hR).mono fun _ _ ⟨he, k, hk⟩ => by subst he hk; exact RdPostC.of_quiet k hR rfl
theorem rdone_nil (w : World) : Calls Try.prog 48 #[.pointer none] w fun e w' => e = .returned (.int .i64 1) ∧ w = w' := by
  go_enter Try.func48, Try.ntmps48
  go_wp2_with fail
  go_ret
  exact ⟨rfl, rfl⟩
/-- A reader that is made. -/
def OpenPostC (C : Option Addr → Nat → Rd → Array Value) (w : World) (xs : List Nat) (e : Ending) (w' : World) : Prop := ∃ g A c, e = .returned (.pointer (some ⟨g, 0, none⟩)) ∧ w.heap.size ≤ g ∧ (∀ a, A = some a → w.heap.size ≤ a.block ∧ a.block < w'.heap.size) ∧ RdAtC C w' g A c ⟨xs, 0, 0⟩ ∧ Below w.heap.size w w'
set_option maxRecDepth 100000 in
set_option maxHeartbeats 1000000 in
theorem ropen_any (A : Option Addr) (n c : Nat) (xs : List Nat) (hn : xs.length = n) (hlen : n ≤ 1000000000) (w : World) (hB : Bys w A xs) : Calls Try.prog 45 #[.slice A n c] w (OpenPostC rdC w xs) := by
  have HN := Lib.hid hn
  have HB := Lib.hid hB
  clear hn hB
  go_enter Try.func45, Try.ntmps45
  go_wp2_with (first
    | (at_builtin; refine wpList_appb rfl _ _ rfl (.slice none 0 0) [] xs A n c (OwnB.nil _) HB.out rfl rfl HN.out (by have := HN.out; simp; omega) ?_; intro v' w3 hAp; obtain ⟨A3, c3, rfl⟩ := hAp.form; have HAp := Lib.hid hAp; clear hAp)
    | (refine wpList_build_to #[.slice A3 (([] : List Nat).length + xs.length) c3, .int .i64 0] rfl 68 _ rfl (by kernel_rfl) ?_)
    | (refine wpList_build_to #[.slice A3 (([] : List Nat).length + xs.length) c3, .int .i64 0, .int .i64 0] rfl 106 _ rfl (by kernel_rfl) ?_))
  go_ret
  have h1 := HAp.out.1
  rw [List.nil_append, show ([] : List Nat).length + xs.length = xs.length by simp] at h1
  have hgr := HAp.out.2.1
  have hb : Below w.heap.size w w3 := (Below.refl _ _).grown hgr (Nat.le_refl _) (fun k hk => by cases hk)
  have hfar : ∀ a, A3 = some a → a.block = w.heap.size := fun a ha => by
    subst ha
    rcases HAp.out.2.2 with h | h
    · cases h
    · simpa [Value.ownBlock] using h
  obtain ⟨A4, c4, e4, hBy, hle, hcap, htop, _⟩ := h1.form
  simp only [Value.slice.injEq, true_and] at e4
  obtain ⟨rfl, rfl⟩ := e4
  refine ⟨w3.heap.size, A3, c3, rfl, hb.size, fun a ha => ⟨by rw [hfar a ha]; exact Nat.le_refl _, by have h2 := h1.lt; subst ha; have h3 := h2 a.block rfl; rw [World.size_alloc]; omega⟩, ⟨row_at _ _ _ _ rfl, hBy.stay ((Below.refl _ _).alloc (Nat.le_refl _) _), hcap, htop, fun _ a ha => ?_, fun ha => ?_⟩, hb.trans (((Below.refl w3.heap.size w3).alloc (Nat.le_refl _) _).mono hb.size)⟩
  · rw [hfar a ha]
    have := h1.lt
    subst ha
    have := this a.block rfl
    rw [hfar a rfl] at this
    omega
  · subst ha
    exact h1.none_cap
end Go.Proofs.Ytkkncijbedfdfaa

/-
  Motions in memory of their own: moot.own; cells of a list that a call owns.
-/
import Derived.Test.YtnakkjgnjffkpaaMot
import Derived.RegionTactic
import Derived.Deep.Cut
import Derived.Deep.DeepCutAuto
import Derived.IntWalk
namespace Go.Proofs.Ytnakkjgnjffkpaa
open Go.RowKit
set_option linter.unusedVariables false

section
variable {α : Type} {T : TypeId} {C : Nat} {f : α → Array Value}
theorem flat_set {F : α → List Value} (hF : ∀ x, (F x).length = C) {x' : α} {i : Nat} (hi : i < C) {u : Value} : ∀ (l : List α) (j : Nat) (x : α), l[j]? = some x → F x' = (F x).set i u → (l.flatMap F).set (j * C + i) u = (l.set j x').flatMap F
  | [], j, x, h, _ => by simp at h
  | y :: r, 0, x, h, hf => by
    simp at h; subst h
    rw [List.set_cons_zero, List.flatMap_cons, List.flatMap_cons, Nat.zero_mul, Nat.zero_add, List.set_append_left _ _ (by rw [hF]; exact hi), hf]
  | y :: r, j + 1, x, h, hf => by
    simp at h
    rw [List.set_cons_succ, List.flatMap_cons, List.flatMap_cons, List.set_append_right _ _ (by rw [hF, Nat.add_mul]; omega), hF, show (j + 1) * C + i - C = j * C + i by rw [Nat.add_mul]; omega, flat_set hF hi r j x h hf]
/-- A cell of an element of a list that a call owns is set. -/
theorem OwnC.setAt (hC : ∀ x, (f x).size = C) {W : World} {B g n cap : Nat} {xs : List α} (h : OwnC T C f W B (.slice (some ⟨g, 0, none⟩) n cap) xs) {j i : Nat} {x x' : α} {u : Value} (hx : xs[j]? = some x) (hi : i < C) (hf : f x' = (f x).setIfInBounds i u) :
    OwnC T C f (W.setCell ⟨g, j * C + i, none⟩ u) B (.slice (some ⟨g, 0, none⟩) n cap) (xs.set j x') := by
  unfold OwnC at h ⊢
  have hl : (xs.set j x').length = xs.length := List.length_set ..
  have hF : ∀ x, ((f x).toList).length = C := fun x => by rw [Array.length_toList, hC]
  have hfl : ((xs.set j x').flatMap fun x => (f x).toList) = (xs.flatMap fun x => (f x).toList).set (j * C + i) u := by
    refine (flat_set (F := fun x => (f x).toList) hF hi xs j x hx ?_).symm
    rw [hf, Array.toList_setIfInBounds]
  rw [hl, hfl]
  refine ⟨by rw [List.length_set]; exact h.1, ?_⟩
  rcases h.2 with ⟨h1, _⟩ | ⟨g', cap', cur, h1, h2, h3, h4, h5, h6, h7⟩
  · cases h1
  · simp only [Value.slice.injEq, Option.some.injEq, Addr.mk.injEq, true_and, and_true] at h1
    obtain ⟨rfl, _, rfl⟩ := h1
    refine .inr ⟨g, cap, cur.setIfInBounds (j * C + i) u, ?_, h2, ?_, h4, h5, by rw [Array.size_setIfInBounds]; exact h6, ?_⟩
    · congr 1
    · unfold World.setCell
      simp [Array.getElem?_modify, h3]
    · rw [Array.toList_setIfInBounds, List.take_set, h7]
theorem OwnC.free {W : World} {B g n cap : Nat} {xs : List α} (h : OwnC T C f W B (.slice (some ⟨g, 0, none⟩) n cap) xs) (k : Nat) : W.frozen? ⟨g, k, none⟩ = false := by
  rcases h.2 with ⟨h1, _⟩ | ⟨g', cap', cur, h1, h2, h3, _⟩
  · cases h1
  · simp only [Value.slice.injEq, Option.some.injEq, Addr.mk.injEq, true_and, and_true] at h1
    obtain ⟨rfl, _, rfl⟩ := h1
    simp [World.frozen?, h3]
theorem OwnC.cellAt (hC : ∀ x, (f x).size = C) {W : World} {B g n cap : Nat} {xs : List α} (h : OwnC T C f W B (.slice (some ⟨g, 0, none⟩) n cap) xs) {j i : Nat} {x : α} {v : Value} (hx : xs[j]? = some x) (hv : (f x)[i]? = some v) : W.cell? ⟨g, j * C + i, none⟩ = some v := by
  obtain ⟨A', c', e, hs, _⟩ := h.form hC
  cases e
  obtain ⟨b, off, e, _, hc⟩ := hs (by have := (List.getElem?_eq_some_iff.1 hx).1; omega)
  cases e
  have := hc j x hx i v (by rw [Array.getElem?_toList]; exact hv)
  rwa [Nat.zero_add] at this
theorem OwnC.inBlock {W : World} {B g n cap : Nat} {xs : List α} (h : OwnC T C f W B (.slice (some ⟨g, 0, none⟩) n cap) xs) : B ≤ g ∧ g < W.heap.size := World.ownsRow.lt h g rfl
theorem OwnC.num {W : World} {B g n cap : Nat} {xs : List α} (h : OwnC T C f W B (.slice (some ⟨g, 0, none⟩) n cap) xs) : n = xs.length := by
  rcases h.2 with ⟨h1, _⟩ | ⟨g', cap', cur, h1, h2, h3, _⟩
  · cases h1
  · simp only [Value.slice.injEq, Option.some.injEq, Addr.mk.injEq, true_and, and_true] at h1
    exact h1.2.1
end
/-- A list of motions that a call owns in block g: it may be written. -/
structure MO (W : World) (B g n cap : Nat) (xs : List (Mot × MotA)) : Prop where
  own : OwnC 103 33 motC W B (.slice (some ⟨g, 0, none⟩) n cap) xs
  at_ : ∀ x ∈ xs, MotAt W x ∧ ∀ k, MotB x k → k ≠ g
  ok : ∀ x ∈ xs, x.1.Ok
theorem MO.ml {W : World} {B g n cap : Nat} {xs : List (Mot × MotA)} (h : MO W B g n cap xs) : ML W (some ⟨g, 0, none⟩) xs := by
  obtain ⟨A', c', e, hs, _⟩ := h.own.form motC_size
  cases e
  exact ⟨hs, fun x hx => (h.at_ x hx).1, h.ok⟩
theorem MO.stay {W W' : World} {B g n cap : Nat} {xs : List (Mot × MotA)} (h : MO W B g n cap xs) (hb : Below W.heap.size W W') : MO W' B g n cap xs := ⟨h.own.stay hb, fun x hx => ⟨(h.at_ x hx).1.stay hb, (h.at_ x hx).2⟩, h.ok⟩
theorem mem_set {α : Type} {l : List α} {j : Nat} {x' y : α} (h : y ∈ l.set j x') : y ∈ l ∨ y = x' := List.mem_or_eq_of_mem_set h
/-- A cell of a motion is set. -/
theorem MO.setAt {W : World} {B g n cap : Nat} {xs : List (Mot × MotA)} (h : MO W B g n cap xs) {j i : Nat} {x x' : Mot × MotA} {u : Value} (hx : xs[j]? = some x) (hi : i < 33) (hf : motC x' = (motC x).setIfInBounds i u) (hA : MotAt W x' ∧ ∀ k, MotB x' k → k ≠ g) (hok : x'.1.Ok) :
    MO (W.setCell ⟨g, j * 33 + i, none⟩ u) B g n cap (xs.set j x') := by
  have hc : Chg (fun k => k = g) W (W.setCell ⟨g, j * 33 + i, none⟩ u) := (Chg.refl (fun k => k = g) W).setCell (p := ⟨g, j * 33 + i, none⟩) (.inl rfl) u
  refine ⟨h.own.setAt motC_size hx hi hf, fun y hy => ?_, fun y hy => ?_⟩
  · rcases mem_set hy with hy | rfl
    · exact ⟨(h.at_ y hy).1.chg hc (h.at_ y hy).2, (h.at_ y hy).2⟩
    · exact ⟨hA.1.chg hc hA.2, hA.2⟩
  · rcases mem_set hy with hy | rfl
    · exact h.ok y hy
    · exact hok
theorem MO.below {W : World} {B g n cap : Nat} {xs : List (Mot × MotA)} (h : MO W B g n cap xs) {j : Nat} {u : Value} {w : World} (hb : Below w.heap.size w W) (hB : w.heap.size ≤ B) : Below w.heap.size w (W.setCell ⟨g, j, none⟩ u) := Below.setCell hb (p := ⟨g, j, none⟩) (Nat.le_trans hB h.own.inBlock.1) u
theorem motC_yes (m : Mot) (a : MotA) (l : List Nat) (A : Option Addr) (c : Nat) : motC ({ m with yes := l }, ⟨A, c, a.a2, a.c2⟩) = (motC (m, a)).setIfInBounds 31 (.slice A l.length c) := rfl
theorem motC_no (m : Mot) (a : MotA) (l : List Nat) (A : Option Addr) (c : Nat) : motC ({ m with no := l }, ⟨a.a1, a.c1, A, c⟩) = (motC (m, a)).setIfInBounds 32 (.slice A l.length c) := rfl
theorem motC_state (m : Mot) (a : MotA) (s : Int) : motC ({ m with state := s }, a) = (motC (m, a)).setIfInBounds 30 (.int .i64 s) := rfl
theorem motC_due (m : Mot) (a : MotA) (s : Int) : motC ({ m with due := s }, a) = (motC (m, a)).setIfInBounds 29 (.int .i64 s) := rfl
theorem map_set_same {xs : List (Mot × MotA)} {j : Nat} {x x' : Mot × MotA} (hx : xs[j]? = some x) (h : x'.1 = x.1) : (xs.set j x').map (·.1) = xs.map (·.1) := by
  rw [List.map_set, h]
  refine List.ext_getElem? fun k => ?_
  rw [List.getElem?_set]
  split
  · rename_i hk; subst hk
    split
    · rw [List.getElem?_map, hx]; rfl
    · rename_i hk
      rw [List.getElem?_eq_none (by omega)]
  · rfl
/-- Votes of a motion are set, both. -/
structure Fresh (W : World) (g : Nat) (A : Option Addr) (c : Nat) (l : List Nat) : Prop where
  bys : Bys W A l
  nil : A = none → c = 0
  far : ∀ a, A = some a → a.block ≠ g
theorem Fresh.of {w W W' : World} {g : Nat} {A : Option Addr} {c : Nat} {l : List Nat} (h : OwnB W (.slice A l.length c) l) (hA : ∀ a, A = some a → w.heap.size ≤ a.block) (hg : g < w.heap.size) (hb : Below W.heap.size W W') : Fresh W' g A c l := by
  obtain ⟨A', c', e, hB, _⟩ := h.form
  cases e
  exact ⟨hB.stay hb, h.nilcap, fun a ha he => by have := hA a ha; omega⟩
theorem MO.both {W : World} {B g n cap : Nat} {xs : List (Mot × MotA)} (h : MO W B g n cap xs) {j : Nat} {m : Mot} {a : MotA} (hx : xs[j]? = some (m, a)) {A2 A3 : Option Addr} {c2 c3 : Nat} (f2 : Fresh W g A2 c2 m.yes) (f3 : Fresh W g A3 c3 m.no) :
    MO ((W.setCell ⟨g, j * 33 + 31, none⟩ (.slice A2 m.yes.length c2)).setCell ⟨g, j * 33 + 32, none⟩ (.slice A3 m.no.length c3)) B g n cap (xs.set j (m, ⟨A2, c2, A3, c3⟩)) := by
  have hmem := List.mem_of_getElem? hx
  obtain ⟨ha, hb⟩ := h.at_ _ hmem
  have hok := h.ok _ hmem
  have hj : j < xs.length := (List.getElem?_eq_some_iff.1 hx).1
  have h1 := h.setAt (x' := (m, ⟨A2, c2, a.a2, a.c2⟩)) hx (i := 31) (by omega) (u := .slice A2 m.yes.length c2) rfl ⟨⟨f2.bys, ha.no, f2.nil, ha.n2⟩, fun k hk => hk.elim (fun ⟨_, b, hb1, hb2⟩ => hb2 ▸ f2.far b hb1) (fun hk => hb k (.inr hk))⟩ hok
  have hx1 : (xs.set j (m, ⟨A2, c2, a.a2, a.c2⟩))[j]? = some (m, ⟨A2, c2, a.a2, a.c2⟩) := by rw [List.getElem?_set]; simp [hj]
  have hc : Chg (fun k => k = g) W (W.setCell ⟨g, j * 33 + 31, none⟩ (.slice A2 m.yes.length c2)) := (Chg.refl (fun k => k = g) W).setCell (p := ⟨g, j * 33 + 31, none⟩) (.inl rfl) _
  obtain ⟨ha1, hb1⟩ := h1.at_ _ (List.mem_of_getElem? hx1)
  have h2 := h1.setAt (x' := (m, ⟨A2, c2, A3, c3⟩)) hx1 (i := 32) (by omega) (u := .slice A3 m.no.length c3) rfl ⟨⟨ha1.yes, f3.bys.chg hc (fun x hx => f3.far x hx), ha1.n1, f3.nil⟩, fun k hk => hk.elim (fun hk => hb1 k (.inl hk)) (fun ⟨_, b, hb1, hb2⟩ => hb2 ▸ f3.far b hb1)⟩ hok
  rwa [List.set_set] at h2
theorem MO.both' {W : World} {B g n cap : Nat} {xs : List (Mot × MotA)} (h : MO W B g n cap xs) {j : Nat} {m : Mot} {a : MotA} (hx : xs[j]? = some (m, a)) {A2 A3 : Option Addr} {c2 c3 : Nat} (f2 : Fresh W g A2 c2 m.yes) (f3 : Fresh W g A3 c3 m.no) :
    MO ((W.setCell ⟨g, j * 33 + 32, none⟩ (.slice A3 m.no.length c3)).setCell ⟨g, j * 33 + 31, none⟩ (.slice A2 m.yes.length c2)) B g n cap (xs.set j (m, ⟨A2, c2, A3, c3⟩)) := by
  have hmem := List.mem_of_getElem? hx
  obtain ⟨ha, hb⟩ := h.at_ _ hmem
  have hok := h.ok _ hmem
  have hj : j < xs.length := (List.getElem?_eq_some_iff.1 hx).1
  have h1 := h.setAt (x' := (m, ⟨a.a1, a.c1, A3, c3⟩)) hx (i := 32) (by omega) (u := .slice A3 m.no.length c3) rfl ⟨⟨ha.yes, f3.bys, ha.n1, f3.nil⟩, fun k hk => hk.elim (fun hk => hb k (.inl hk)) (fun ⟨_, b, hb1, hb2⟩ => hb2 ▸ f3.far b hb1)⟩ hok
  have hx1 : (xs.set j (m, ⟨a.a1, a.c1, A3, c3⟩))[j]? = some (m, ⟨a.a1, a.c1, A3, c3⟩) := by rw [List.getElem?_set]; simp [hj]
  have hc : Chg (fun k => k = g) W (W.setCell ⟨g, j * 33 + 32, none⟩ (.slice A3 m.no.length c3)) := (Chg.refl (fun k => k = g) W).setCell (p := ⟨g, j * 33 + 32, none⟩) (.inl rfl) _
  obtain ⟨ha1, hb1⟩ := h1.at_ _ (List.mem_of_getElem? hx1)
  have h2 := h1.setAt (x' := (m, ⟨A2, c2, A3, c3⟩)) hx1 (i := 31) (by omega) (u := .slice A2 m.yes.length c2) rfl ⟨⟨f2.bys.chg hc (fun x hx => f2.far x hx), ha1.no, f2.nil, ha1.n2⟩, fun k hk => hk.elim (fun ⟨_, b, hb1, hb2⟩ => hb2 ▸ f2.far b hb1) (fun hk => hb1 k (.inr hk))⟩ hok
  rwa [List.set_set] at h2
/-- What own leaves: the same motions, in memory of its own. -/
def OwnMo (w : World) (L : List Mot) (e : Ending) (w' : World) : Prop := Below w.heap.size w w' ∧ ((L = [] ∧ ∃ A c, e = .returned (.slice A 0 c) ∧ (A = none → c = 0) ∧ (∀ a, A = some a → w.heap.size ≤ a.block) ∧ OwnC 103 33 motC w' w.heap.size (.slice A 0 c) []) ∨ ∃ g n cap xs, e = .returned (.slice (some ⟨g, 0, none⟩) n cap) ∧ MO w' w.heap.size g n cap xs ∧ xs.map (·.1) = L)
set_option maxRecDepth 100000 in
set_option maxHeartbeats 8000000 in
theorem mown_any (A : Option Addr) (n c : Nat) (xs : List (Mot × MotA)) (hn : xs.length = n) (h0 : A = none → c = 0) (hm : n ≤ 1000) (w : World) (hX : ML w A xs) (hf : ∀ x ∈ xs, x.1.yes.length ≤ 1000000 ∧ x.1.no.length ≤ 1000000) : Calls Try.prog 88 #[.slice A n c] w (OwnMo w (xs.map (·.1))) := by
  have HCl := Lib.hid (clone_mots A n c xs hn h0 (by omega) w hX.sl)
  have HX := Lib.hid hX
  have HF := Lib.hid hf
  have HN := Lib.hid hn
  clear hX hf h0 hn
  go_enter Try.func88, Try.ntmps88
  go_wp2_with fail
  refine (HCl.out).mono ?_
  rintro e w1 ⟨A1, c1, rfl, hO1, hb1, hz1⟩
  rw [HN.out] at hO1 ⊢
  by_cases hn0 : n = 0
  · subst hn0
    have hxs : xs = [] := List.eq_nil_of_length_eq_zero HN.out
    have HO1 : Hid (OwnMo w (xs.map (·.1)) (.returned (.slice A1 0 c1)) w1) := Lib.hid ⟨hb1, .inl ⟨by rw [hxs]; rfl, A1, c1, rfl, hz1, (fun a ha => by subst ha; exact (hO1.lt _ rfl).1), by rw [hxs] at hO1; exact hO1⟩⟩
    clear hO1 hb1 hz1 HX HF hxs
    go_wp2_with fail
    go_loopw [9] (fun i wr => i = .int .i64 0 ∧ wr = w1) (fun i _ => 0)
    case atStart => exact ⟨rfl, rfl⟩
    case round =>
      obtain ⟨rfl, rfl⟩ := hrel
      go_wp2_with fail
      go_ret
      exact HO1.out
  · obtain ⟨g, rfl⟩ : ∃ g, A1 = some ⟨g, 0, none⟩ := by
      rcases hO1.2 with ⟨h1, h2⟩ | ⟨g', cap', cur, h1, _⟩
      · rw [HN.out] at h2; exact absurd h2 hn0
      · cases h1; exact ⟨_, rfl⟩
    have hM : MO w1 w.heap.size g n c1 xs := ⟨hO1, fun x hx => ⟨(HX.out.at_ x hx).stay hb1, fun k hk he => by
      have h1 := (HX.out.at_ x hx).lt hk
      have h2 := hO1.inBlock.1
      omega⟩, HX.out.ok⟩
    have HM := Lib.hid hM
    have HB := Lib.hid hb1
    clear hO1 hb1 hz1 hM HX
    go_wp2_with fail
    go_loopw [9] (fun i wr => ∃ (j : Nat) (ys : List (Mot × MotA)), i = .int .i64 j ∧ j ≤ n ∧ Hid (MO wr w.heap.size g n c1 ys ∧ ys.map (·.1) = xs.map (·.1) ∧ Below w.heap.size w wr)) (fun i _ => n - (intOf i).toNat)
    case atStart => exact ⟨0, xs, rfl, by omega, Lib.hid ⟨HM.out, rfl, HB.out⟩⟩
    case round =>
      obtain ⟨j, ys, rfl, hj, hH⟩ := hrel
      clear HM HB
      by_cases hlt : j < n
      · obtain ⟨⟨m, a⟩, hx⟩ : ∃ x, ys[j]? = some x := ⟨_, List.getElem?_eq_getElem (by rw [← hH.out.1.own.num]; exact hlt)⟩
        have hmem := List.mem_of_getElem? hx
        have hlen : m.yes.length ≤ 1000000 ∧ m.no.length ≤ 1000000 := by
          have : m ∈ xs.map (·.1) := by rw [← hH.out.2.1]; exact List.mem_map.2 ⟨_, hmem, rfl⟩
          obtain ⟨y, hy, rfl⟩ := List.mem_map.1 this
          exact HF.out y hy
        have hat := (hH.out.1.at_ _ hmem).1
        have HC1 : Hid (∀ W, Below wr.heap.size wr W → Calls Try.prog 87 #[.slice a.a1 m.yes.length a.c1] W (CloneB W m.yes)) := Lib.hid fun W h => clone_bytes a.a1 _ a.c1 m.yes rfl hat.n1 hlen.1 W (hat.yes.below h (Nat.le_refl _))
        have HC2 : Hid (∀ W, Below wr.heap.size wr W → Calls Try.prog 87 #[.slice a.a2 m.no.length a.c2] W (CloneB W m.no)) := Lib.hid fun W h => clone_bytes a.a2 _ a.c2 m.no rfl hat.n2 hlen.2 W (hat.no.below h (Nat.le_refl _))
        have HXj := Lib.hid hx
        have HK : Hid (∀ W, Below wr.heap.size wr W → W.cell? ⟨g, j * 33 + 31, none⟩ = some (.slice a.a1 m.yes.length a.c1) ∧ W.cell? ⟨g, j * 33 + 32, none⟩ = some (.slice a.a2 m.no.length a.c2) ∧ W.frozen? ⟨g, j * 33 + 31, none⟩ = false ∧ W.frozen? ⟨g, j * 33 + 32, none⟩ = false) := Lib.hid fun W h =>
          ⟨((hH.out.1.stay h).own.cellAt motC_size HXj.out (i := 31) rfl), ((hH.out.1.stay h).own.cellAt motC_size HXj.out (i := 32) rfl), (hH.out.1.stay h).own.free _, (hH.out.1.stay h).own.free _⟩
        obtain ⟨k31, k32, e31, e32⟩ := HK.out wr (Below.refl _ _)
        have z1 : (0 : Int) ≤ (j : Int) := by omega
        have z2 : (j : Int) < (n : Int) := by omega
        clear hx hmem hlen hat
        go_upto_region 5 with fail
        go_region_with (first | (go_at_call_of 87 a.a1; refine (HC1.out _ (by (repeat (first | exact Below.refl _ _ | assumption | (refine Below.allocT ?_ _) | refine Below.drew ?_ | refine below_drewN ?_ _ | (refine Below.then ?_ (by assumption)) | (refine Below.setRow ?_ ?_ _; rotate_left; (focus (first | exact Nat.lt_succ_self _ | ((repeat rw [World.size_alloc]); omega) | (simp; done) | (simp; omega) | omega))) | (refine Below.setCell ?_ ?_ _; rotate_left; (focus (first | exact Nat.lt_succ_self _ | ((repeat rw [World.size_alloc]); omega) | (simp; done) | (simp; omega) | omega))) | (refine Below.then' ?_ (by assumption) ?_; rotate_left; (focus (first | exact Nat.lt_succ_self _ | ((repeat rw [World.size_alloc]); omega) | (simp; done) | (simp; omega) | omega))) | fail)); (first | done | fail))).mono ?_; rintro e w2 ⟨A2, c2, rfl, hO2, hA2, hb2⟩; have hB2 : Below wr.heap.size wr w2 := (by (repeat (first | exact Below.refl _ _ | assumption | (refine Below.allocT ?_ _) | refine Below.drew ?_ | refine below_drewN ?_ _ | (refine Below.then ?_ (by assumption)) | (refine Below.setRow ?_ ?_ _; rotate_left; (focus (first | exact Nat.lt_succ_self _ | ((repeat rw [World.size_alloc]); omega) | (simp; done) | (simp; omega) | omega))) | (refine Below.setCell ?_ ?_ _; rotate_left; (focus (first | exact Nat.lt_succ_self _ | ((repeat rw [World.size_alloc]); omega) | (simp; done) | (simp; omega) | omega))) | (refine Below.then' ?_ (by assumption) ?_; rotate_left; (focus (first | exact Nat.lt_succ_self _ | ((repeat rw [World.size_alloc]); omega) | (simp; done) | (simp; omega) | omega))) | fail)); (first | done | fail)); obtain ⟨k31, k32, e31, e32⟩ := HK.out w2 hB2) | (go_at_call_of 87 a.a2; refine (HC2.out _ (by (repeat (first | exact Below.refl _ _ | assumption | (refine Below.allocT ?_ _) | refine Below.drew ?_ | refine below_drewN ?_ _ | (refine Below.then ?_ (by assumption)) | (refine Below.setRow ?_ ?_ _; rotate_left; (focus (first | exact Nat.lt_succ_self _ | ((repeat rw [World.size_alloc]); omega) | (simp; done) | (simp; omega) | omega))) | (refine Below.setCell ?_ ?_ _; rotate_left; (focus (first | exact Nat.lt_succ_self _ | ((repeat rw [World.size_alloc]); omega) | (simp; done) | (simp; omega) | omega))) | (refine Below.then' ?_ (by assumption) ?_; rotate_left; (focus (first | exact Nat.lt_succ_self _ | ((repeat rw [World.size_alloc]); omega) | (simp; done) | (simp; omega) | omega))) | fail)); (first | done | fail))).mono ?_; rintro e w3 ⟨A3, c3, rfl, hO3, hA3, hb3⟩; have hB3 : Below wr.heap.size wr w3 := (by (repeat (first | exact Below.refl _ _ | assumption | (refine Below.allocT ?_ _) | refine Below.drew ?_ | refine below_drewN ?_ _ | (refine Below.then ?_ (by assumption)) | (refine Below.setRow ?_ ?_ _; rotate_left; (focus (first | exact Nat.lt_succ_self _ | ((repeat rw [World.size_alloc]); omega) | (simp; done) | (simp; omega) | omega))) | (refine Below.setCell ?_ ?_ _; rotate_left; (focus (first | exact Nat.lt_succ_self _ | ((repeat rw [World.size_alloc]); omega) | (simp; done) | (simp; omega) | omega))) | (refine Below.then' ?_ (by assumption) ?_; rotate_left; (focus (first | exact Nat.lt_succ_self _ | ((repeat rw [World.size_alloc]); omega) | (simp; done) | (simp; omega) | omega))) | fail)); (first | done | fail)); obtain ⟨k31, k32, e31, e32⟩ := HK.out w3 hB3))
        all_goals
          have hg := hH.out.1.own.inBlock.2
          have F2 := Lib.hid (Fresh.of (W' := w3) hO2 hA2 (show g < wr.drew.heap.size from hg) hb3)
          have F3 := Lib.hid (Fresh.of (W' := w3) hO3 hA3 (show g < w2.heap.size from Nat.lt_of_lt_of_le hg hB2.size) (Below.refl _ _))
          have HM3 := Lib.hid (hH.out.1.stay hB3)
          have HB3 := Lib.hid (Below.then hH.out.2.2 hB3)
          have HMp := Lib.hid (map_set_same (x' := (m, ⟨A2, c2, A3, c3⟩)) HXj.out rfl)
          clear hO2 hO3 hb2 hb3 hA2 hA3 hB2 hB3 k31 k32 e31 e32
          go_wp2_with fail
          refine ⟨⟨j + 1, ys.set j (m, ⟨A2, c2, A3, c3⟩), by go_num, by omega, Lib.hid ⟨?_, HMp.out.trans hH.out.2.1, ?_⟩⟩, by simp [intOf]; omega⟩
          · first | exact HM3.out.both HXj.out F2.out F3.out | exact HM3.out.both' HXj.out F2.out F3.out
          · have hBg : w.heap.size ≤ g := HM3.out.own.inBlock.1
            first
              | exact Below.setCell (Below.setCell HB3.out (p := ⟨g, j * 33 + 31, none⟩) hBg _) (p := ⟨g, j * 33 + 32, none⟩) hBg _
              | exact Below.setCell (Below.setCell HB3.out (p := ⟨g, j * 33 + 32, none⟩) hBg _) (p := ⟨g, j * 33 + 31, none⟩) hBg _
      · obtain rfl : j = n := by omega
        go_wp2_with fail
        go_ret
        exact ⟨hH.out.2.2, .inr ⟨g, j, c1, ys, rfl, hH.out.1, hH.out.2.1⟩⟩
end Go.Proofs.Ytnakkjgnjffkpaa

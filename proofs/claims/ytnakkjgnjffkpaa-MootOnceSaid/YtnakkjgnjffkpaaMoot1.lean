/-
  Motions in memory of their own: moot.own; cells of a list that a call owns.
  A vote on a motion: the closure of moot.Vote.
  What moot.Vote and moot.Finish answer; the first motion that is over.
-/
import Derived.Test.YtnakkjgnjffkpaaMot
import Derived.RegionTactic
import Derived.Deep.Cut
import Derived.Deep.DeepCutAuto
import Derived.IntWalk
import Derived.Test.YtnakkjgnjffkpaaBits7
import Derived.Test.YtnakkjgnjffkpaaCalmV
namespace Go.Proofs.Ytnakkjgnjffkpaa
open Go.RowKit
set_option linter.unusedVariables false

section
variable {α : Type} {T : TypeId} {C : Nat} {f : α → Array Value}
theorem flat_set {F : α → List Value} (hF : ∀ x, (F x).length = C) {x' : α} {i : Nat} (hi : i < C) {u : Value} : ∀ (l : List α) (j : Nat) (x : α), l[j]? = some x → F x' = (F x).set i u → (l.flatMap F).set (j * C + i) u = (l.set j x').flatMap F
  | [], j, x, h, _ => by simp at h
  | y :: r, 0, x, h, hf => by
    simp at h; subst h
    rw [List.set_cons_zero, List.flatMap_cons, List.flatMap_cons, Nat.zero_mul, Nat.zero_add, List.set_append_left _ _ (by rw [hF]; exact hi), hf]
  | y :: r, j + 1, x, h, hf => by
    simp at h
    rw [List.set_cons_succ, List.flatMap_cons, List.flatMap_cons, List.set_append_right _ _ (by rw [hF, Nat.add_mul]; omega), hF, show (j + 1) * C + i - C = j * C + i by rw [Nat.add_mul]; omega, flat_set hF hi r j x h hf]
/-- A cell of an element of a list that a call owns is set. -/
theorem OwnC.setAt (hC : ∀ x, (f x).size = C) {W : World} {B g n cap : Nat} {xs : List α} (h : OwnC T C f W B (.slice (some ⟨g, 0, none⟩) n cap) xs) {j i : Nat} {x x' : α} {u : Value} (hx : xs[j]? = some x) (hi : i < C) (hf : f x' = (f x).setIfInBounds i u) :
    OwnC T C f (W.setCell ⟨g, j * C + i, none⟩ u) B (.slice (some ⟨g, 0, none⟩) n cap) (xs.set j x') := by
  unfold OwnC at h ⊢
  have hl : (xs.set j x').length = xs.length := List.length_set ..
  have hF : ∀ x, ((f x).toList).length = C := fun x => by rw [Array.length_toList, hC]
  have hfl : ((xs.set j x').flatMap fun x => (f x).toList) = (xs.flatMap fun x => (f x).toList).set (j * C + i) u := by
    refine (flat_set (F := fun x => (f x).toList) hF hi xs j x hx ?_).symm
    rw [hf, Array.toList_setIfInBounds]
  rw [hl, hfl]
  refine ⟨by rw [List.length_set]; exact h.1, ?_⟩
  rcases h.2 with ⟨h1, _⟩ | ⟨g', cap', cur, h1, h2, h3, h4, h5, h6, h7⟩
  · cases h1
  · simp only [Value.slice.injEq, Option.some.injEq, Addr.mk.injEq, true_and, and_true] at h1
    obtain ⟨rfl, _, rfl⟩ := h1
    refine .inr ⟨g, cap, cur.setIfInBounds (j * C + i) u, ?_, h2, ?_, h4, h5, by rw [Array.size_setIfInBounds]; exact h6, ?_⟩
    · congr 1
    · unfold World.setCell
      simp [Array.getElem?_modify, h3]
    · rw [Array.toList_setIfInBounds, List.take_set, h7]
theorem OwnC.free {W : World} {B g n cap : Nat} {xs : List α} (h : OwnC T C f W B (.slice (some ⟨g, 0, none⟩) n cap) xs) (k : Nat) : W.frozen? ⟨g, k, none⟩ = false := by
  rcases h.2 with ⟨h1, _⟩ | ⟨g', cap', cur, h1, h2, h3, _⟩
  · cases h1
  · simp only [Value.slice.injEq, Option.some.injEq, Addr.mk.injEq, true_and, and_true] at h1
    obtain ⟨rfl, _, rfl⟩ := h1
    simp [World.frozen?, h3]
theorem OwnC.cellAt (hC : ∀ x, (f x).size = C) {W : World} {B g n cap : Nat} {xs : List α} (h : OwnC T C f W B (.slice (some ⟨g, 0, none⟩) n cap) xs) {j i : Nat} {x : α} {v : Value} (hx : xs[j]? = some x) (hv : (f x)[i]? = some v) : W.cell? ⟨g, j * C + i, none⟩ = some v := by
  obtain ⟨A', c', e, hs, _⟩ := h.form hC
  cases e
  obtain ⟨b, off, e, _, hc⟩ := hs (by have := (List.getElem?_eq_some_iff.1 hx).1; omega)
  cases e
  have := hc j x hx i v (by rw [Array.getElem?_toList]; exact hv)
  rwa [Nat.zero_add] at this
theorem OwnC.inBlock {W : World} {B g n cap : Nat} {xs : List α} (h : OwnC T C f W B (.slice (some ⟨g, 0, none⟩) n cap) xs) : B ≤ g ∧ g < W.heap.size := World.ownsRow.lt h g rfl
theorem OwnC.num {W : World} {B g n cap : Nat} {xs : List α} (h : OwnC T C f W B (.slice (some ⟨g, 0, none⟩) n cap) xs) : n = xs.length := by
  rcases h.2 with ⟨h1, _⟩ | ⟨g', cap', cur, h1, h2, h3, _⟩
  · cases h1
  · simp only [Value.slice.injEq, Option.some.injEq, Addr.mk.injEq, true_and, and_true] at h1
    exact h1.2.1
end
/-- A list of motions that a call owns in block g: it may be written. -/
structure MO (W : World) (B g n cap : Nat) (xs : List (Mot × MotA)) : Prop where
  own : OwnC 103 33 motC W B (.slice (some ⟨g, 0, none⟩) n cap) xs
  at_ : ∀ x ∈ xs, MotAt W x ∧ ∀ k, MotB x k → k ≠ g
  ok : ∀ x ∈ xs, x.1.Ok
theorem MO.ml {W : World} {B g n cap : Nat} {xs : List (Mot × MotA)} (h : MO W B g n cap xs) : ML W (some ⟨g, 0, none⟩) xs := by
  obtain ⟨A', c', e, hs, _⟩ := h.own.form motC_size
  cases e
  exact ⟨hs, fun x hx => (h.at_ x hx).1, h.ok⟩
theorem MO.stay {W W' : World} {B g n cap : Nat} {xs : List (Mot × MotA)} (h : MO W B g n cap xs) (hb : Below W.heap.size W W') : MO W' B g n cap xs := ⟨h.own.stay hb, fun x hx => ⟨(h.at_ x hx).1.stay hb, (h.at_ x hx).2⟩, h.ok⟩
theorem mem_set {α : Type} {l : List α} {j : Nat} {x' y : α} (h : y ∈ l.set j x') : y ∈ l ∨ y = x' := List.mem_or_eq_of_mem_set h
/-- A cell of a motion is set. -/
theorem MO.setAt {W : World} {B g n cap : Nat} {xs : List (Mot × MotA)} (h : MO W B g n cap xs) {j i : Nat} {x x' : Mot × MotA} {u : Value} (hx : xs[j]? = some x) (hi : i < 33) (hf : motC x' = (motC x).setIfInBounds i u) (hA : MotAt W x' ∧ ∀ k, MotB x' k → k ≠ g) (hok : x'.1.Ok) :
    MO (W.setCell ⟨g, j * 33 + i, none⟩ u) B g n cap (xs.set j x') := by
  have hc : Chg (fun k => k = g) W (W.setCell ⟨g, j * 33 + i, none⟩ u) := (Chg.refl (fun k => k = g) W).setCell (p := ⟨g, j * 33 + i, none⟩) (.inl rfl) u
  refine ⟨h.own.setAt motC_size hx hi hf, fun y hy => ?_, fun y hy => ?_⟩
  · rcases mem_set hy with hy | rfl
    · exact ⟨(h.at_ y hy).1.chg hc (h.at_ y hy).2, (h.at_ y hy).2⟩
    · exact ⟨hA.1.chg hc hA.2, hA.2⟩
  · rcases mem_set hy with hy | rfl
    · exact h.ok y hy
    · exact hok
theorem MO.below {W : World} {B g n cap : Nat} {xs : List (Mot × MotA)} (h : MO W B g n cap xs) {j : Nat} {u : Value} {w : World} (hb : Below w.heap.size w W) (hB : w.heap.size ≤ B) : Below w.heap.size w (W.setCell ⟨g, j, none⟩ u) := Below.setCell hb (p := ⟨g, j, none⟩) (Nat.le_trans hB h.own.inBlock.1) u
theorem motC_yes (m : Mot) (a : MotA) (l : List Nat) (A : Option Addr) (c : Nat) : motC ({ m with yes := l }, ⟨A, c, a.a2, a.c2⟩) = (motC (m, a)).setIfInBounds 31 (.slice A l.length c) := rfl
theorem motC_no (m : Mot) (a : MotA) (l : List Nat) (A : Option Addr) (c : Nat) : motC ({ m with no := l }, ⟨a.a1, a.c1, A, c⟩) = (motC (m, a)).setIfInBounds 32 (.slice A l.length c) := rfl
theorem motC_state (m : Mot) (a : MotA) (s : Int) : motC ({ m with state := s }, a) = (motC (m, a)).setIfInBounds 30 (.int .i64 s) := rfl
theorem motC_due (m : Mot) (a : MotA) (s : Int) : motC ({ m with due := s }, a) = (motC (m, a)).setIfInBounds 29 (.int .i64 s) := rfl
theorem map_set_same {xs : List (Mot × MotA)} {j : Nat} {x x' : Mot × MotA} (hx : xs[j]? = some x) (h : x'.1 = x.1) : (xs.set j x').map (·.1) = xs.map (·.1) := by
  rw [List.map_set, h]
  refine List.ext_getElem? fun k => ?_
  rw [List.getElem?_set]
  split
  · rename_i hk; subst hk
    split
    · rw [List.getElem?_map, hx]; rfl
    · rename_i hk
      rw [List.getElem?_eq_none (by omega)]
  · rfl
/-- Votes of a motion are set, both. -/
structure Fresh (W : World) (g : Nat) (A : Option Addr) (c : Nat) (l : List Nat) : Prop where
  bys : Bys W A l
  nil : A = none → c = 0
  far : ∀ a, A = some a → a.block ≠ g
theorem Fresh.of {w W W' : World} {g : Nat} {A : Option Addr} {c : Nat} {l : List Nat} (h : OwnB W (.slice A l.length c) l) (hA : ∀ a, A = some a → w.heap.size ≤ a.block) (hg : g < w.heap.size) (hb : Below W.heap.size W W') : Fresh W' g A c l := by
  obtain ⟨A', c', e, hB, _⟩ := h.form
  cases e
  exact ⟨hB.stay hb, h.nilcap, fun a ha he => by have := hA a ha; omega⟩
theorem MO.both {W : World} {B g n cap : Nat} {xs : List (Mot × MotA)} (h : MO W B g n cap xs) {j : Nat} {m : Mot} {a : MotA} (hx : xs[j]? = some (m, a)) {A2 A3 : Option Addr} {c2 c3 : Nat} (f2 : Fresh W g A2 c2 m.yes) (f3 : Fresh W g A3 c3 m.no) :
    MO ((W.setCell ⟨g, j * 33 + 31, none⟩ (.slice A2 m.yes.length c2)).setCell ⟨g, j * 33 + 32, none⟩ (.slice A3 m.no.length c3)) B g n cap (xs.set j (m, ⟨A2, c2, A3, c3⟩)) := by
  have hmem := List.mem_of_getElem? hx
  obtain ⟨ha, hb⟩ := h.at_ _ hmem
  have hok := h.ok _ hmem
  have hj : j < xs.length := (List.getElem?_eq_some_iff.1 hx).1
  have h1 := h.setAt (x' := (m, ⟨A2, c2, a.a2, a.c2⟩)) hx (i := 31) (by omega) (u := .slice A2 m.yes.length c2) rfl ⟨⟨f2.bys, ha.no, f2.nil, ha.n2⟩, fun k hk => hk.elim (fun ⟨_, b, hb1, hb2⟩ => hb2 ▸ f2.far b hb1) (fun hk => hb k (.inr hk))⟩ hok
  have hx1 : (xs.set j (m, ⟨A2, c2, a.a2, a.c2⟩))[j]? = some (m, ⟨A2, c2, a.a2, a.c2⟩) := by rw [List.getElem?_set]; simp [hj]
  have hc : Chg (fun k => k = g) W (W.setCell ⟨g, j * 33 + 31, none⟩ (.slice A2 m.yes.length c2)) := (Chg.refl (fun k => k = g) W).setCell (p := ⟨g, j * 33 + 31, none⟩) (.inl rfl) _
  obtain ⟨ha1, hb1⟩ := h1.at_ _ (List.mem_of_getElem? hx1)
  have h2 := h1.setAt (x' := (m, ⟨A2, c2, A3, c3⟩)) hx1 (i := 32) (by omega) (u := .slice A3 m.no.length c3) rfl ⟨⟨ha1.yes, f3.bys.chg hc (fun x hx => f3.far x hx), ha1.n1, f3.nil⟩, fun k hk => hk.elim (fun hk => hb1 k (.inl hk)) (fun ⟨_, b, hb1, hb2⟩ => hb2 ▸ f3.far b hb1)⟩ hok
  rwa [List.set_set] at h2
theorem MO.both' {W : World} {B g n cap : Nat} {xs : List (Mot × MotA)} (h : MO W B g n cap xs) {j : Nat} {m : Mot} {a : MotA} (hx : xs[j]? = some (m, a)) {A2 A3 : Option Addr} {c2 c3 : Nat} (f2 : Fresh W g A2 c2 m.yes) (f3 : Fresh W g A3 c3 m.no) :
    MO ((W.setCell ⟨g, j * 33 + 32, none⟩ (.slice A3 m.no.length c3)).setCell ⟨g, j * 33 + 31, none⟩ (.slice A2 m.yes.length c2)) B g n cap (xs.set j (m, ⟨A2, c2, A3, c3⟩)) := by
  have hmem := List.mem_of_getElem? hx
  obtain ⟨ha, hb⟩ := h.at_ _ hmem
  have hok := h.ok _ hmem
  have hj : j < xs.length := (List.getElem?_eq_some_iff.1 hx).1
  have h1 := h.setAt (x' := (m, ⟨a.a1, a.c1, A3, c3⟩)) hx (i := 32) (by omega) (u := .slice A3 m.no.length c3) rfl ⟨⟨ha.yes, f3.bys, ha.n1, f3.nil⟩, fun k hk => hk.elim (fun hk => hb k (.inl hk)) (fun ⟨_, b, hb1, hb2⟩ => hb2 ▸ f3.far b hb1)⟩ hok
  have hx1 : (xs.set j (m, ⟨a.a1, a.c1, A3, c3⟩))[j]? = some (m, ⟨a.a1, a.c1, A3, c3⟩) := by rw [List.getElem?_set]; simp [hj]
  have hc : Chg (fun k => k = g) W (W.setCell ⟨g, j * 33 + 32, none⟩ (.slice A3 m.no.length c3)) := (Chg.refl (fun k => k = g) W).setCell (p := ⟨g, j * 33 + 32, none⟩) (.inl rfl) _
  obtain ⟨ha1, hb1⟩ := h1.at_ _ (List.mem_of_getElem? hx1)
  have h2 := h1.setAt (x' := (m, ⟨A2, c2, A3, c3⟩)) hx1 (i := 31) (by omega) (u := .slice A2 m.yes.length c2) rfl ⟨⟨f2.bys.chg hc (fun x hx => f2.far x hx), ha1.no, f2.nil, ha1.n2⟩, fun k hk => hk.elim (fun ⟨_, b, hb1, hb2⟩ => hb2 ▸ f2.far b hb1) (fun hk => hb1 k (.inr hk))⟩ hok
  rwa [List.set_set] at h2
/-- What own leaves: the same motions, in memory of its own. -/
def OwnMo (w : World) (L : List Mot) (e : Ending) (w' : World) : Prop := Below w.heap.size w w' ∧ ((L = [] ∧ ∃ A c, e = .returned (.slice A 0 c) ∧ (A = none → c = 0) ∧ (∀ a, A = some a → w.heap.size ≤ a.block) ∧ OwnC 103 33 motC w' w.heap.size (.slice A 0 c) []) ∨ ∃ g n cap xs, e = .returned (.slice (some ⟨g, 0, none⟩) n cap) ∧ MO w' w.heap.size g n cap xs ∧ xs.map (·.1) = L)
set_option maxRecDepth 100000 in
set_option maxHeartbeats 8000000 in
theorem mown_any (A : Option Addr) (n c : Nat) (xs : List (Mot × MotA)) (hn : xs.length = n) (h0 : A = none → c = 0) (hm : n ≤ 1000) (w : World) (hX : ML w A xs) (hf : ∀ x ∈ xs, x.1.yes.length ≤ 1000000 ∧ x.1.no.length ≤ 1000000) : Calls Try.prog 88 #[.slice A n c] w (OwnMo w (xs.map (·.1))) := by
  have HCl := Lib.hid (clone_mots A n c xs hn h0 (by omega) w hX.sl)
  have HX := Lib.hid hX
  have HF := Lib.hid hf
  have HN := Lib.hid hn
  clear hX hf h0 hn
  go_enter Try.func88, Try.ntmps88
  go_wp2_with fail
  refine (HCl.out).mono ?_
  rintro e w1 ⟨A1, c1, rfl, hO1, hb1, hz1⟩
  rw [HN.out] at hO1 ⊢
  by_cases hn0 : n = 0
  · subst hn0
    have hxs : xs = [] := List.eq_nil_of_length_eq_zero HN.out
    have HO1 : Hid (OwnMo w (xs.map (·.1)) (.returned (.slice A1 0 c1)) w1) := Lib.hid ⟨hb1, .inl ⟨by rw [hxs]; rfl, A1, c1, rfl, hz1, (fun a ha => by subst ha; exact (hO1.lt _ rfl).1), by rw [hxs] at hO1; exact hO1⟩⟩
    clear hO1 hb1 hz1 HX HF hxs
    go_wp2_with fail
    go_loopw [9] (fun i wr => i = .int .i64 0 ∧ wr = w1) (fun i _ => 0)
    case atStart => exact ⟨rfl, rfl⟩
    case round =>
      obtain ⟨rfl, rfl⟩ := hrel
      go_wp2_with fail
      go_ret
      exact HO1.out
  · obtain ⟨g, rfl⟩ : ∃ g, A1 = some ⟨g, 0, none⟩ := by
      rcases hO1.2 with ⟨h1, h2⟩ | ⟨g', cap', cur, h1, _⟩
      · rw [HN.out] at h2; exact absurd h2 hn0
      · cases h1; exact ⟨_, rfl⟩
    have hM : MO w1 w.heap.size g n c1 xs := ⟨hO1, fun x hx => ⟨(HX.out.at_ x hx).stay hb1, fun k hk he => by
      have h1 := (HX.out.at_ x hx).lt hk
      have h2 := hO1.inBlock.1
      omega⟩, HX.out.ok⟩
    have HM := Lib.hid hM
    have HB := Lib.hid hb1
    clear hO1 hb1 hz1 hM HX
    go_wp2_with fail
    go_loopw [9] (fun i wr => ∃ (j : Nat) (ys : List (Mot × MotA)), i = .int .i64 j ∧ j ≤ n ∧ Hid (MO wr w.heap.size g n c1 ys ∧ ys.map (·.1) = xs.map (·.1) ∧ Below w.heap.size w wr)) (fun i _ => n - (intOf i).toNat)
    case atStart => exact ⟨0, xs, rfl, by omega, Lib.hid ⟨HM.out, rfl, HB.out⟩⟩
    case round =>
      obtain ⟨j, ys, rfl, hj, hH⟩ := hrel
      clear HM HB
      by_cases hlt : j < n
      · obtain ⟨⟨m, a⟩, hx⟩ : ∃ x, ys[j]? = some x := ⟨_, List.getElem?_eq_getElem (by rw [← hH.out.1.own.num]; exact hlt)⟩
        have hmem := List.mem_of_getElem? hx
        have hlen : m.yes.length ≤ 1000000 ∧ m.no.length ≤ 1000000 := by
          have : m ∈ xs.map (·.1) := by rw [← hH.out.2.1]; exact List.mem_map.2 ⟨_, hmem, rfl⟩
          obtain ⟨y, hy, rfl⟩ := List.mem_map.1 this
          exact HF.out y hy
        have hat := (hH.out.1.at_ _ hmem).1
        have HC1 : Hid (∀ W, Below wr.heap.size wr W → Calls Try.prog 87 #[.slice a.a1 m.yes.length a.c1] W (CloneB W m.yes)) := Lib.hid fun W h => clone_bytes a.a1 _ a.c1 m.yes rfl hat.n1 hlen.1 W (hat.yes.below h (Nat.le_refl _))
        have HC2 : Hid (∀ W, Below wr.heap.size wr W → Calls Try.prog 87 #[.slice a.a2 m.no.length a.c2] W (CloneB W m.no)) := Lib.hid fun W h => clone_bytes a.a2 _ a.c2 m.no rfl hat.n2 hlen.2 W (hat.no.below h (Nat.le_refl _))
        have HXj := Lib.hid hx
        have HK : Hid (∀ W, Below wr.heap.size wr W → W.cell? ⟨g, j * 33 + 31, none⟩ = some (.slice a.a1 m.yes.length a.c1) ∧ W.cell? ⟨g, j * 33 + 32, none⟩ = some (.slice a.a2 m.no.length a.c2) ∧ W.frozen? ⟨g, j * 33 + 31, none⟩ = false ∧ W.frozen? ⟨g, j * 33 + 32, none⟩ = false) := Lib.hid fun W h =>
          ⟨((hH.out.1.stay h).own.cellAt motC_size HXj.out (i := 31) rfl), ((hH.out.1.stay h).own.cellAt motC_size HXj.out (i := 32) rfl), (hH.out.1.stay h).own.free _, (hH.out.1.stay h).own.free _⟩
        obtain ⟨k31, k32, e31, e32⟩ := HK.out wr (Below.refl _ _)
        have z1 : (0 : Int) ≤ (j : Int) := by omega
        have z2 : (j : Int) < (n : Int) := by omega
        clear hx hmem hlen hat
        go_upto_region 5 with fail
        go_region_with (first | (go_at_call_of 87 a.a1; refine (HC1.out _ (by (repeat (first | exact Below.refl _ _ | assumption | (refine Below.allocT ?_ _) | refine Below.drew ?_ | refine below_drewN ?_ _ | (refine Below.then ?_ (by assumption)) | (refine Below.setRow ?_ ?_ _; rotate_left; (focus (first | exact Nat.lt_succ_self _ | ((repeat rw [World.size_alloc]); omega) | (simp; done) | (simp; omega) | omega))) | (refine Below.setCell ?_ ?_ _; rotate_left; (focus (first | exact Nat.lt_succ_self _ | ((repeat rw [World.size_alloc]); omega) | (simp; done) | (simp; omega) | omega))) | (refine Below.then' ?_ (by assumption) ?_; rotate_left; (focus (first | exact Nat.lt_succ_self _ | ((repeat rw [World.size_alloc]); omega) | (simp; done) | (simp; omega) | omega))) | fail)); (first | done | fail))).mono ?_; rintro e w2 ⟨A2, c2, rfl, hO2, hA2, hb2⟩; have hB2 : Below wr.heap.size wr w2 := (by (repeat (first | exact Below.refl _ _ | assumption | (refine Below.allocT ?_ _) | refine Below.drew ?_ | refine below_drewN ?_ _ | (refine Below.then ?_ (by assumption)) | (refine Below.setRow ?_ ?_ _; rotate_left; (focus (first | exact Nat.lt_succ_self _ | ((repeat rw [World.size_alloc]); omega) | (simp; done) | (simp; omega) | omega))) | (refine Below.setCell ?_ ?_ _; rotate_left; (focus (first | exact Nat.lt_succ_self _ | ((repeat rw [World.size_alloc]); omega) | (simp; done) | (simp; omega) | omega))) | (refine Below.then' ?_ (by assumption) ?_; rotate_left; (focus (first | exact Nat.lt_succ_self _ | ((repeat rw [World.size_alloc]); omega) | (simp; done) | (simp; omega) | omega))) | fail)); (first | done | fail)); obtain ⟨k31, k32, e31, e32⟩ := HK.out w2 hB2) | (go_at_call_of 87 a.a2; refine (HC2.out _ (by (repeat (first | exact Below.refl _ _ | assumption | (refine Below.allocT ?_ _) | refine Below.drew ?_ | refine below_drewN ?_ _ | (refine Below.then ?_ (by assumption)) | (refine Below.setRow ?_ ?_ _; rotate_left; (focus (first | exact Nat.lt_succ_self _ | ((repeat rw [World.size_alloc]); omega) | (simp; done) | (simp; omega) | omega))) | (refine Below.setCell ?_ ?_ _; rotate_left; (focus (first | exact Nat.lt_succ_self _ | ((repeat rw [World.size_alloc]); omega) | (simp; done) | (simp; omega) | omega))) | (refine Below.then' ?_ (by assumption) ?_; rotate_left; (focus (first | exact Nat.lt_succ_self _ | ((repeat rw [World.size_alloc]); omega) | (simp; done) | (simp; omega) | omega))) | fail)); (first | done | fail))).mono ?_; rintro e w3 ⟨A3, c3, rfl, hO3, hA3, hb3⟩; have hB3 : Below wr.heap.size wr w3 := (by (repeat (first | exact Below.refl _ _ | assumption | (refine Below.allocT ?_ _) | refine Below.drew ?_ | refine below_drewN ?_ _ | (refine Below.then ?_ (by assumption)) | (refine Below.setRow ?_ ?_ _; rotate_left; (focus (first | exact Nat.lt_succ_self _ | ((repeat rw [World.size_alloc]); omega) | (simp; done) | (simp; omega) | omega))) | (refine Below.setCell ?_ ?_ _; rotate_left; (focus (first | exact Nat.lt_succ_self _ | ((repeat rw [World.size_alloc]); omega) | (simp; done) | (simp; omega) | omega))) | (refine Below.then' ?_ (by assumption) ?_; rotate_left; (focus (first | exact Nat.lt_succ_self _ | ((repeat rw [World.size_alloc]); omega) | (simp; done) | (simp; omega) | omega))) | fail)); (first | done | fail)); obtain ⟨k31, k32, e31, e32⟩ := HK.out w3 hB3))
        all_goals
          have hg := hH.out.1.own.inBlock.2
          have F2 := Lib.hid (Fresh.of (W' := w3) hO2 hA2 (show g < wr.drew.heap.size from hg) hb3)
          have F3 := Lib.hid (Fresh.of (W' := w3) hO3 hA3 (show g < w2.heap.size from Nat.lt_of_lt_of_le hg hB2.size) (Below.refl _ _))
          have HM3 := Lib.hid (hH.out.1.stay hB3)
          have HB3 := Lib.hid (Below.then hH.out.2.2 hB3)
          have HMp := Lib.hid (map_set_same (x' := (m, ⟨A2, c2, A3, c3⟩)) HXj.out rfl)
          clear hO2 hO3 hb2 hb3 hA2 hA3 hB2 hB3 k31 k32 e31 e32
          go_wp2_with fail
          refine ⟨⟨j + 1, ys.set j (m, ⟨A2, c2, A3, c3⟩), by go_num, by omega, Lib.hid ⟨?_, HMp.out.trans hH.out.2.1, ?_⟩⟩, by simp [intOf]; omega⟩
          · first | exact HM3.out.both HXj.out F2.out F3.out | exact HM3.out.both' HXj.out F2.out F3.out
          · have hBg : w.heap.size ≤ g := HM3.out.own.inBlock.1
            first
              | exact Below.setCell (Below.setCell HB3.out (p := ⟨g, j * 33 + 31, none⟩) hBg _) (p := ⟨g, j * 33 + 32, none⟩) hBg _
              | exact Below.setCell (Below.setCell HB3.out (p := ⟨g, j * 33 + 32, none⟩) hBg _) (p := ⟨g, j * 33 + 31, none⟩) hBg _
      · obtain rfl : j = n := by omega
        go_wp2_with fail
        go_ret
        exact ⟨hH.out.2.2, .inr ⟨g, j, c1, ys, rfl, hH.out.1, hH.out.2.1⟩⟩
end Go.Proofs.Ytnakkjgnjffkpaa

namespace Go.Proofs.Ytnakkjgnjffkpaa
open Go.RowKit
set_option linter.unusedVariables false

def betw (n lo hi : Int) : Bool := decide (lo ≤ n ∧ n ≤ hi)
theorem mwithin_any (n lo hi : Int) (w : World) : Calls Try.prog 83 #[.int .i64 n, .int .i64 lo, .int .i64 hi] w fun e w' => e = .returned (.bool (betw n lo hi)) ∧ w = w' := by
  by_cases h1 : lo ≤ n
  · by_cases h2 : n ≤ hi
    · have HV : Hid (betw n lo hi = true) := Lib.hid (decide_eq_true ⟨h1, h2⟩)
      go_enter Try.func83, Try.ntmps83
      go_wp2_with fail
      go_ret
      exact ⟨by rw [HV.out]; rfl, rfl⟩
    · have HV : Hid (betw n lo hi = false) := Lib.hid (decide_eq_false fun h => h2 h.2)
      go_enter Try.func83, Try.ntmps83
      go_wp2_with fail
      go_ret
      exact ⟨by rw [HV.out]; rfl, rfl⟩
  · have HV : Hid (betw n lo hi = false) := Lib.hid (decide_eq_false fun h => h1 h.1)
    go_enter Try.func83, Try.ntmps83
    go_wp2_with fail
    go_ret
    exact ⟨by rw [HV.out]; rfl, rfl⟩
/-- What a vote's error is. -/
def voteE (m : Mot) (mem : Int) : Int := if m.state = 1 then if betw mem 0 127 && (okB m.yes.length mem && okB m.no.length mem) then if getB m.yes mem || getB m.no mem then 231 else 0 else 2 else 232
def voteM (m : Mot) (mem : Int) (yes : Bool) : Mot := if yes then { m with yes := setB m.yes mem.toNat } else { m with no := setB m.no mem.toNat }
/-- What the closure leaves: an error, or new votes in the motion at the pointer. -/
def Vote1Post (w : World) (g o : Nat) (m : Mot) (mem : Int) (yes : Bool) (e : Ending) (w' : World) : Prop :=
  e = .returned (.int .i64 (voteE m mem)) ∧ ((voteE m mem ≠ 0 ∧ Below w.heap.size w w') ∨ (voteE m mem = 0 ∧ ∃ W A c, Below w.heap.size w W ∧ (∀ a, A = some a → w.heap.size ≤ a.block) ∧
    ((yes = true ∧ OwnB W (.slice A m.yes.length c) (setB m.yes mem.toNat) ∧ w' = W.setCell ⟨g, o + 31, none⟩ (.slice A m.yes.length c)) ∨ (yes = false ∧ OwnB W (.slice A m.no.length c) (setB m.no mem.toNat) ∧ w' = W.setCell ⟨g, o + 32, none⟩ (.slice A m.no.length c)))))
set_option maxRecDepth 100000 in
set_option maxHeartbeats 8000000 in
theorem vote1_any (g o gm gy : Nat) (m : Mot) (a : MotA) (mem : Int) (yes : Bool) (hmem : i64ok mem) (w : World)
    (k30 : w.cell? ⟨g, o + 30, none⟩ = some (.int .i64 m.state)) (k31 : w.cell? ⟨g, o + 31, none⟩ = some (.slice a.a1 m.yes.length a.c1)) (k32 : w.cell? ⟨g, o + 32, none⟩ = some (.slice a.a2 m.no.length a.c2))
    (hfz : ∀ k, w.frozen? ⟨g, k, none⟩ = false) (hg : g < w.heap.size) (rm : row w gm = some #[.int .i64 mem]) (ry : row w gy = some #[.bool yes]) (hA : MotAt w (m, a)) (hy : bytesOk m.yes ∧ m.yes.length ≤ 1000000) (hn : bytesOk m.no ∧ m.no.length ≤ 1000000) :
    Calls Try.prog 94 #[.pointer (some ⟨g, o, none⟩), .pointer (some ⟨gm, 0, none⟩), .pointer (some ⟨gy, 0, none⟩)] w (Vote1Post w g o m mem yes) := by
  unfold i64ok at hmem
  by_cases hs : m.state = 1
  · have HS1 : Hid (∀ W, Below w.heap.size w W → Calls Try.prog 95 #[.slice a.a1 m.yes.length a.c1, .int .i64 mem] W (SetPost W m.yes mem)) := Lib.hid fun W h => bset_any a.a1 _ a.c1 m.yes mem (by omega) rfl hy.2 hy.1 W (hA.yes.below h (Nat.le_refl _))
    have HS2 : Hid (∀ W, Below w.heap.size w W → Calls Try.prog 95 #[.slice a.a2 m.no.length a.c2, .int .i64 mem] W (SetPost W m.no mem)) := Lib.hid fun W h => bset_any a.a2 _ a.c2 m.no mem (by omega) rfl hn.2 hn.1 W (hA.no.below h (Nat.le_refl _))
    have HG1 : Hid (∀ W, Below w.heap.size w W → Calls Try.prog 96 #[.slice a.a1 m.yes.length a.c1, .int .i64 mem] W fun e w' => e = .returned (.bool (getB m.yes mem)) ∧ Below W.heap.size W w') := Lib.hid fun W h => get_any a.a1 _ a.c1 m.yes mem rfl hy.1 (by omega) W (hA.yes.below h (Nat.le_refl _))
    have HG2 : Hid (∀ W, Below w.heap.size w W → Calls Try.prog 96 #[.slice a.a2 m.no.length a.c2, .int .i64 mem] W fun e w' => e = .returned (.bool (getB m.no mem)) ∧ Below W.heap.size W w') := Lib.hid fun W h => get_any a.a2 _ a.c2 m.no mem rfl hn.1 (by omega) W (hA.no.below h (Nat.le_refl _))
    have HW := Lib.hid (fun W => mwithin_any mem 0 127 W)
    have HE : Hid (voteE m mem = if betw mem 0 127 && (okB m.yes.length mem && okB m.no.length mem) then if getB m.yes mem || getB m.no mem then 231 else 0 else 2) := Lib.hid (by unfold voteE; rw [if_pos hs])
    have HV1 : Hid (okB m.yes.length mem = true → setV m.yes mem = setB m.yes mem.toNat) := Lib.hid fun h => by unfold setV; rw [if_pos h]
    have HV2 : Hid (okB m.no.length mem = true → setV m.no mem = setB m.no mem.toNat) := Lib.hid fun h => by unfold setV; rw [if_pos h]
    have HM : Hid (∀ w', Below w.heap.size w w' → w'.cell? ⟨g, o + 31, none⟩ = some (.slice a.a1 m.yes.length a.c1) ∧ w'.cell? ⟨g, o + 32, none⟩ = some (.slice a.a2 m.no.length a.c2) ∧ w'.cell? ⟨gm, 0, none⟩ = some (.int .i64 mem) ∧ w'.cell? ⟨gy, 0, none⟩ = some (.bool yes) ∧ (∀ k, w'.frozen? ⟨g, k, none⟩ = false)) := Lib.hid fun w' h =>
      ⟨(h.cell (p := ⟨g, o + 31, none⟩) hg).trans k31, (h.cell (p := ⟨g, o + 32, none⟩) hg).trans k32, (h.cell (p := ⟨gm, 0, none⟩) (row_lt rm)).trans (row_cell rm 0), (h.cell (p := ⟨gy, 0, none⟩) (row_lt ry)).trans (row_cell ry 0), fun k => (h.frozen (p := ⟨g, k, none⟩) hg).trans (hfz k)⟩
    rw [hs] at k30
    unfold SetPost at HS1 HS2
    clear k31 k32 hfz hg rm ry hA hy hn hs hmem
    go_enter Try.func94, Try.ntmps94
    go_wp2_with fail
    go_region_held3 (fun w' => w'.cell? ⟨g, o + 31, none⟩ = some (.slice a.a1 m.yes.length a.c1) ∧ w'.cell? ⟨gm, 0, none⟩ = some (.int .i64 mem)) (exact ⟨(HM.out _ (by (repeat (first | exact Below.refl _ _ | assumption | (refine Below.allocT ?_ _) | refine Below.drew ?_ | refine below_drewN ?_ _ | (refine Below.then ?_ (by assumption)) | (refine Below.setRow ?_ ?_ _; rotate_left; (focus (first | exact Nat.lt_succ_self _ | ((repeat rw [World.size_alloc]); omega) | (simp; done) | (simp; omega) | omega))) | (refine Below.setCell ?_ ?_ _; rotate_left; (focus (first | exact Nat.lt_succ_self _ | ((repeat rw [World.size_alloc]); omega) | (simp; done) | (simp; omega) | omega))) | (refine Below.then' ?_ (by assumption) ?_; rotate_left; (focus (first | exact Nat.lt_succ_self _ | ((repeat rw [World.size_alloc]); omega) | (simp; done) | (simp; omega) | omega))) | fail)); (first | done | fail))).1, (HM.out _ (by (repeat (first | exact Below.refl _ _ | assumption | (refine Below.allocT ?_ _) | refine Below.drew ?_ | refine below_drewN ?_ _ | (refine Below.then ?_ (by assumption)) | (refine Below.setRow ?_ ?_ _; rotate_left; (focus (first | exact Nat.lt_succ_self _ | ((repeat rw [World.size_alloc]); omega) | (simp; done) | (simp; omega) | omega))) | (refine Below.setCell ?_ ?_ _; rotate_left; (focus (first | exact Nat.lt_succ_self _ | ((repeat rw [World.size_alloc]); omega) | (simp; done) | (simp; omega) | omega))) | (refine Below.then' ?_ (by assumption) ?_; rotate_left; (focus (first | exact Nat.lt_succ_self _ | ((repeat rw [World.size_alloc]); omega) | (simp; done) | (simp; omega) | omega))) | fail)); (first | done | fail))).2.2.1⟩) (first | (go_at_call 95; refine (HS1.out _ (by (repeat (first | exact Below.refl _ _ | assumption | (refine Below.allocT ?_ _) | refine Below.drew ?_ | refine below_drewN ?_ _ | (refine Below.then ?_ (by assumption)) | (refine Below.setRow ?_ ?_ _; rotate_left; (focus (first | exact Nat.lt_succ_self _ | ((repeat rw [World.size_alloc]); omega) | (simp; done) | (simp; omega) | omega))) | (refine Below.setCell ?_ ?_ _; rotate_left; (focus (first | exact Nat.lt_succ_self _ | ((repeat rw [World.size_alloc]); omega) | (simp; done) | (simp; omega) | omega))) | (refine Below.then' ?_ (by assumption) ?_; rotate_left; (focus (first | exact Nat.lt_succ_self _ | ((repeat rw [World.size_alloc]); omega) | (simp; done) | (simp; omega) | omega))) | fail)); (first | done | fail))).mono ?_; rintro e w1 ⟨A1, c1, rfl, hO1, hA1, hb1⟩))
    have hB1 : Below w.heap.size w w1 := (by (repeat (first | exact Below.refl _ _ | assumption | (refine Below.allocT ?_ _) | refine Below.drew ?_ | refine below_drewN ?_ _ | (refine Below.then ?_ (by assumption)) | (refine Below.setRow ?_ ?_ _; rotate_left; (focus (first | exact Nat.lt_succ_self _ | ((repeat rw [World.size_alloc]); omega) | (simp; done) | (simp; omega) | omega))) | (refine Below.setCell ?_ ?_ _; rotate_left; (focus (first | exact Nat.lt_succ_self _ | ((repeat rw [World.size_alloc]); omega) | (simp; done) | (simp; omega) | omega))) | (refine Below.then' ?_ (by assumption) ?_; rotate_left; (focus (first | exact Nat.lt_succ_self _ | ((repeat rw [World.size_alloc]); omega) | (simp; done) | (simp; omega) | omega))) | fail)); (first | done | fail))
    have HB1 := Lib.hid hB1
    have HO1 := Lib.hid hO1
    have HA1 : Hid (∀ x, A1 = some x → w.heap.size ≤ x.block) := Lib.hid fun x hx => Nat.le_trans (by first | exact Nat.le_refl _ | exact HB1.out.size) (hA1 x hx)
    clear hO1 hA1 hb1 hB1 HS1 k30
    go_wp2_with fail
    go_region_held3 (fun w' => w'.cell? ⟨g, o + 32, none⟩ = some (.slice a.a2 m.no.length a.c2) ∧ w'.cell? ⟨gm, 0, none⟩ = some (.int .i64 mem)) (exact ⟨(HM.out _ (Below.then HB1.out (by (repeat (first | exact Below.refl _ _ | assumption | (refine Below.allocT ?_ _) | refine Below.drew ?_ | refine below_drewN ?_ _ | (refine Below.then ?_ (by assumption)) | (refine Below.setRow ?_ ?_ _; rotate_left; (focus (first | exact Nat.lt_succ_self _ | ((repeat rw [World.size_alloc]); omega) | (simp; done) | (simp; omega) | omega))) | (refine Below.setCell ?_ ?_ _; rotate_left; (focus (first | exact Nat.lt_succ_self _ | ((repeat rw [World.size_alloc]); omega) | (simp; done) | (simp; omega) | omega))) | (refine Below.then' ?_ (by assumption) ?_; rotate_left; (focus (first | exact Nat.lt_succ_self _ | ((repeat rw [World.size_alloc]); omega) | (simp; done) | (simp; omega) | omega))) | fail)); (first | done | fail)))).2.1, (HM.out _ (Below.then HB1.out (by (repeat (first | exact Below.refl _ _ | assumption | (refine Below.allocT ?_ _) | refine Below.drew ?_ | refine below_drewN ?_ _ | (refine Below.then ?_ (by assumption)) | (refine Below.setRow ?_ ?_ _; rotate_left; (focus (first | exact Nat.lt_succ_self _ | ((repeat rw [World.size_alloc]); omega) | (simp; done) | (simp; omega) | omega))) | (refine Below.setCell ?_ ?_ _; rotate_left; (focus (first | exact Nat.lt_succ_self _ | ((repeat rw [World.size_alloc]); omega) | (simp; done) | (simp; omega) | omega))) | (refine Below.then' ?_ (by assumption) ?_; rotate_left; (focus (first | exact Nat.lt_succ_self _ | ((repeat rw [World.size_alloc]); omega) | (simp; done) | (simp; omega) | omega))) | fail)); (first | done | fail)))).2.2.1⟩) (first | (go_at_call 95; refine (HS2.out _ (Below.then HB1.out (by (repeat (first | exact Below.refl _ _ | assumption | (refine Below.allocT ?_ _) | refine Below.drew ?_ | refine below_drewN ?_ _ | (refine Below.then ?_ (by assumption)) | (refine Below.setRow ?_ ?_ _; rotate_left; (focus (first | exact Nat.lt_succ_self _ | ((repeat rw [World.size_alloc]); omega) | (simp; done) | (simp; omega) | omega))) | (refine Below.setCell ?_ ?_ _; rotate_left; (focus (first | exact Nat.lt_succ_self _ | ((repeat rw [World.size_alloc]); omega) | (simp; done) | (simp; omega) | omega))) | (refine Below.then' ?_ (by assumption) ?_; rotate_left; (focus (first | exact Nat.lt_succ_self _ | ((repeat rw [World.size_alloc]); omega) | (simp; done) | (simp; omega) | omega))) | fail)); (first | done | fail)))).mono ?_; rintro e w2 ⟨A2, c2, rfl, hO2, hA2, hb2⟩))
    have hB12 : Below w1.heap.size w1 w2 := (by (repeat (first | exact Below.refl _ _ | assumption | (refine Below.allocT ?_ _) | refine Below.drew ?_ | refine below_drewN ?_ _ | (refine Below.then ?_ (by assumption)) | (refine Below.setRow ?_ ?_ _; rotate_left; (focus (first | exact Nat.lt_succ_self _ | ((repeat rw [World.size_alloc]); omega) | (simp; done) | (simp; omega) | omega))) | (refine Below.setCell ?_ ?_ _; rotate_left; (focus (first | exact Nat.lt_succ_self _ | ((repeat rw [World.size_alloc]); omega) | (simp; done) | (simp; omega) | omega))) | (refine Below.then' ?_ (by assumption) ?_; rotate_left; (focus (first | exact Nat.lt_succ_self _ | ((repeat rw [World.size_alloc]); omega) | (simp; done) | (simp; omega) | omega))) | fail)); (first | done | fail))
    have HB2 := Lib.hid (Below.then HB1.out hB12)
    have HO1b := Lib.hid (HO1.out.stay hB12)
    have HO2 := Lib.hid hO2
    have HA2 : Hid (∀ x, A2 = some x → w.heap.size ≤ x.block) := Lib.hid fun x hx => Nat.le_trans (by first | exact HB1.out.size | exact Nat.le_refl _) (hA2 x hx)
    obtain ⟨c31, c32, cm, cy, cf⟩ := HM.out w2 HB2.out
    clear hO2 hA2 hb2 hB12 HS2 HO1
    generalize okB m.yes.length mem = b1 at *
    generalize okB m.no.length mem = b2 at *
    generalize betw mem 0 127 = b0 at *
    generalize getB m.yes mem = q1 at *
    generalize getB m.no mem = q2 at *
    have HEnd : Hid (∀ v w', v = voteE m mem → voteE m mem ≠ 0 → Below w2.heap.size w2 w' → Vote1Post w g o m mem yes (.returned (.int .i64 v)) w') := Lib.hid fun v w' h1 h2 h3 => ⟨by rw [h1], .inl ⟨h2, Below.then HB2.out h3⟩⟩
    go_wp2_with fail
    refine (HW.out _).mono ?_
    rintro e w3 ⟨rfl, rfl⟩
    cases b0
    · have HE2 : Hid (voteE m mem = 2) := Lib.hid HE.out
      go_wp2_with fail
      go_ret
      exact HEnd.out _ _ HE2.out.symm (by rw [HE2.out]; decide) (Below.refl _ _)
    cases b1
    · have HE2 : Hid (voteE m mem = 2) := Lib.hid HE.out
      go_wp2_with fail
      go_ret
      exact HEnd.out _ _ HE2.out.symm (by rw [HE2.out]; decide) (Below.refl _ _)
    cases b2
    · have HE2 : Hid (voteE m mem = 2) := Lib.hid HE.out
      go_wp2_with fail
      go_ret
      exact HEnd.out _ _ HE2.out.symm (by rw [HE2.out]; decide) (Below.refl _ _)
    have HG1' := Lib.hid (fun W h => HG1.out W (Below.then HB2.out h))
    have HG2' := Lib.hid (fun W h => HG2.out W (Below.then HB2.out h))
    have HM' := Lib.hid (fun W h => HM.out W (Below.then HB2.out h))
    have hv1 := HV1.out rfl
    have hv2 := HV2.out rfl
    rw [hv1] at HO1b
    rw [hv2] at HO2
    clear hv1 hv2 HV1 HV2 HG1 HG2
    cases q1
    · cases q2
      · have HE2 : Hid (voteE m mem = 0) := Lib.hid HE.out
        go_upto_region 8 with fail
        clear c31 c32 cm cy cf
        (refine wp_region_calm (by kernel_rfl) (by kernel_rfl) ?_; (repeat (first | go_big_quiet_skip | (go_big_quiet_want; apply calm_val; (focus (intro w' hb'; obtain ⟨p1, p2, p3, p4, p5⟩ := HM'.out w' hb'; first | fail | (unfold Oper.quietAt; go_simp; first | rfl | (go_at_call_of 96 a.a1; exact calm_call hb' (HG1'.out _ hb')) | (go_at_call_of 96 a.a2; exact calm_call hb' (HG2'.out _ hb'))))); (try simp only [Act.put, List.setIfInBounds_toArray, List.set_cons_zero, List.set_cons_succ]); go_big_quiet_on))); refine wpQuiet_nil ?_; intro w' hb')
        obtain ⟨p1, p2, p3, p4, p5⟩ := HM'.out w' hb'
        have z31 := p5 (o + 31)
        have z32 := p5 (o + 32)
        have HB' := Lib.hid (Below.then HB2.out hb')
        have P1 := Lib.hid (HO1b.out.stay hb')
        have P2 := Lib.hid (HO2.out.stay hb')
        clear p5
        cases yes
        · go_wp2_with fail
          go_ret
          exact ⟨by rw [HE2.out]; rfl, .inr ⟨HE2.out, w', A2, c2, HB'.out, HA2.out, .inr ⟨rfl, P2.out, rfl⟩⟩⟩
        · go_wp2_with fail
          go_ret
          exact ⟨by rw [HE2.out]; rfl, .inr ⟨HE2.out, w', A1, c1, HB'.out, HA1.out, .inl ⟨rfl, P1.out, rfl⟩⟩⟩
      · have HE2 : Hid (voteE m mem = 231) := Lib.hid HE.out
        go_upto_region 8 with fail
        clear c31 c32 cm cy cf
        (refine wp_region_calm (by kernel_rfl) (by kernel_rfl) ?_; (repeat (first | go_big_quiet_skip | (go_big_quiet_want; apply calm_val; (focus (intro w' hb'; obtain ⟨p1, p2, p3, p4, p5⟩ := HM'.out w' hb'; first | fail | (unfold Oper.quietAt; go_simp; first | rfl | (go_at_call_of 96 a.a1; exact calm_call hb' (HG1'.out _ hb')) | (go_at_call_of 96 a.a2; exact calm_call hb' (HG2'.out _ hb'))))); (try simp only [Act.put, List.setIfInBounds_toArray, List.set_cons_zero, List.set_cons_succ]); go_big_quiet_on))); refine wpQuiet_nil ?_; intro w' hb')
        go_wp2_with fail
        go_ret
        exact HEnd.out _ _ HE2.out.symm (by rw [HE2.out]; decide) hb'
    · have HE2 : Hid (voteE m mem = 231) := Lib.hid HE.out
      go_upto_region 8 with fail
      clear c31 c32 cm cy cf
      (refine wp_region_calm (by kernel_rfl) (by kernel_rfl) ?_; (repeat (first | go_big_quiet_skip | (go_big_quiet_want; apply calm_val; (focus (intro w' hb'; obtain ⟨p1, p2, p3, p4, p5⟩ := HM'.out w' hb'; first | fail | (unfold Oper.quietAt; go_simp; first | rfl | (go_at_call_of 96 a.a1; exact calm_call hb' (HG1'.out _ hb')) | (go_at_call_of 96 a.a2; exact calm_call hb' (HG2'.out _ hb'))))); (try simp only [Act.put, List.setIfInBounds_toArray, List.set_cons_zero, List.set_cons_succ]); go_big_quiet_on))); refine wpQuiet_nil ?_; intro w' hb')
      go_wp2_with fail
      go_ret
      exact HEnd.out _ _ HE2.out.symm (by rw [HE2.out]; decide) hb'
  · have HE : Hid (voteE m mem = 232) := Lib.hid (by unfold voteE; rw [if_neg hs])
    have e1 : (m.state != 1) = true := bne_iff_ne.2 hs
    clear hs k31 k32 hfz hg rm ry hA hy hn
    go_enter Try.func94, Try.ntmps94
    go_wp2_with fail
    go_ret
    exact ⟨by rw [HE.out]; rfl, .inl ⟨by rw [HE.out]; decide, Below.refl _ _⟩⟩
end Go.Proofs.Ytnakkjgnjffkpaa

namespace Go.Proofs.Ytnakkjgnjffkpaa
open Go.RowKit
set_option linter.unusedVariables false

theorem below_row' {w W : World} {g : Nat} {cs : Array Value} (h : Below w.heap.size w W) (hr : row w g = some cs) : row W g = some cs := (row_below h (row_lt hr)).trans hr
/-- A call that answers motions, and an error. -/
def RetL (w : World) (L : List Mot) (er : Int) (e : Ending) (w' : World) : Prop := ∃ A n c xs, e = .returned (.tuple #[.slice A n c, .int .i64 er]) ∧ xs.length = n ∧ ML w' A xs ∧ xs.map (·.1) = L ∧ (A = none → c = 0) ∧ Below w.heap.size w w'
theorem RetL.no {w w' : World} {er : Int} (hb : Below w.heap.size w w') : RetL w [] er (.returned (.tuple #[.slice none 0 0, .int .i64 er])) w' := ⟨none, 0, 0, [], rfl, rfl, ML.nil _ _, rfl, fun _ => rfl, hb⟩
theorem RetL.of_mo {w w' : World} {B g n cap : Nat} {xs : List (Mot × MotA)} {L : List Mot} {er : Int} (h : MO w' B g n cap xs) (hL : xs.map (·.1) = L) (hb : Below w.heap.size w w') : RetL w L er (.returned (.tuple #[.slice (some ⟨g, 0, none⟩) n cap, .int .i64 er])) w' := ⟨_, n, cap, xs, rfl, h.own.num.symm, h.ml, hL, (fun h => by cases h), hb⟩
def atL (L : List Mot) (i : Int) : Option Mot := if 0 ≤ i then L[i.toNat]? else none
def voteL (L : List Mot) (i mem : Int) (yes : Bool) : List Mot × Int := match atL L i with
  | none => ([], 230)
  | some m => if voteE m mem = 0 then (L.set i.toNat (voteM m mem yes), 0) else ([], voteE m mem)
def finE (m : Mot) : Int := if m.state = 2 then 0 else 291
def finM (m : Mot) (done : Bool) : Mot := { m with state := if done then 3 else 4 }
def finL (L : List Mot) (i : Int) (done : Bool) : List Mot × Int := match atL L i with
  | none => ([], 230)
  | some m => if finE m = 0 then (L.set i.toNat (finM m done), 0) else ([], finE m)
theorem atL_no {L : List Mot} {i : Int} (h : ¬ (0 ≤ i ∧ i < (L.length : Int))) : atL L i = none := by
  unfold atL
  split
  · exact List.getElem?_eq_none (by omega)
  · rfl
theorem atL_yes {xs : List (Mot × MotA)} {k : Nat} {x : Mot × MotA} (h : xs[k]? = some x) : atL (xs.map (·.1)) (k : Int) = some x.1 := by
  unfold atL
  rw [if_pos (by omega), Int.toNat_natCast, List.getElem?_map, h]; rfl
theorem map_set_new {xs : List (Mot × MotA)} {k : Nat} {x' : Mot × MotA} : (xs.set k x').map (·.1) = (xs.map (·.1)).set k x'.1 := by rw [List.map_set]
theorem voteM_ok {m : Mot} (h : m.Ok) (mem : Int) (yes : Bool) : (voteM m mem yes).Ok := by
  cases yes
  · exact ⟨h.account, h.what, h.dest, h.amount, h.ends, h.due, h.state, h.par, h.yes, setB_ok h.no.1 _, by show (setB m.no mem.toNat).length ≤ _; rw [setB_len]; exact h.no.2⟩
  · exact ⟨h.account, h.what, h.dest, h.amount, h.ends, h.due, h.state, h.par, ⟨setB_ok h.yes.1 _, by show (setB m.yes mem.toNat).length ≤ _; rw [setB_len]; exact h.yes.2⟩, h.no⟩
theorem state_ok {m : Mot} (h : m.Ok) {s : Int} (hs : i64ok s) : Mot.Ok { m with state := s } := ⟨h.account, h.what, h.dest, h.amount, h.ends, h.due, hs, h.par, h.yes, h.no⟩
theorem due_ok {m : Mot} (h : m.Ok) {s : Int} (hs : i64ok s) : Mot.Ok { m with due := s } := ⟨h.account, h.what, h.dest, h.amount, h.ends, hs, h.state, h.par, h.yes, h.no⟩
def Fin1Post (w : World) (g o : Nat) (m : Mot) (done : Bool) (e : Ending) (w' : World) : Prop :=
  e = .returned (.int .i64 (finE m)) ∧ ((finE m ≠ 0 ∧ w' = w) ∨ (finE m = 0 ∧ ((done = true ∧ w' = (w.setCell ⟨g, o + 30, none⟩ (.int .i64 4)).setCell ⟨g, o + 30, none⟩ (.int .i64 3)) ∨ (done = false ∧ w' = w.setCell ⟨g, o + 30, none⟩ (.int .i64 4)))))
theorem fin1_any (g o gd : Nat) (m : Mot) (done : Bool) (w : World) (k30 : w.cell? ⟨g, o + 30, none⟩ = some (.int .i64 m.state)) (hfz : w.frozen? ⟨g, o + 30, none⟩ = false) (hne : g ≠ gd) (rd : w.cell? ⟨gd, 0, none⟩ = some (.bool done)) :
    Calls Try.prog 111 #[.pointer (some ⟨g, o, none⟩), .pointer (some ⟨gd, 0, none⟩)] w (Fin1Post w g o m done) := by
  by_cases hs : m.state = 2
  · have HE : Hid (finE m = 0) := Lib.hid (by unfold finE; rw [if_pos hs])
    rw [hs] at k30
    have hne' : gd ≠ g := fun h => hne h.symm
    clear hs
    cases done
    · go_enter Try.func111, Try.ntmps111
      go_wp2_with fail
      go_ret
      exact ⟨by rw [HE.out]; rfl, .inr ⟨HE.out, .inr ⟨rfl, rfl⟩⟩⟩
    · go_enter Try.func111, Try.ntmps111
      go_wp2_with fail
      go_ret
      exact ⟨by rw [HE.out]; rfl, .inr ⟨HE.out, .inl ⟨rfl, rfl⟩⟩⟩
  · have HE : Hid (finE m = 291) := Lib.hid (by unfold finE; rw [if_neg hs])
    have e1 : (m.state != 2) = true := bne_iff_ne.2 hs
    clear hs
    go_enter Try.func111, Try.ntmps111
    go_wp2_with fail
    go_ret
    exact ⟨by rw [HE.out]; rfl, .inl ⟨by rw [HE.out]; decide, rfl⟩⟩
set_option maxRecDepth 100000 in
set_option maxHeartbeats 4000000 in
theorem changeV_any (A : Option Addr) (n c : Nat) (xs : List (Mot × MotA)) (i mem : Int) (yes : Bool) (gm gy : Nat) (hn : xs.length = n) (h0 : A = none → c = 0) (hm : n ≤ 1000) (hmem : i64ok mem) (w : World) (hX : ML w A xs) (hf : ∀ x ∈ xs, x.1.yes.length ≤ 1000000 ∧ x.1.no.length ≤ 1000000) (rm : row w gm = some #[.int .i64 mem]) (ry : row w gy = some #[.bool yes]) :
    Calls Try.prog 93 #[.slice A n c, .int .i64 i, .func (.func 94) #[] #[.pointer (some ⟨gm, 0, none⟩), .pointer (some ⟨gy, 0, none⟩)]] w (RetL w (voteL (xs.map (·.1)) i mem yes).1 (voteL (xs.map (·.1)) i mem yes).2) := by
  by_cases hr : 0 ≤ i ∧ i < (n : Int)
  · obtain ⟨k, rfl⟩ := Int.eq_ofNat_of_zero_le hr.1
    have hk : k < n := by omega
    have HB := Lib.hid (fun W => mwithin_any (k : Int) 0 ((n : Int) - 1) W)
    have hbt : betw (k : Int) 0 ((n : Int) - 1) = true := decide_eq_true (by omega)
    rw [hbt] at HB
    have E1 : IntKind.i64.wrap ((n : Int) - 1) = (n : Int) - 1 := IntWalk.i64_in _ (by omega)
    have z1 : (0 : Int) ≤ (k : Int) := by omega
    have z2 : (k : Int) < (n : Int) := by omega
    have HOwn := Lib.hid (mown_any A n c xs hn h0 (by omega) w hX hf)
    obtain ⟨⟨m0, a0⟩, hx0⟩ : ∃ x, xs[k]? = some x := ⟨_, List.getElem?_eq_getElem (by omega)⟩
    have hat0 := atL_yes hx0
    have hL0 : (xs.map (·.1))[k]? = some m0 := by rw [List.getElem?_map, hx0]; rfl
    have HL0 := Lib.hid hL0
    have hf0 := hf _ (List.mem_of_getElem? hx0)
    have HF0 := Lib.hid hf0
    have HNx := Lib.hid hn
    have HN : Hid (xs ≠ []) := Lib.hid fun h => by rw [h] at hx0; simp at hx0
    have HV : Hid (voteL (xs.map (·.1)) (k : Int) mem yes = if voteE m0 mem = 0 then ((xs.map (·.1)).set k (voteM m0 mem yes), 0) else ([], voteE m0 mem)) := Lib.hid (by unfold voteL; rw [hat0, Int.toNat_natCast])
    have RM := Lib.hid rm
    have RY := Lib.hid ry
    have HMem := Lib.hid hmem
    clear hX hf h0 hbt hr hat0 hx0 hL0 hf0 rm ry hmem hn
    go_enter Try.func93, Try.ntmps93
    go_wp2_with fail
    refine (HB.out _).mono ?_
    rintro e w1 ⟨rfl, rfl⟩
    go_wp2_with fail
    refine (HOwn.out).mono ?_
    rintro e w1 ⟨hb1, (⟨hnil, _⟩ | ⟨g, n', cap, ys, rfl, hMO, hys⟩)⟩
    · exact absurd (List.map_eq_nil_iff.1 hnil) HN.out
    have hn' : n' = n := by
      have h1 := hMO.own.num
      have h2 := congrArg List.length hys
      rw [List.length_map, List.length_map] at h2
      have h3 := HNx.out
      omega
    subst hn'
    obtain ⟨⟨m, a⟩, hx⟩ : ∃ x, ys[k]? = some x := ⟨_, List.getElem?_eq_getElem (by rw [← hMO.own.num]; exact hk)⟩
    have hmm : m = m0 := by
      have := HL0.out
      rw [← hys, List.getElem?_map, hx] at this
      exact Option.some.inj this
    subst hmm
    have HM := Lib.hid hMO
    have HYs := Lib.hid hys
    have HXk := Lib.hid hx
    have HB1 := Lib.hid hb1
    have hok := hMO.ok _ (List.mem_of_getElem? hx)
    have HOk := Lib.hid hok
    have HCl := Lib.hid (vote1_any g (k * 33) gm gy m a mem yes HMem.out w1 (hMO.own.cellAt motC_size hx (i := 30) rfl) (hMO.own.cellAt motC_size hx (i := 31) rfl) (hMO.own.cellAt motC_size hx (i := 32) rfl) (fun q => hMO.own.free q) hMO.own.inBlock.2 (below_row' hb1 RM.out) (below_row' hb1 RY.out) (hMO.at_ _ (List.mem_of_getElem? hx)).1 ⟨hok.yes.1, HF0.out.1⟩ ⟨hok.no.1, HF0.out.2⟩)
    clear hMO hys hx hb1 hok HOwn HB
    go_wp2_with fail
    refine (HCl.out).mono ?_
    rintro e w2 ⟨rfl, (⟨hne, hb2⟩ | ⟨he0, W, A2, c2, hb2, hA2, hcase⟩)⟩
    · have e1 : (voteE m mem != 0) = true := bne_iff_ne.2 hne
      have HE : Hid (voteL (xs.map (·.1)) (k : Int) mem yes = ([], voteE m mem)) := Lib.hid (by rw [HV.out, if_neg hne])
      have HB2 := Lib.hid (Below.then HB1.out hb2)
      clear hne hb2
      go_wp2_with fail
      go_ret2
      rw [HE.out]
      exact RetL.no HB2.out
    · have HE : Hid (voteL (xs.map (·.1)) (k : Int) mem yes = ((xs.map (·.1)).set k (voteM m mem yes), 0)) := Lib.hid (by rw [HV.out, if_pos he0])
      rw [he0]
      have HBW := Lib.hid (Below.then HB1.out hb2)
      have hMW := HM.out.stay hb2
      have hgW : g < w1.heap.size := HM.out.own.inBlock.2
      obtain ⟨ha, hab⟩ := hMW.at_ _ (List.mem_of_getElem? HXk.out)
      have HEnd : Hid (∃ ys', MO w2 w.heap.size g n' cap ys' ∧ ys'.map (·.1) = (xs.map (·.1)).set k (voteM m mem yes) ∧ Below w.heap.size w w2) := Lib.hid (by
        rcases hcase with ⟨rfl, hO, rfl⟩ | ⟨rfl, hO, rfl⟩
        · have hO' : OwnB W (.slice A2 (setB m.yes mem.toNat).length c2) (setB m.yes mem.toNat) := by rw [setB_len]; exact hO
          have fr := Fresh.of (W' := W) hO' hA2 hgW (Below.refl _ _)
          refine ⟨ys.set k ({ m with yes := setB m.yes mem.toNat }, ⟨A2, c2, a.a2, a.c2⟩), ?_, by rw [map_set_new, HYs.out]; rfl, Below.setCell HBW.out (p := ⟨g, k * 33 + 31, none⟩) HM.out.own.inBlock.1 _⟩
          have h := hMW.setAt (x' := ({ m with yes := setB m.yes mem.toNat }, ⟨A2, c2, a.a2, a.c2⟩)) HXk.out (i := 31) (by omega) (u := .slice A2 (setB m.yes mem.toNat).length c2) rfl ⟨⟨fr.bys, ha.no, fr.nil, ha.n2⟩, fun q hq => hq.elim (fun ⟨_, b, hb1, hb2⟩ => hb2 ▸ fr.far b hb1) (fun hq => hab q (.inr hq))⟩ (voteM_ok HOk.out mem true)
          rw [setB_len] at h
          exact h
        · have hO' : OwnB W (.slice A2 (setB m.no mem.toNat).length c2) (setB m.no mem.toNat) := by rw [setB_len]; exact hO
          have fr := Fresh.of (W' := W) hO' hA2 hgW (Below.refl _ _)
          refine ⟨ys.set k ({ m with no := setB m.no mem.toNat }, ⟨a.a1, a.c1, A2, c2⟩), ?_, by rw [map_set_new, HYs.out]; rfl, Below.setCell HBW.out (p := ⟨g, k * 33 + 32, none⟩) HM.out.own.inBlock.1 _⟩
          have h := hMW.setAt (x' := ({ m with no := setB m.no mem.toNat }, ⟨a.a1, a.c1, A2, c2⟩)) HXk.out (i := 32) (by omega) (u := .slice A2 (setB m.no mem.toNat).length c2) rfl ⟨⟨ha.yes, fr.bys, ha.n1, fr.nil⟩, fun q hq => hq.elim (fun hq => hab q (.inl hq)) (fun ⟨_, b, hb1, hb2⟩ => hb2 ▸ fr.far b hb1)⟩ (voteM_ok HOk.out mem false)
          rw [setB_len] at h
          exact h)
      clear hcase hMW hgW ha hab hb2 hA2 he0
      go_wp2_with fail
      go_ret2
      obtain ⟨ys', h1, h2, h3⟩ := HEnd.out
      rw [HE.out]
      exact RetL.of_mo h1 h2 h3
  · have HB := Lib.hid (fun W => mwithin_any i 0 ((n : Int) - 1) W)
    have hbt : betw i 0 ((n : Int) - 1) = false := decide_eq_false (by omega)
    rw [hbt] at HB
    have E1 : IntKind.i64.wrap ((n : Int) - 1) = (n : Int) - 1 := IntWalk.i64_in _ (by omega)
    have HV : Hid (voteL (xs.map (·.1)) i mem yes = ([], 230)) := Lib.hid (by unfold voteL; rw [atL_no (by rw [List.length_map, hn]; exact hr)])
    clear hX hf h0 hbt hr hn
    go_enter Try.func93, Try.ntmps93
    go_wp2_with fail
    refine (HB.out _).mono ?_
    rintro e w1 ⟨rfl, rfl⟩
    go_wp2_with fail
    go_ret2
    rw [HV.out]
    exact RetL.no (Below.refl _ _)
set_option maxRecDepth 100000 in
theorem mvote_any (A : Option Addr) (n c : Nat) (xs : List (Mot × MotA)) (i mem : Int) (yes : Bool) (hn : xs.length = n) (h0 : A = none → c = 0) (hm : n ≤ 1000) (hmem : i64ok mem) (w : World) (hX : ML w A xs) (hf : ∀ x ∈ xs, x.1.yes.length ≤ 1000000 ∧ x.1.no.length ≤ 1000000) :
    Calls Try.prog 39 #[.slice A n c, .int .i64 i, .int .i64 mem, .bool yes] w (RetL w (voteL (xs.map (·.1)) i mem yes).1 (voteL (xs.map (·.1)) i mem yes).2) := by
  have rm : row ((w.alloc (.cells #[.int .i64 mem] 3)).alloc (.cells #[.bool yes] 4)) w.heap.size = some #[.int .i64 mem] := (by (repeat (first | assumption | (refine row_at _ _ _ _ ?_; first | rfl | (simp only [World.size_alloc]; done) | (simp only [World.size_alloc]; omega)) | (refine (row_past _ _ _ ?_).trans ?_; (focus (first | exact Nat.lt_succ_self _ | ((repeat rw [World.size_alloc]); omega) | (simp; done) | (simp; omega) | omega))) | rw [row_drewN] | rw [row_drew])); (first | done | fail))
  have ry : row ((w.alloc (.cells #[.int .i64 mem] 3)).alloc (.cells #[.bool yes] 4)) (w.heap.size + 1) = some #[.bool yes] := (by (repeat (first | assumption | (refine row_at _ _ _ _ ?_; first | rfl | (simp only [World.size_alloc]; done) | (simp only [World.size_alloc]; omega)) | (refine (row_past _ _ _ ?_).trans ?_; (focus (first | exact Nat.lt_succ_self _ | ((repeat rw [World.size_alloc]); omega) | (simp; done) | (simp; omega) | omega))) | rw [row_drewN] | rw [row_drew])); (first | done | fail))
  have hb : Below w.heap.size w ((w.alloc (.cells #[.int .i64 mem] 3)).alloc (.cells #[.bool yes] 4)) := (by (repeat (first | exact Below.refl _ _ | assumption | (refine Below.allocT ?_ _) | refine Below.drew ?_ | refine below_drewN ?_ _ | (refine Below.then ?_ (by assumption)) | (refine Below.setRow ?_ ?_ _; rotate_left; (focus (first | exact Nat.lt_succ_self _ | ((repeat rw [World.size_alloc]); omega) | (simp; done) | (simp; omega) | omega))) | (refine Below.setCell ?_ ?_ _; rotate_left; (focus (first | exact Nat.lt_succ_self _ | ((repeat rw [World.size_alloc]); omega) | (simp; done) | (simp; omega) | omega))) | (refine Below.then' ?_ (by assumption) ?_; rotate_left; (focus (first | exact Nat.lt_succ_self _ | ((repeat rw [World.size_alloc]); omega) | (simp; done) | (simp; omega) | omega))) | fail)); (first | done | fail))
  have HC := Lib.hid (changeV_any A n c xs i mem yes w.heap.size (w.heap.size + 1) hn h0 hm hmem _ (hX.stay hb) hf rm ry)
  have HB := Lib.hid hb
  clear hX hf h0 rm ry hb hn
  go_enter Try.func39, Try.ntmps39
  go_wp2_with fail
  refine (HC.out).mono ?_
  rintro e w1 ⟨A1, n1, c1, ys, rfl, q1, q2, q3, q4, q5⟩
  have HEnd : Hid (RetL w (voteL (xs.map (·.1)) i mem yes).1 (voteL (xs.map (·.1)) i mem yes).2 (.returned (.tuple #[.slice A1 n1 c1, .int .i64 (voteL (xs.map (·.1)) i mem yes).2])) w1) := Lib.hid ⟨A1, n1, c1, ys, rfl, q1, q2, q3, q4, Below.then HB.out q5⟩
  clear q1 q2 q3 q4 q5
  go_wp2_with fail
  go_ret2
  exact HEnd.out
set_option maxRecDepth 100000 in
set_option maxHeartbeats 4000000 in
theorem changeF_any (A : Option Addr) (n c : Nat) (xs : List (Mot × MotA)) (i : Int) (done : Bool) (gd : Nat) (hn : xs.length = n) (h0 : A = none → c = 0) (hm : n ≤ 1000) (w : World) (hX : ML w A xs) (hf : ∀ x ∈ xs, x.1.yes.length ≤ 1000000 ∧ x.1.no.length ≤ 1000000) (rd : row w gd = some #[.bool done]) :
    Calls Try.prog 93 #[.slice A n c, .int .i64 i, .func (.func 111) #[] #[.pointer (some ⟨gd, 0, none⟩)]] w (RetL w (finL (xs.map (·.1)) i done).1 (finL (xs.map (·.1)) i done).2) := by
  by_cases hr : 0 ≤ i ∧ i < (n : Int)
  · obtain ⟨k, rfl⟩ := Int.eq_ofNat_of_zero_le hr.1
    have hk : k < n := by omega
    have HB := Lib.hid (fun W => mwithin_any (k : Int) 0 ((n : Int) - 1) W)
    have hbt : betw (k : Int) 0 ((n : Int) - 1) = true := decide_eq_true (by omega)
    rw [hbt] at HB
    have E1 : IntKind.i64.wrap ((n : Int) - 1) = (n : Int) - 1 := IntWalk.i64_in _ (by omega)
    have z1 : (0 : Int) ≤ (k : Int) := by omega
    have z2 : (k : Int) < (n : Int) := by omega
    have HOwn := Lib.hid (mown_any A n c xs hn h0 (by omega) w hX hf)
    obtain ⟨⟨m0, a0⟩, hx0⟩ : ∃ x, xs[k]? = some x := ⟨_, List.getElem?_eq_getElem (by omega)⟩
    have hat0 := atL_yes hx0
    have hL0 : (xs.map (·.1))[k]? = some m0 := by rw [List.getElem?_map, hx0]; rfl
    have HL0 := Lib.hid hL0
    have hf0 := hf _ (List.mem_of_getElem? hx0)
    have HF0 := Lib.hid hf0
    have HNx := Lib.hid hn
    have HN : Hid (xs ≠ []) := Lib.hid fun h => by rw [h] at hx0; simp at hx0
    have HV : Hid (finL (xs.map (·.1)) (k : Int) done = if finE m0 = 0 then ((xs.map (·.1)).set k (finM m0 done), 0) else ([], finE m0)) := Lib.hid (by unfold finL; rw [hat0, Int.toNat_natCast])
    have RD := Lib.hid rd
    clear hX hf h0 hbt hr hat0 hx0 hL0 hf0 rd hn
    go_enter Try.func93, Try.ntmps93
    go_wp2_with fail
    refine (HB.out _).mono ?_
    rintro e w1 ⟨rfl, rfl⟩
    go_wp2_with fail
    refine (HOwn.out).mono ?_
    rintro e w1 ⟨hb1, (⟨hnil, _⟩ | ⟨g, n', cap, ys, rfl, hMO, hys⟩)⟩
    · exact absurd (List.map_eq_nil_iff.1 hnil) HN.out
    have hn' : n' = n := by
      have h1 := hMO.own.num
      have h2 := congrArg List.length hys
      rw [List.length_map, List.length_map] at h2
      have h3 := HNx.out
      omega
    subst hn'
    obtain ⟨⟨m, a⟩, hx⟩ : ∃ x, ys[k]? = some x := ⟨_, List.getElem?_eq_getElem (by rw [← hMO.own.num]; exact hk)⟩
    have hmm : m = m0 := by
      have := HL0.out
      rw [← hys, List.getElem?_map, hx] at this
      exact Option.some.inj this
    subst hmm
    have HM := Lib.hid hMO
    have HYs := Lib.hid hys
    have HXk := Lib.hid hx
    have HB1 := Lib.hid hb1
    have hok := hMO.ok _ (List.mem_of_getElem? hx)
    have HOk := Lib.hid hok
    have HCl := Lib.hid (fin1_any g (k * 33) gd m done w1 (hMO.own.cellAt motC_size hx (i := 30) rfl) (hMO.own.free _) (by have h1 := hMO.own.inBlock.1; have h2 := row_lt RD.out; omega) (row_cell (below_row' hb1 RD.out) 0))
    clear hMO hys hx hb1 hok HOwn HB
    go_wp2_with fail
    refine (HCl.out).mono ?_
    rintro e w2 ⟨rfl, (⟨hne, rfl⟩ | ⟨he0, hcase⟩)⟩
    · have e1 : (finE m != 0) = true := bne_iff_ne.2 hne
      have HE : Hid (finL (xs.map (·.1)) (k : Int) done = ([], finE m)) := Lib.hid (by rw [HV.out, if_neg hne])
      clear hne
      go_wp2_with fail
      go_ret2
      rw [HE.out]
      exact RetL.no HB1.out
    · have HE : Hid (finL (xs.map (·.1)) (k : Int) done = ((xs.map (·.1)).set k (finM m done), 0)) := Lib.hid (by rw [HV.out, if_pos he0])
      rw [he0]
      obtain ⟨ha, hab⟩ := HM.out.at_ _ (List.mem_of_getElem? HXk.out)
      have hkl : k < ys.length := by rw [← HM.out.own.num]; exact hk
      have HEnd : Hid (∃ ys', MO w2 w.heap.size g n' cap ys' ∧ ys'.map (·.1) = (xs.map (·.1)).set k (finM m done) ∧ Below w.heap.size w w2) := Lib.hid (by
        have h4 := HM.out.setAt (x' := ({ m with state := 4 }, a)) HXk.out (i := 30) (by omega) (u := .int .i64 4) rfl ⟨⟨ha.yes, ha.no, ha.n1, ha.n2⟩, hab⟩ (state_ok HOk.out (by unfold i64ok; omega))
        have hb4 : Below w.heap.size w (w1.setCell ⟨g, k * 33 + 30, none⟩ (.int .i64 4)) := Below.setCell HB1.out (p := ⟨g, k * 33 + 30, none⟩) HM.out.own.inBlock.1 _
        rcases hcase with ⟨rfl, rfl⟩ | ⟨rfl, rfl⟩
        · have hx4 : (ys.set k ({ m with state := 4 }, a))[k]? = some ({ m with state := 4 }, a) := by rw [List.getElem?_set]; simp [hkl]
          obtain ⟨ha4, hab4⟩ := h4.at_ _ (List.mem_of_getElem? hx4)
          have h5 := h4.setAt (x' := ({ m with state := 3 }, a)) hx4 (i := 30) (by omega) (u := .int .i64 3) rfl ⟨⟨ha4.yes, ha4.no, ha4.n1, ha4.n2⟩, hab4⟩ (state_ok HOk.out (by unfold i64ok; omega))
          rw [List.set_set] at h5
          exact ⟨_, h5, by rw [map_set_new, HYs.out]; rfl, Below.setCell hb4 (p := ⟨g, k * 33 + 30, none⟩) HM.out.own.inBlock.1 _⟩
        · exact ⟨_, h4, by rw [map_set_new, HYs.out]; rfl, hb4⟩)
      clear hcase ha hab he0
      go_wp2_with fail
      go_ret2
      obtain ⟨ys', h1, h2, h3⟩ := HEnd.out
      rw [HE.out]
      exact RetL.of_mo h1 h2 h3
  · have HB := Lib.hid (fun W => mwithin_any i 0 ((n : Int) - 1) W)
    have hbt : betw i 0 ((n : Int) - 1) = false := decide_eq_false (by omega)
    rw [hbt] at HB
    have E1 : IntKind.i64.wrap ((n : Int) - 1) = (n : Int) - 1 := IntWalk.i64_in _ (by omega)
    have HV : Hid (finL (xs.map (·.1)) i done = ([], 230)) := Lib.hid (by unfold finL; rw [atL_no (by rw [List.length_map, hn]; exact hr)])
    clear hX hf h0 hbt hr hn
    go_enter Try.func93, Try.ntmps93
    go_wp2_with fail
    refine (HB.out _).mono ?_
    rintro e w1 ⟨rfl, rfl⟩
    go_wp2_with fail
    go_ret2
    rw [HV.out]
    exact RetL.no (Below.refl _ _)
set_option maxRecDepth 100000 in
theorem mfinish_any (A : Option Addr) (n c : Nat) (xs : List (Mot × MotA)) (i : Int) (done : Bool) (hn : xs.length = n) (h0 : A = none → c = 0) (hm : n ≤ 1000) (w : World) (hX : ML w A xs) (hf : ∀ x ∈ xs, x.1.yes.length ≤ 1000000 ∧ x.1.no.length ≤ 1000000) :
    Calls Try.prog 47 #[.slice A n c, .int .i64 i, .bool done] w (RetL w (finL (xs.map (·.1)) i done).1 (finL (xs.map (·.1)) i done).2) := by
  have rd : row (w.alloc (.cells #[.bool done] 4)) w.heap.size = some #[.bool done] := (by (repeat (first | assumption | (refine row_at _ _ _ _ ?_; first | rfl | (simp only [World.size_alloc]; done) | (simp only [World.size_alloc]; omega)) | (refine (row_past _ _ _ ?_).trans ?_; (focus (first | exact Nat.lt_succ_self _ | ((repeat rw [World.size_alloc]); omega) | (simp; done) | (simp; omega) | omega))) | rw [row_drewN] | rw [row_drew])); (first | done | fail))
  have hb : Below w.heap.size w (w.alloc (.cells #[.bool done] 4)) := (by (repeat (first | exact Below.refl _ _ | assumption | (refine Below.allocT ?_ _) | refine Below.drew ?_ | refine below_drewN ?_ _ | (refine Below.then ?_ (by assumption)) | (refine Below.setRow ?_ ?_ _; rotate_left; (focus (first | exact Nat.lt_succ_self _ | ((repeat rw [World.size_alloc]); omega) | (simp; done) | (simp; omega) | omega))) | (refine Below.setCell ?_ ?_ _; rotate_left; (focus (first | exact Nat.lt_succ_self _ | ((repeat rw [World.size_alloc]); omega) | (simp; done) | (simp; omega) | omega))) | (refine Below.then' ?_ (by assumption) ?_; rotate_left; (focus (first | exact Nat.lt_succ_self _ | ((repeat rw [World.size_alloc]); omega) | (simp; done) | (simp; omega) | omega))) | fail)); (first | done | fail))
  have HC := Lib.hid (changeF_any A n c xs i done w.heap.size hn h0 hm _ (hX.stay hb) hf rd)
  have HB := Lib.hid hb
  clear hX hf h0 rd hb hn
  go_enter Try.func47, Try.ntmps47
  go_wp2_with fail
  refine (HC.out).mono ?_
  rintro e w1 ⟨A1, n1, c1, ys, rfl, q1, q2, q3, q4, q5⟩
  have HEnd : Hid (RetL w (finL (xs.map (·.1)) i done).1 (finL (xs.map (·.1)) i done).2 (.returned (.tuple #[.slice A1 n1 c1, .int .i64 (finL (xs.map (·.1)) i done).2])) w1) := Lib.hid ⟨A1, n1, c1, ys, rfl, q1, q2, q3, q4, Below.then HB.out q5⟩
  clear q1 q2 q3 q4 q5
  go_wp2_with fail
  go_ret2
  exact HEnd.out
end Go.Proofs.Ytnakkjgnjffkpaa

/-
  The reference's sums of reports.
-/
import Derived.Test.YtnakkjgnjffkpaaAnnE
import Derived.Test.YtnakkjgnjffkpaaRef01g
namespace Go.Proofs.Ytnakkjgnjffkpaa
open Go.RowKit
set_option linter.unusedVariables false
set_option linter.unusedSimpArgs false

def natK (x : Nat) : Array Value := #[.int .u64 (x : Int)]
theorem natK_size (x : Nat) : (natK x).size = 1 := rfl
theorem natK_one (x : Nat) : allOne (natK x) = true := by unfold allOne natK; simp [Value.oneCell']
theorem natK_under : Try.prog.underlying 141 = some (.slice 33) := by kernel_rfl
theorem natK_info : (Try.prog.info? 33).map (fun i => (i.zero, i.size, i.bytes)) = some (some (.int .u64 0), 1, 8) := by kernel_rfl
theorem natK_u64s {W : World} {A : Option Addr} {l : List Nat} (h : SliceOf 1 natK W A l) : U64s W A l := fun hn => by
  obtain ⟨b, off, e, hb, hc⟩ := h hn
  refine ⟨b, off, e, hb, fun i hi => ?_⟩
  have := hc i (l.getD i 0) (by rw [List.getD_eq_getElem?_getD, List.getElem?_eq_getElem hi]; rfl) 0 _ rfl
  rw [Nat.mul_one] at this
  exact this
abbrev OwnU (W : World) (B : Nat) (v : Value) (l : List Nat) : Prop := OwnC 33 1 natK W B v l
structure Five (B : Nat) (W : World) (v0 v1 v2 v3 v4 : Value) (l0 l1 l2 l3 l4 : List Nat) : Prop where
  o0 : OwnU W B v0 l0
  o1 : OwnU W B v1 l1
  o2 : OwnU W B v2 l2
  o3 : OwnU W B v3 l3
  o4 : OwnU W B v4 l4
  a01 : Apart v0 v1
  a02 : Apart v0 v2
  a03 : Apart v0 v3
  a04 : Apart v0 v4
  a12 : Apart v1 v2
  a13 : Apart v1 v3
  a14 : Apart v1 v4
  a23 : Apart v2 v3
  a24 : Apart v2 v4
  a34 : Apart v3 v4
section
variable {B : Nat} {W W' : World} {v0 v1 v2 v3 v4 v' : Value} {l0 l1 l2 l3 l4 : List Nat} {x : Nat}
theorem Five.stay (h : Five B W v0 v1 v2 v3 v4 l0 l1 l2 l3 l4) (hb : Below W.heap.size W W') : Five B W' v0 v1 v2 v3 v4 l0 l1 l2 l3 l4 := ⟨h.o0.stay hb, h.o1.stay hb, h.o2.stay hb, h.o3.stay hb, h.o4.stay hb, h.a01, h.a02, h.a03, h.a04, h.a12, h.a13, h.a14, h.a23, h.a24, h.a34⟩
theorem Five.chg {S : Nat → Prop} (h : Five B W v0 v1 v2 v3 v4 l0 l1 l2 l3 l4) (hc : Chg S W W') (hS : ∀ k, S k → k < B) : Five B W' v0 v1 v2 v3 v4 l0 l1 l2 l3 l4 := ⟨h.o0.chg hc (fun k hk e => by have := (h.o0.lt k hk).1; have := hS k e; omega), h.o1.chg hc (fun k hk e => by have := (h.o1.lt k hk).1; have := hS k e; omega), h.o2.chg hc (fun k hk e => by have := (h.o2.lt k hk).1; have := hS k e; omega), h.o3.chg hc (fun k hk e => by have := (h.o3.lt k hk).1; have := hS k e; omega), h.o4.chg hc (fun k hk e => by have := (h.o4.lt k hk).1; have := hS k e; omega), h.a01, h.a02, h.a03, h.a04, h.a12, h.a13, h.a14, h.a23, h.a24, h.a34⟩
theorem Five.push0 (h : Five B W v0 v1 v2 v3 v4 l0 l1 l2 l3 l4) (hg : W.grownBy W' v0.ownBlock) (ho : OwnU W' B v' (l0 ++ [x])) (hor : v'.ownBlock = v0.ownBlock ∨ v'.ownBlock = some W.heap.size) : Five B W' v' v1 v2 v3 v4 (l0 ++ [x]) l1 l2 l3 l4 :=
  ⟨ho, OwnC.far h.o1 hg h.a01.symm, OwnC.far h.o2 hg h.a02.symm, OwnC.far h.o3 hg h.a03.symm, OwnC.far h.o4 hg h.a04.symm, h.a01.left hor (fun k hk => (h.o1.lt k hk).2), h.a02.left hor (fun k hk => (h.o2.lt k hk).2), h.a03.left hor (fun k hk => (h.o3.lt k hk).2), h.a04.left hor (fun k hk => (h.o4.lt k hk).2), h.a12, h.a13, h.a14, h.a23, h.a24, h.a34⟩
theorem Five.push1 (h : Five B W v0 v1 v2 v3 v4 l0 l1 l2 l3 l4) (hg : W.grownBy W' v1.ownBlock) (ho : OwnU W' B v' (l1 ++ [x])) (hor : v'.ownBlock = v1.ownBlock ∨ v'.ownBlock = some W.heap.size) : Five B W' v0 v' v2 v3 v4 l0 (l1 ++ [x]) l2 l3 l4 :=
  ⟨OwnC.far h.o0 hg h.a01, ho, OwnC.far h.o2 hg h.a12.symm, OwnC.far h.o3 hg h.a13.symm, OwnC.far h.o4 hg h.a14.symm, h.a01.right hor (fun k hk => (h.o0.lt k hk).2), h.a02, h.a03, h.a04, h.a12.left hor (fun k hk => (h.o2.lt k hk).2), h.a13.left hor (fun k hk => (h.o3.lt k hk).2), h.a14.left hor (fun k hk => (h.o4.lt k hk).2), h.a23, h.a24, h.a34⟩
theorem Five.push2 (h : Five B W v0 v1 v2 v3 v4 l0 l1 l2 l3 l4) (hg : W.grownBy W' v2.ownBlock) (ho : OwnU W' B v' (l2 ++ [x])) (hor : v'.ownBlock = v2.ownBlock ∨ v'.ownBlock = some W.heap.size) : Five B W' v0 v1 v' v3 v4 l0 l1 (l2 ++ [x]) l3 l4 :=
  ⟨OwnC.far h.o0 hg h.a02, OwnC.far h.o1 hg h.a12, ho, OwnC.far h.o3 hg h.a23.symm, OwnC.far h.o4 hg h.a24.symm, h.a01, h.a02.right hor (fun k hk => (h.o0.lt k hk).2), h.a03, h.a04, h.a12.right hor (fun k hk => (h.o1.lt k hk).2), h.a13, h.a14, h.a23.left hor (fun k hk => (h.o3.lt k hk).2), h.a24.left hor (fun k hk => (h.o4.lt k hk).2), h.a34⟩
theorem Five.push3 (h : Five B W v0 v1 v2 v3 v4 l0 l1 l2 l3 l4) (hg : W.grownBy W' v3.ownBlock) (ho : OwnU W' B v' (l3 ++ [x])) (hor : v'.ownBlock = v3.ownBlock ∨ v'.ownBlock = some W.heap.size) : Five B W' v0 v1 v2 v' v4 l0 l1 l2 (l3 ++ [x]) l4 :=
  ⟨OwnC.far h.o0 hg h.a03, OwnC.far h.o1 hg h.a13, OwnC.far h.o2 hg h.a23, ho, OwnC.far h.o4 hg h.a34.symm, h.a01, h.a02, h.a03.right hor (fun k hk => (h.o0.lt k hk).2), h.a04, h.a12, h.a13.right hor (fun k hk => (h.o1.lt k hk).2), h.a14, h.a23.right hor (fun k hk => (h.o2.lt k hk).2), h.a24, h.a34.left hor (fun k hk => (h.o4.lt k hk).2)⟩
theorem Five.push4 (h : Five B W v0 v1 v2 v3 v4 l0 l1 l2 l3 l4) (hg : W.grownBy W' v4.ownBlock) (ho : OwnU W' B v' (l4 ++ [x])) (hor : v'.ownBlock = v4.ownBlock ∨ v'.ownBlock = some W.heap.size) : Five B W' v0 v1 v2 v3 v' l0 l1 l2 l3 (l4 ++ [x]) :=
  ⟨OwnC.far h.o0 hg h.a04, OwnC.far h.o1 hg h.a14, OwnC.far h.o2 hg h.a24, OwnC.far h.o3 hg h.a34, ho, h.a01, h.a02, h.a03, h.a04.right hor (fun k hk => (h.o0.lt k hk).2), h.a12, h.a13, h.a14.right hor (fun k hk => (h.o1.lt k hk).2), h.a23, h.a24.right hor (fun k hk => (h.o2.lt k hk).2), h.a34.right hor (fun k hk => (h.o3.lt k hk).2)⟩
/-- The state within a round. -/
structure RS (B g4 g11 : Nat) (W : World) (s : Sm) (x : Rep × RepA) (v0 v1 v2 v3 v4 : Value) (l0 l1 l2 l3 l4 : List Nat) : Prop where
  five : Five B W v0 v1 v2 v3 v4 l0 l1 l2 l3 l4
  r4 : row W g4 = some (smC s)
  r11 : row W g11 = some (repC x)
  lt4 : g4 < B
  base : B ≤ W.heap.size
  n0 : v0.ownBlock ≠ some g11
  n1 : v1.ownBlock ≠ some g11
  n2 : v2.ownBlock ≠ some g11
  n3 : v3.ownBlock ≠ some g11
  n4 : v4.ownBlock ≠ some g11
section
variable {g4 g11 : Nat} {s s' : Sm} {y : Rep × RepA}
theorem RS.set (h : RS B g4 g11 W s y v0 v1 v2 v3 v4 l0 l1 l2 l3 l4) (i : Nat) (u : Value) (hs : (smC s).setIfInBounds i u = smC s') (hne : g4 ≠ g11) : RS B g4 g11 (W.setCell ⟨g4, i, none⟩ u) s' y v0 v1 v2 v3 v4 l0 l1 l2 l3 l4 ∧ Below g4 W (W.setCell ⟨g4, i, none⟩ u) := by
  have hc : Chg (fun k => k = g4) W (W.setCell ⟨g4, i, none⟩ u) := (Chg.refl (fun k => k = g4) W).setCell (p := ⟨g4, i, none⟩) (.inl rfl) _
  exact ⟨⟨h.five.chg hc (fun k hk => hk ▸ h.lt4), by rw [row_setCell, h.r4, Option.map_some, hs], (hc.row (row_lt h.r11) (fun e => hne e.symm)).trans h.r11, h.lt4, Nat.le_trans h.base hc.size, h.n0, h.n1, h.n2, h.n3, h.n4⟩, Below.setCell (Below.refl _ _) (p := ⟨g4, i, none⟩) (Nat.le_refl _) _⟩
theorem RS.push0 (h : RS B g4 g11 W s y v0 v1 v2 v3 v4 l0 l1 l2 l3 l4) (hg : W.grownBy W' v0.ownBlock) (ho : OwnU W' B v' (l0 ++ [x])) (hor : v'.ownBlock = v0.ownBlock ∨ v'.ownBlock = some W.heap.size) : RS B g4 g11 W' s y v' v1 v2 v3 v4 (l0 ++ [x]) l1 l2 l3 l4 ∧ Below B W W' :=
  ⟨⟨h.five.push0 hg ho hor, (row_grown' hg (row_lt h.r4) (fun e => by have := (h.five.o0.lt g4 e.symm).1; have := h.lt4; omega)).trans h.r4, (row_grown' hg (row_lt h.r11) (fun e => h.n0 e.symm)).trans h.r11, h.lt4, Nat.le_trans h.base hg.size, (fun e => hor.elim (fun e2 => h.n0 (e2.symm.trans e)) (fun e2 => by have := e2.symm.trans e; rw [Option.some.injEq] at this; have := row_lt h.r11; omega)), h.n1, h.n2, h.n3, h.n4⟩, below_grown_c (Below.refl B W) h.base h.five.o0 hg⟩
theorem RS.push1 (h : RS B g4 g11 W s y v0 v1 v2 v3 v4 l0 l1 l2 l3 l4) (hg : W.grownBy W' v1.ownBlock) (ho : OwnU W' B v' (l1 ++ [x])) (hor : v'.ownBlock = v1.ownBlock ∨ v'.ownBlock = some W.heap.size) : RS B g4 g11 W' s y v0 v' v2 v3 v4 l0 (l1 ++ [x]) l2 l3 l4 ∧ Below B W W' :=
  ⟨⟨h.five.push1 hg ho hor, (row_grown' hg (row_lt h.r4) (fun e => by have := (h.five.o1.lt g4 e.symm).1; have := h.lt4; omega)).trans h.r4, (row_grown' hg (row_lt h.r11) (fun e => h.n1 e.symm)).trans h.r11, h.lt4, Nat.le_trans h.base hg.size, h.n0, (fun e => hor.elim (fun e2 => h.n1 (e2.symm.trans e)) (fun e2 => by have := e2.symm.trans e; rw [Option.some.injEq] at this; have := row_lt h.r11; omega)), h.n2, h.n3, h.n4⟩, below_grown_c (Below.refl B W) h.base h.five.o1 hg⟩
theorem RS.push2 (h : RS B g4 g11 W s y v0 v1 v2 v3 v4 l0 l1 l2 l3 l4) (hg : W.grownBy W' v2.ownBlock) (ho : OwnU W' B v' (l2 ++ [x])) (hor : v'.ownBlock = v2.ownBlock ∨ v'.ownBlock = some W.heap.size) : RS B g4 g11 W' s y v0 v1 v' v3 v4 l0 l1 (l2 ++ [x]) l3 l4 ∧ Below B W W' :=
  ⟨⟨h.five.push2 hg ho hor, (row_grown' hg (row_lt h.r4) (fun e => by have := (h.five.o2.lt g4 e.symm).1; have := h.lt4; omega)).trans h.r4, (row_grown' hg (row_lt h.r11) (fun e => h.n2 e.symm)).trans h.r11, h.lt4, Nat.le_trans h.base hg.size, h.n0, h.n1, (fun e => hor.elim (fun e2 => h.n2 (e2.symm.trans e)) (fun e2 => by have := e2.symm.trans e; rw [Option.some.injEq] at this; have := row_lt h.r11; omega)), h.n3, h.n4⟩, below_grown_c (Below.refl B W) h.base h.five.o2 hg⟩
theorem RS.push3 (h : RS B g4 g11 W s y v0 v1 v2 v3 v4 l0 l1 l2 l3 l4) (hg : W.grownBy W' v3.ownBlock) (ho : OwnU W' B v' (l3 ++ [x])) (hor : v'.ownBlock = v3.ownBlock ∨ v'.ownBlock = some W.heap.size) : RS B g4 g11 W' s y v0 v1 v2 v' v4 l0 l1 l2 (l3 ++ [x]) l4 ∧ Below B W W' :=
  ⟨⟨h.five.push3 hg ho hor, (row_grown' hg (row_lt h.r4) (fun e => by have := (h.five.o3.lt g4 e.symm).1; have := h.lt4; omega)).trans h.r4, (row_grown' hg (row_lt h.r11) (fun e => h.n3 e.symm)).trans h.r11, h.lt4, Nat.le_trans h.base hg.size, h.n0, h.n1, h.n2, (fun e => hor.elim (fun e2 => h.n3 (e2.symm.trans e)) (fun e2 => by have := e2.symm.trans e; rw [Option.some.injEq] at this; have := row_lt h.r11; omega)), h.n4⟩, below_grown_c (Below.refl B W) h.base h.five.o3 hg⟩
theorem RS.push4 (h : RS B g4 g11 W s y v0 v1 v2 v3 v4 l0 l1 l2 l3 l4) (hg : W.grownBy W' v4.ownBlock) (ho : OwnU W' B v' (l4 ++ [x])) (hor : v'.ownBlock = v4.ownBlock ∨ v'.ownBlock = some W.heap.size) : RS B g4 g11 W' s y v0 v1 v2 v3 v' l0 l1 l2 l3 (l4 ++ [x]) ∧ Below B W W' :=
  ⟨⟨h.five.push4 hg ho hor, (row_grown' hg (row_lt h.r4) (fun e => by have := (h.five.o4.lt g4 e.symm).1; have := h.lt4; omega)).trans h.r4, (row_grown' hg (row_lt h.r11) (fun e => h.n4 e.symm)).trans h.r11, h.lt4, Nat.le_trans h.base hg.size, h.n0, h.n1, h.n2, h.n3, (fun e => hor.elim (fun e2 => h.n4 (e2.symm.trans e)) (fun e2 => by have := e2.symm.trans e; rw [Option.some.injEq] at this; have := row_lt h.r11; omega))⟩, below_grown_c (Below.refl B W) h.base h.five.o4 hg⟩
theorem RS.stay (h : RS B g4 g11 W s y v0 v1 v2 v3 v4 l0 l1 l2 l3 l4) (hb : Below W.heap.size W W') : RS B g4 g11 W' s y v0 v1 v2 v3 v4 l0 l1 l2 l3 l4 := ⟨h.five.stay hb, (row_below hb (row_lt h.r4)).trans h.r4, (row_below hb (row_lt h.r11)).trans h.r11, h.lt4, Nat.le_trans h.base hb.size, h.n0, h.n1, h.n2, h.n3, h.n4⟩
end
end
end Go.Proofs.Ytnakkjgnjffkpaa

/-
  Layer 5: whatever is written, in whatever order, is the document's bytes, or has its failure.
-/
import Derived.Test.YteppkbjjldnniaaLaw05b
namespace Go.Proofs.Yteppkbjjldnniaa
open Go.RowKit
set_option linter.unusedVariables false

/-- Two writers that share nothing, all of it from block B on. -/
structure Sep (B g1 : Nat) (o1 : Option Nat) (g2 : Nat) (o2 : Option Nat) : Prop where
  ne : g1 ≠ g2
  b1 : B ≤ g1
  b2 : B ≤ g2
  l1 : ∀ k, o1 = some k → B ≤ k ∧ k ≠ g2 ∧ o2 ≠ some k
  l2 : ∀ k, o2 = some k → B ≤ k ∧ k ≠ g1
theorem Sep.symm {B g1 g2 : Nat} {o1 o2 : Option Nat} (h : Sep B g1 o1 g2 o2) : Sep B g2 o2 g1 o1 :=
  ⟨h.ne.symm, h.b2, h.b1, fun k hk => ⟨(h.l2 k hk).1, (h.l2 k hk).2, fun e => (h.l1 k e).2.2 hk⟩, fun k hk => ⟨(h.l1 k hk).1, (h.l1 k hk).2.1⟩⟩
theorem Sep.low {B g1 g2 : Nat} {o1 o2 : Option Nat} (h : Sep B g1 o1 g2 o2) : ∀ k, WS g1 o1 k → B ≤ k := fun k hk => by
  rcases hk with rfl | hk
  · exact h.b1
  · exact (h.l1 k hk).1
theorem Sep.step {B g1 g2 : Nat} {o1 o2 : Option Nat} {w w1 : World} {s s' t : Wt} {e : Ending} (h : Sep B g1 o1 g2 o2) (h1 : WtAt w g1 o1 s) (h2 : WtAt w g2 o2 t) (hB : B ≤ w.heap.size) (hp : WtPost w g1 o1 s' e w1) :
    e = unitE ∧ ∃ o1', WtAt w1 g1 o1' s' ∧ WtAt w1 g2 o2 t ∧ Sep B g1 o1' g2 o2 ∧ Below B w w1 ∧ Chg (WS g1 o1) w w1 := by
  obtain ⟨he, o1', ha, hb, hc⟩ := hp
  refine ⟨he, o1', ha, h2.chg hc ?_ ?_, ⟨h.ne, h.b1, h.b2, fun k hk => ?_, h.l2⟩, hc.toBelow h.low hB, hc⟩
  · rintro (e | e)
    · exact h.ne e.symm
    · exact (h.l1 _ e).2.1 rfl
  · rintro k hk (e | e)
    · exact (h.l2 k hk).2 e
    · exact (h.l1 k e).2.2 hk
  · rcases hb with rfl | ⟨j, rfl, hj⟩
    · exact h.l1 k hk
    · cases hk
      have := h2.lt
      exact ⟨by omega, by omega, fun e => by have := this.2 _ e; omega⟩
theorem WtAt.far {w : World} {g k : Nat} {o : Option Nat} {s : Wt} (h : WtAt w g o s) (hk : w.heap.size ≤ k) : ¬ WS g o k := fun e => by
  have := h.lt
  rcases e with rfl | e
  · omega
  · have := this.2 k e; omega
def flagW (i : Int) : Nat := if i = 1 then 1 else 0
def stepW (s : Wt) (o : Op5) : Wt := if o.kind = 1 then s.num o.n else if o.kind = 2 then s.int o.i else if o.kind = 3 then s.num (flagW o.i) else if o.kind = 4 then s.raw o.b else s
theorem flag_eq (i : Int) : flagN (i == 1) = flagW i := by
  unfold flagN flagW
  by_cases h : i = 1 <;> simp [h]
set_option maxRecDepth 100000 in
set_option maxHeartbeats 4000000 in
theorem coderWrites_any (A : Option Addr) (n c : Nat) (xs : List Op5) (hn : xs.length = n) (hm : n ≤ 9223372036854775807) (w : World) (hok : ∀ x ∈ xs, Op5.Ok w x) (hU : SliceOf 4 Op5.cells w A xs) :
    Calls Try.prog 4 #[.slice A n c] w fun e w' => e = .returned (.bool true) ∧ Below w.heap.size w w' := by
  have HN := Lib.hid hn
  have HU := Lib.hid hU
  have HOk := Lib.hid hok
  have HFew := Lib.hid (fun W h => few05_any A n c xs hn hm (fun x hx => Nat.le_trans (hok x hx).b.cap (hok x hx).b.top) W h)
  clear hn hU hok
  go_enter Try.func4, Try.ntmps4
  go_wp2_with fail
  refine (awake05_any _).mono ?_
  rintro e w1 ⟨rfl, hb1⟩
  go_wp2_with fail
  refine (HFew.out _ (HU.out.below hb1 (Nat.le_refl _))).mono ?_
  rintro e w2 ⟨⟨rfl, hf⟩ | ⟨rfl, hf⟩, hb2⟩
  · have HF := Lib.hid hf
    have hB2 := Below.then hb1 hb2
    clear hf hb1 hb2 HFew
    go_wp2_with (first | (refine wpList_build_to #[.slice none 0 0, .int .i64 0] rfl 34 _ rfl (by kernel_rfl) ?_) | (refine wpList_build_to #[.slice none 0 0, .int .i64 0] rfl 45 _ rfl (by kernel_rfl) ?_))
    have a1 := (WtAt.fresh w2 34).stay ((Below.refl _ _).alloc (Nat.le_refl _) (.cells #[.slice none 0 0, .int .i64 0] 45))
    have a2 := WtAt.fresh (w2.alloc (.cells #[.slice none 0 0, .int .i64 0] 34)) 45
    have hB4 : Below w.heap.size w ((w2.alloc (.cells #[.slice none 0 0, .int .i64 0] 34)).alloc (.cells #[.slice none 0 0, .int .i64 0] 45)) := (by (repeat (first | exact Below.refl _ _ | assumption | (refine Below.allocT ?_ _) | refine Below.drew ?_ | refine below_drewN ?_ _ | (refine Below.then ?_ (by assumption)) | (refine Below.setRow ?_ ?_ _; rotate_left; (focus (first | exact Nat.lt_succ_self _ | ((repeat rw [World.size_alloc]); omega) | (simp; done) | (simp; omega) | omega))) | (refine Below.setCell ?_ ?_ _; rotate_left; (focus (first | exact Nat.lt_succ_self _ | ((repeat rw [World.size_alloc]); omega) | (simp; done) | (simp; omega) | omega))) | (refine Below.then' ?_ (by assumption) ?_; rotate_left; (focus (first | exact Nat.lt_succ_self _ | ((repeat rw [World.size_alloc]); omega) | (simp; done) | (simp; omega) | omega))) | fail)); (first | done | fail))
    rw [World.size_alloc] at a2
    have hsep : Sep w.heap.size w2.heap.size none (w2.heap.size + 1) none := ⟨by omega, hB2.size, by have := hB2.size; omega, fun k hk => (by cases hk), fun k hk => (by cases hk)⟩
    have A1 := Lib.hid a1
    have A2 := Lib.hid a2
    have HB4 := Lib.hid hB4
    have HSep := Lib.hid hsep
    generalize w2.heap.size = g at *
    clear a1 a2 hB4 hB2 hsep
    go_loopw [20] (fun i wr => ∃ (j : Nat) (s : Wt) (o1 o2 : Option Nat), i = .int .i64 j ∧ j ≤ n ∧ Hid s.Ok ∧ Hid (WtAt wr g o1 s) ∧ Hid (WtAt wr (g + 1) o2 s) ∧ Hid (Sep w.heap.size g o1 (g + 1) o2) ∧ Hid (Below w.heap.size w wr)) (fun i _ => n - (intOf i).toNat)
    case atStart => exact ⟨0, Wt.none, none, none, rfl, by omega, Lib.hid Wt.none_ok, A1, A2, HSep, HB4⟩
    case round =>
      clear A1 A2 HB4 HSep
      obtain ⟨j, s, o1, o2, rfl, hj, hok, hW1, hW2, hsep, hB⟩ := hrel
      by_cases hlt : j < n
      · obtain ⟨b, off, rfl, hbb, hcell⟩ := HU.out (by rw [HN.out]; omega)
        obtain ⟨o, hxj⟩ : ∃ o, xs[j]? = some o := ⟨_, List.getElem?_eq_getElem (by rw [HN.out]; omega)⟩
        have hmem := List.mem_of_getElem? hxj
        have HO := Lib.hid (HOk.out o hmem)
        have HSh : Hid (o.b.length ≤ 140000) := Lib.hid (HF.out.2 o hmem)
        obtain ⟨k0, k1, k2, k3⟩ := op5_cells (range_below (hcell j _ hxj) hB.out hbb)
        have z1 : (0 : Int) ≤ (j : Int) := by omega
        have z2 : (j : Int) < (n : Int) := by omega
        have V1 : Hid (WtAt (wr.alloc (.cells #[.int .i64 o.kind, .int .i64 o.i, .int .u64 o.n, .slice o.A o.b.length o.c] 47)) g o1 s) := Lib.hid (hW1.out.stay ((Below.refl _ wr).alloc (Nat.le_refl _) _))
        have V2 : Hid (WtAt (wr.alloc (.cells #[.int .i64 o.kind, .int .i64 o.i, .int .u64 o.n, .slice o.A o.b.length o.c] 47)) (g + 1) o2 s) := Lib.hid (hW2.out.stay ((Below.refl _ wr).alloc (Nat.le_refl _) _))
        have VB : Hid (Below w.heap.size w (wr.alloc (.cells #[.int .i64 o.kind, .int .i64 o.i, .int .u64 o.n, .slice o.A o.b.length o.c] 47))) := Lib.hid (hB.out.alloc hB.out.size _)
        have VR : Hid (row (wr.alloc (.cells #[.int .i64 o.kind, .int .i64 o.i, .int .u64 o.n, .slice o.A o.b.length o.c] 47)) wr.heap.size = some #[.int .i64 o.kind, .int .i64 o.i, .int .u64 o.n, .slice o.A o.b.length o.c]) := Lib.hid (row_at _ _ _ _ rfl)
        have VF : Hid (¬ WS g o1 wr.heap.size ∧ ¬ WS (g + 1) o2 wr.heap.size) := Lib.hid ⟨hW1.out.far (Nat.le_refl _), hW2.out.far (Nat.le_refl _)⟩
        have hkind : (o.kind = 1) ∨ (o.kind = 2) ∨ (o.kind = 3 ∧ o.i = 1) ∨ (o.kind = 3 ∧ o.i ≠ 1) ∨ (o.kind = 4) ∨ (o.kind ≠ 1 ∧ o.kind ≠ 2 ∧ o.kind ≠ 3 ∧ o.kind ≠ 4) := by omega
        clear hcell hxj hmem hW1 hW2 hB
        rcases hkind with hk | hk | ⟨hk, hi⟩ | ⟨hk, hi⟩ | hk | hk
        focus
          have q1 : (o.kind == 1) = true := by rw [hk]; rfl
          clear hk
          go_wp2_with fail
          generalize (wr.alloc (.cells #[.int .i64 o.kind, .int .i64 o.i, .int .u64 o.n, .slice o.A o.b.length o.c] 47)) = V at *
          generalize wr.heap.size = gO at *
          refine (wnum_any g o1 s hok.out o.n HO.out.n V V1.out).mono ?_
          intro e w1 hp
          obtain ⟨he, o1', a1, a2, a3, a4, a5⟩ := hsep.out.step V1.out V2.out VB.out.size hp
          unfold unitE at he
          subst he
          have r1 := (a5.row (row_lt VR.out) VF.out.1).trans VR.out
          have k1 : w1.cell? ⟨gO, 1, none⟩ = some (.int .i64 o.i) := row_cell r1 1
          have k2 : w1.cell? ⟨gO, 2, none⟩ = some (.int .u64 o.n) := row_cell r1 2
          have k3 : w1.cell? ⟨gO, 3, none⟩ = some (.slice o.A o.b.length o.c) := row_cell r1 3
          have P1 := Lib.hid a1
          have P2 := Lib.hid a2
          have PS := Lib.hid a3
          have PB := Lib.hid (VB.out.trans a4)
          clear hp a1 a2 a3 a4 a5 r1 V1 V2 hsep
          go_wp2_with fail
          refine (rform_any o.n HO.out.n _).mono ?_
          intro e w2 hF
          obtain ⟨A2, c2, rfl, hBy, _, _, hb⟩ := hF.bys
          have Q1 := Lib.hid (P1.out.stay hb)
          have Q2 := Lib.hid (P2.out.stay hb)
          have QB := Lib.hid (Below.then PB.out hb)
          have QY := Lib.hid hBy
          clear hF hBy hb P1 P2 PB k1 k2 k3
          go_wp2_with fail
          have HOK' := hok.out.num o.n
          refine (pput_any (g + 1) o2 s hok.out A2 _ c2 (formN o.n) rfl (by have := formN_len10 HO.out.n; omega) _ Q2.out QY.out).mono ?_
          intro e wz hp
          obtain ⟨he, o2', a1, a2, a3, a4, a5⟩ := PS.out.symm.step Q2.out Q1.out QB.out.size (s' := s.num o.n) hp
          unfold unitE at he
          subst he
          have T2 := Lib.hid a1
          have T1 := Lib.hid a2
          have TS := Lib.hid a3.symm
          have TB := Lib.hid (QB.out.trans a4)
          have TO : Hid (Wt.Ok (s.num o.n)) := Lib.hid HOK'
          clear hp a1 a2 a3 a4 a5 Q1 Q2 PS QB
          generalize s.num o.n = s' at *
        rotate_left 1
        focus
          have q1 : (o.kind == 1) = false := by rw [hk]; rfl
          have q2 : (o.kind == 2) = true := by rw [hk]; rfl
          clear hk
          go_wp2_with fail
          generalize (wr.alloc (.cells #[.int .i64 o.kind, .int .i64 o.i, .int .u64 o.n, .slice o.A o.b.length o.c] 47)) = V at *
          generalize wr.heap.size = gO at *
          refine (wint_any g o1 s hok.out o.i HO.out.i V V1.out).mono ?_
          intro e w1 hp
          obtain ⟨he, o1', a1, a2, a3, a4, a5⟩ := hsep.out.step V1.out V2.out VB.out.size hp
          unfold unitE at he
          subst he
          have r1 := (a5.row (row_lt VR.out) VF.out.1).trans VR.out
          have k1 : w1.cell? ⟨gO, 1, none⟩ = some (.int .i64 o.i) := row_cell r1 1
          have k2 : w1.cell? ⟨gO, 2, none⟩ = some (.int .u64 o.n) := row_cell r1 2
          have k3 : w1.cell? ⟨gO, 3, none⟩ = some (.slice o.A o.b.length o.c) := row_cell r1 3
          have P1 := Lib.hid a1
          have P2 := Lib.hid a2
          have PS := Lib.hid a3
          have PB := Lib.hid (VB.out.trans a4)
          clear hp a1 a2 a3 a4 a5 r1 V1 V2 hsep
          go_wp2_with fail
          have Q1 := P1
          have Q2 := P2
          have QB := PB
          clear P1 P2 PB k1 k2 k3
          have HOK' := hok.out.int o.i
          refine (pint_any (g + 1) o2 s hok.out o.i HO.out.i _ Q2.out).mono ?_
          intro e wz hp
          obtain ⟨he, o2', a1, a2, a3, a4, a5⟩ := PS.out.symm.step Q2.out Q1.out QB.out.size hp
          unfold unitE at he
          subst he
          have T2 := Lib.hid a1
          have T1 := Lib.hid a2
          have TS := Lib.hid a3.symm
          have TB := Lib.hid (QB.out.trans a4)
          have TO : Hid (Wt.Ok (s.int o.i)) := Lib.hid HOK'
          clear hp a1 a2 a3 a4 a5 Q1 Q2 PS QB
          generalize s.int o.i = s' at *
        rotate_left 1
        focus
          have q1 : (o.kind == 1) = false := by rw [hk]; rfl
          have q2 : (o.kind == 2) = false := by rw [hk]; rfl
          have q3 : (o.kind == 3) = true := by rw [hk]; rfl
          have q5 : (o.i == 1) = true := by rw [hi]; rfl
          clear hk hi
          go_wp2_with fail
          generalize (wr.alloc (.cells #[.int .i64 o.kind, .int .i64 o.i, .int .u64 o.n, .slice o.A o.b.length o.c] 47)) = V at *
          generalize wr.heap.size = gO at *
          refine (wflag_any g o1 s hok.out true V V1.out).mono ?_
          intro e w1 hp
          obtain ⟨he, o1', a1, a2, a3, a4, a5⟩ := hsep.out.step V1.out V2.out VB.out.size hp
          unfold unitE at he
          subst he
          have r1 := (a5.row (row_lt VR.out) VF.out.1).trans VR.out
          have k1 : w1.cell? ⟨gO, 1, none⟩ = some (.int .i64 o.i) := row_cell r1 1
          have k2 : w1.cell? ⟨gO, 2, none⟩ = some (.int .u64 o.n) := row_cell r1 2
          have k3 : w1.cell? ⟨gO, 3, none⟩ = some (.slice o.A o.b.length o.c) := row_cell r1 3
          have P1 := Lib.hid a1
          have P2 := Lib.hid a2
          have PS := Lib.hid a3
          have PB := Lib.hid (VB.out.trans a4)
          clear hp a1 a2 a3 a4 a5 r1 V1 V2 hsep
          go_wp2_with fail
          have Q1 := P1
          have Q2 := P2
          have QB := PB
          clear P1 P2 PB k1 k2 k3
          have HOK' := hok.out.num 1
          refine (pint_any (g + 1) o2 s hok.out 1 (by unfold i64ok; omega) _ Q2.out).mono ?_
          intro e wz hp
          obtain ⟨he, o2', a1, a2, a3, a4, a5⟩ := PS.out.symm.step Q2.out Q1.out QB.out.size (s' := s.num 1) hp
          unfold unitE at he
          subst he
          have T2 := Lib.hid a1
          have T1 : Hid (WtAt wz g o1' (s.num 1)) := Lib.hid a2
          have TS := Lib.hid a3.symm
          have TB := Lib.hid (QB.out.trans a4)
          have TO : Hid (Wt.Ok (s.num 1)) := Lib.hid HOK'
          clear hp a1 a2 a3 a4 a5 Q1 Q2 PS QB
          generalize s.num 1 = s' at *
        rotate_left 1
        focus
          have q1 : (o.kind == 1) = false := by rw [hk]; rfl
          have q2 : (o.kind == 2) = false := by rw [hk]; rfl
          have q3 : (o.kind == 3) = true := by rw [hk]; rfl
          have q5 : (o.i == 1) = false := beq_eq_false_iff_ne.2 hi
          clear hk hi
          go_wp2_with fail
          generalize (wr.alloc (.cells #[.int .i64 o.kind, .int .i64 o.i, .int .u64 o.n, .slice o.A o.b.length o.c] 47)) = V at *
          generalize wr.heap.size = gO at *
          refine (wflag_any g o1 s hok.out false V V1.out).mono ?_
          intro e w1 hp
          obtain ⟨he, o1', a1, a2, a3, a4, a5⟩ := hsep.out.step V1.out V2.out VB.out.size hp
          unfold unitE at he
          subst he
          have r1 := (a5.row (row_lt VR.out) VF.out.1).trans VR.out
          have k1 : w1.cell? ⟨gO, 1, none⟩ = some (.int .i64 o.i) := row_cell r1 1
          have k2 : w1.cell? ⟨gO, 2, none⟩ = some (.int .u64 o.n) := row_cell r1 2
          have k3 : w1.cell? ⟨gO, 3, none⟩ = some (.slice o.A o.b.length o.c) := row_cell r1 3
          have P1 := Lib.hid a1
          have P2 := Lib.hid a2
          have PS := Lib.hid a3
          have PB := Lib.hid (VB.out.trans a4)
          clear hp a1 a2 a3 a4 a5 r1 V1 V2 hsep
          go_wp2_with fail
          have Q1 := P1
          have Q2 := P2
          have QB := PB
          clear P1 P2 PB k1 k2 k3
          have HOK' := hok.out.num 0
          refine (pint_any (g + 1) o2 s hok.out 0 (by unfold i64ok; omega) _ Q2.out).mono ?_
          intro e wz hp
          obtain ⟨he, o2', a1, a2, a3, a4, a5⟩ := PS.out.symm.step Q2.out Q1.out QB.out.size (s' := s.num 0) hp
          unfold unitE at he
          subst he
          have T2 := Lib.hid a1
          have T1 : Hid (WtAt wz g o1' (s.num 0)) := Lib.hid a2
          have TS := Lib.hid a3.symm
          have TB := Lib.hid (QB.out.trans a4)
          have TO : Hid (Wt.Ok (s.num 0)) := Lib.hid HOK'
          clear hp a1 a2 a3 a4 a5 Q1 Q2 PS QB
          generalize s.num 0 = s' at *
        rotate_left 1
        focus
          have q1 : (o.kind == 1) = false := by rw [hk]; rfl
          have q2 : (o.kind == 2) = false := by rw [hk]; rfl
          have q3 : (o.kind == 3) = false := by rw [hk]; rfl
          have q4 : (o.kind == 4) = true := by rw [hk]; rfl
          obtain ⟨L, hL⟩ : ∃ L, L = formN o.b.length ++ o.b := ⟨_, rfl⟩
          have HRw := Lib.hid (fun W h => rrawb_any o.A o.b.length o.c o.b rfl (by have := HSh.out; omega) W h)
          rw [← hL] at HRw
          have HLL : Hid (L.length ≤ 1000000) := Lib.hid (by have := HSh.out; have := formN_len10 (n := o.b.length) (by omega); rw [hL, List.length_append]; omega)
          have HRP : Hid (s.put L = s.raw o.b) := Lib.hid (by rw [hL]; rfl)
          clear hL
          have HBw := Lib.hid ((HO.out.b.bys.below VB.out (Nat.le_refl _)))
          clear hk
          go_wp2_with fail
          generalize (wr.alloc (.cells #[.int .i64 o.kind, .int .i64 o.i, .int .u64 o.n, .slice o.A o.b.length o.c] 47)) = V at *
          generalize wr.heap.size = gO at *
          refine (wraw_any g o1 s hok.out o.A o.b.length o.c o.b rfl (by have := HSh.out; omega) V HBw.out V1.out).mono ?_
          intro e w1 hp
          obtain ⟨he, o1', a1, a2, a3, a4, a5⟩ := hsep.out.step V1.out V2.out VB.out.size hp
          unfold unitE at he
          subst he
          have r1 := (a5.row (row_lt VR.out) VF.out.1).trans VR.out
          have k1 : w1.cell? ⟨gO, 1, none⟩ = some (.int .i64 o.i) := row_cell r1 1
          have k2 : w1.cell? ⟨gO, 2, none⟩ = some (.int .u64 o.n) := row_cell r1 2
          have k3 : w1.cell? ⟨gO, 3, none⟩ = some (.slice o.A o.b.length o.c) := row_cell r1 3
          have P1 := Lib.hid a1
          have P2 := Lib.hid a2
          have PS := Lib.hid a3
          have PB := Lib.hid (VB.out.trans a4)
          clear hp a1 a2 a3 a4 a5 r1 V1 V2 hsep
          go_wp2_with fail
          refine (HRw.out _ (HO.out.b.bys.below PB.out (Nat.le_refl _))).mono ?_
          intro e w2 hF
          obtain ⟨A2, c2, rfl, hBy, _, _, hb⟩ := hF.bys
          have Q1 := Lib.hid (P1.out.stay hb)
          have Q2 := Lib.hid (P2.out.stay hb)
          have QB := Lib.hid (Below.then PB.out hb)
          have QY := Lib.hid hBy
          clear hF hBy hb P1 P2 PB k1 k2 k3
          go_wp2_with fail
          have HOK' := hok.out.raw HO.out.b.ok
          refine (pput_any (g + 1) o2 s hok.out A2 _ c2 L rfl (by have := HLL.out; omega) _ Q2.out QY.out).mono ?_
          intro e wz hp
          obtain ⟨he, o2', a1, a2, a3, a4, a5⟩ := PS.out.symm.step Q2.out Q1.out QB.out.size (s' := s.raw o.b) (HRP.out ▸ hp)
          unfold unitE at he
          subst he
          have T2 := Lib.hid a1
          have T1 := Lib.hid a2
          have TS := Lib.hid a3.symm
          have TB := Lib.hid (QB.out.trans a4)
          have TO : Hid (Wt.Ok (s.raw o.b)) := Lib.hid HOK'
          clear hp a1 a2 a3 a4 a5 Q1 Q2 PS QB
          generalize s.raw o.b = s' at *
        rotate_left 1
        focus
          have q1 : (o.kind == 1) = false := beq_eq_false_iff_ne.2 hk.1
          have q2 : (o.kind == 2) = false := beq_eq_false_iff_ne.2 hk.2.1
          have q3 : (o.kind == 3) = false := beq_eq_false_iff_ne.2 hk.2.2.1
          have q4 : (o.kind == 4) = false := beq_eq_false_iff_ne.2 hk.2.2.2
          clear hk
          go_wp2_with fail
          generalize (wr.alloc (.cells #[.int .i64 o.kind, .int .i64 o.i, .int .u64 o.n, .slice o.A o.b.length o.c] 47)) = V at *
          generalize wr.heap.size = gO at *
          have T1 := V1
          have T2 := V2
          have TS := hsep
          have TB := VB
          have TO : Hid s.Ok := hok
          clear V1 V2 hsep VB
          obtain ⟨wz, rfl⟩ : ∃ wz, wz = V := ⟨_, rfl⟩
          obtain ⟨s', rfl⟩ : ∃ s', s' = s := ⟨_, rfl⟩
          obtain ⟨o1', rfl⟩ : ∃ o1', o1' = o1 := ⟨_, rfl⟩
          obtain ⟨o2', rfl⟩ : ∃ o2', o2' = o2 := ⟨_, rfl⟩
        rotate_left 1
        all_goals
          go_wp2_with fail
          refine (wout_any g o1' s' TO.out wz T1.out).mono ?_
          rintro e w4 ⟨Ao, co, rfl, hO, hA, hb⟩
          obtain ⟨A5, c5, e5, hBy, hrest⟩ := hO.form
          clear hrest
          simp only [Value.slice.injEq, true_and] at e5
          obtain ⟨rfl, rfl⟩ := e5
          have U1 := Lib.hid (T1.out.stay hb)
          have U2 := Lib.hid (T2.out.stay hb)
          have UB := Lib.hid (Below.then TB.out hb)
          have UY := Lib.hid hBy
          obtain ⟨v2, hv2, hne2, hr2, hown2⟩ := U2.out
          obtain ⟨A6, c6, e6, hBy6, hrest⟩ := hown2.form
          subst e6
          clear hrest hv2 hne2 hown2
          have UZ := Lib.hid hBy6
          have m0 : w4.cell? ⟨g + 1, 0, none⟩ = some (.slice A6 s'.xs.length c6) := row_cell hr2 0
          have m1 : w4.cell? ⟨g + 1, 1, none⟩ = some (.int .i64 s'.e) := row_cell hr2 1
          clear hO hA hb hBy hBy6 hr2 T1 T2 TB
          by_cases h0 : s'.e = 0
          · have HOL : Hid (outL s' = s'.xs) := Lib.hid (by simp [outL, h0])
            rw [HOL.out]
            have HSm := Lib.hid (same5_any Ao A6 s'.xs s'.xs s'.xs.length co s'.xs.length c6 rfl rfl (by have := TO.out.len; omega) (by have := TO.out.len; omega) w4 (HOL.out ▸ UY.out) UZ.out)
            rw [show sameL s'.xs s'.xs = true by simp [sameL]] at HSm
            rw [h0] at m1 ⊢
            generalize s'.xs.length = len at *
            clear h0
            go_wp2_with fail
            refine (HSm.out).mono ?_
            rintro e w5 ⟨rfl, hb5⟩
            have X1 := Lib.hid (U1.out.stay hb5)
            have X2 := Lib.hid (U2.out.stay hb5)
            have XB := Lib.hid (Below.then UB.out hb5)
            clear hb5 m0 m1 U1 U2 UB
            go_wp2_with fail
            exact ⟨⟨j + 1, s', o1', _, by go_num, by omega, TO, X1, X2, TS, XB⟩, by simp [intOf]; omega⟩
          · have HOL : Hid (outL s' = []) := Lib.hid (by simp [outL, h0])
            rw [HOL.out]
            have e1 : (s'.e == 0) = false := beq_eq_false_iff_ne.2 h0
            have e2 : (s'.e != 0) = true := bne_iff_ne.2 h0
            have e3 : (s'.e != s'.e) = false := by simp
            generalize s'.xs.length = len at *
            clear h0
            go_wp2_with fail
            exact ⟨⟨j + 1, s', o1', _, by go_num, by omega, TO, U1, U2, TS, UB⟩, by simp [intOf]; omega⟩
      · obtain rfl : j = n := by omega
        clear HU
        go_wp2_with fail
        go_ret
        exact ⟨rfl, hB.out⟩
  · go_wp2_with fail
    go_ret
    exact ⟨rfl, Below.then hb1 hb2⟩
end Go.Proofs.Yteppkbjjldnniaa

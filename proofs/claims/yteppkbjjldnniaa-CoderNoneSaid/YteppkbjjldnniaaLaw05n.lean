/-
  Layer 5: by a writer or a reader that is none nothing is written or read.
-/
import Derived.Test.YteppkbjjldnniaaLaw05
namespace Go.Proofs.Yteppkbjjldnniaa
open Go.RowKit
set_option linter.unusedVariables false

set_option maxRecDepth 100000 in
set_option maxHeartbeats 4000000 in
theorem coderNone_any (o : Op5) (w : World) (ho : o.Ok w) : Calls Try.prog 7 #[.agg o.cells] w fun e w' => e = .returned (.bool true) ∧ Below w.heap.size w w' := by
  have hoi := ho.i
  have hon := ho.n
  have r0 : row (w.alloc (.cells o.cells 47)) w.heap.size = some o.cells := row_at _ _ _ _ rfl
  have hB0 : Below w.heap.size w (w.alloc (.cells o.cells 47)) := (by (repeat (first | exact Below.refl _ _ | assumption | (refine Below.allocT ?_ _) | refine Below.drew ?_ | refine below_drewN ?_ _ | (refine Below.then ?_ (by assumption)) | (refine Below.setRow ?_ ?_ _; rotate_left; (focus (first | exact Nat.lt_succ_self _ | ((repeat rw [World.size_alloc]); omega) | (simp; done) | (simp; omega) | omega))) | (refine Below.setCell ?_ ?_ _; rotate_left; (focus (first | exact Nat.lt_succ_self _ | ((repeat rw [World.size_alloc]); omega) | (simp; done) | (simp; omega) | omega))) | (refine Below.then' ?_ (by assumption) ?_; rotate_left; (focus (first | exact Nat.lt_succ_self _ | ((repeat rw [World.size_alloc]); omega) | (simp; done) | (simp; omega) | omega))) | fail)); (first | done | fail))
  have HI := Lib.hid (fun W => rint_nil o.i hoi W)
  have HF := Lib.hid (fun g A c s hs W hR => rnum_any g A c s hs o.n hon W hR)
  have HD := Lib.hid (fun g A c s hs W hR => rdone_any g A c s hs W hR)
  have HE := Lib.hid (fun g A c s W hR => rerr_any g A c s W hR)
  have hs0 : Rd.Ok ⟨[], 0, 0⟩ := ⟨bytesOk.nil, by simp, by simp, by simp, by simp⟩
  have HS0 := Lib.hid hs0
  have HV : Hid (Rd.num ⟨[], 0, 0⟩ o.n = (0, ⟨[], 0, 50⟩)) := Lib.hid rfl
  clear hon hoi hs0 ho
  go_enter Try.func7, Try.ntmps7
  go_wp2_with fail
  refine (awake05_any _).mono ?_
  rintro e w1 ⟨rfl, hb1⟩
  have r1 := (row_below hb1 (row_lt r0)).trans r0
  have hB1 := Below.then hB0 hb1
  have k1 : w1.cell? ⟨w.heap.size, 1, none⟩ = some (.int .i64 o.i) := row_cell r1 1
  have k2 : w1.cell? ⟨w.heap.size, 2, none⟩ = some (.int .u64 o.n) := row_cell r1 2
  have k3 : w1.cell? ⟨w.heap.size, 3, none⟩ = some (.slice o.A o.b.length o.c) := row_cell r1 3
  have HB1 := Lib.hid hB1
  have HR1 := Lib.hid r1
  clear r0 hB0 hb1 r1 hB1
  go_wp2_with fail
  refine (wnum_nil _ _).mono ?_
  rintro e w1 ⟨rfl, rfl⟩
  go_wp2_with fail
  refine (wint_nil _ _).mono ?_
  rintro e w1 ⟨rfl, rfl⟩
  go_wp2_with fail
  refine (wflag_nil _ _).mono ?_
  rintro e w1 ⟨rfl, rfl⟩
  go_wp2_with fail
  refine (wraw_nil _ _).mono ?_
  rintro e w1 ⟨rfl, rfl⟩
  go_wp2_with fail
  refine (wout_nil _).mono ?_
  rintro e w1 ⟨rfl, rfl⟩
  go_wp2_with fail
  refine (rnum_nil _ _).mono ?_
  rintro e w1 ⟨rfl, rfl⟩
  go_wp2_with fail
  refine (HI.out _).mono ?_
  rintro e w1 ⟨rfl, rfl⟩
  go_wp2_with fail
  refine (rflag_nil _).mono ?_
  rintro e w1 ⟨rfl, rfl⟩
  go_wp2_with fail
  refine (rraw_nil _ _).mono ?_
  rintro e w1 ⟨rfl, rfl⟩
  go_wp2_with fail
  refine (rat_nil _).mono ?_
  rintro e w1 ⟨rfl, rfl⟩
  go_wp2_with fail
  refine (rerr_nil _).mono ?_
  rintro e w1 ⟨rfl, rfl⟩
  go_wp2_with fail
  refine (rdone_nil _).mono ?_
  rintro e w1 ⟨rfl, rfl⟩
  go_wp2_with (refine wpList_build_to #[.slice none 0 0, .int .i64 0, .int .i64 0] rfl 61 _ rfl (by kernel_rfl) ?_)
  have R0 : ∀ W : World, RdAt (W.alloc (.cells #[.slice none 0 0, .int .i64 0, .int .i64 0] 61)) W.heap.size none 0 ⟨[], 0, 0⟩ := fun W => ⟨row_at _ _ _ _ rfl, Bys.nil _ _, Nat.le_refl _, by omega, (fun a h => by cases h), fun _ => rfl⟩
  have hgB := row_lt HR1.out
  have hB2 := HB1.out.alloc HB1.out.size (.cells #[.slice none 0 0, .int .i64 0, .int .i64 0] 61)
  have hBs := HB1.out.size
  refine (HD.out _ _ _ _ HS0.out _ (R0 _)).mono ?_
  rintro e w3 ⟨rfl, hR3, hc3⟩
  have k2' : w3.cell? ⟨w.heap.size, 2, none⟩ = some (.int .u64 o.n) := (hc3.cell (by simp; omega) (fun h => by unfold only at h; omega) 2).trans (row_cell ((row_past _ _ _ hgB).trans HR1.out) 2)
  have R3 := Lib.hid hR3
  have hB3 := hB2.trans (hc3.toBelow (B := w.heap.size) (fun k hk => by unfold only at hk; omega) hB2.size)
  have HB3 := Lib.hid hB3
  have hgB3 := Lib.hid hBs
  clear k1 k2 k3 hR3 hc3 hB2 hB3 R0 hgB hBs
  rw [show Rd.done ⟨[], 0, 0⟩ = 0 from rfl]
  go_wp2_with fail
  refine (HF.out _ _ _ _ HS0.out _ R3.out).mono ?_
  rintro e w4 ⟨rfl, hR4, hc4⟩
  rw [HV.out] at hR4
  rw [HV.out]
  have R4 := Lib.hid hR4
  have hB4 := HB3.out.trans (hc4.toBelow (B := w.heap.size) (fun k hk => by unfold only at hk; have := hgB3.out; omega) HB3.out.size)
  have HB4 := Lib.hid hB4
  clear hR4 hc4 hB4 k2'
  go_wp2_with fail
  refine (HE.out _ _ _ _ _ R4.out).mono ?_
  rintro e w5 ⟨rfl, rfl⟩
  go_wp2_with fail
  go_ret
  exact ⟨rfl, HB4.out⟩
end Go.Proofs.Yteppkbjjldnniaa

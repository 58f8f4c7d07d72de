/-
  Layer 23: any motion that is moved stands where the document says, or is refused.
-/
import Derived.Test.YtnakkjgnjffkpaaLaw23b
import Derived.Test.YtnakkjgnjffkpaaRef23e
namespace Go.Proofs.Ytnakkjgnjffkpaa
open Go.ChangeShapes Go.WideShapes Go.ChangeAt Go.RowKit Go.Deep
set_option linter.unusedVariables false

set_option maxRecDepth 100000 in
set_option maxHeartbeats 4000000 in
theorem dplain_any (d : Ded) (a : DedA) (w : World) : Calls Try.prog 37 #[.agg (dedC (d, a))] w fun e w' => e = .returned (.agg (dedC (d, a))) ∧ Below w.heap.size w w' := by
  have r0 : row (w.alloc (.cells (dedC (d, a)) 79)) w.heap.size = some (dedC (d, a)) := (by (repeat (first | assumption | (refine row_at _ _ _ _ ?_; first | rfl | (simp only [World.size_alloc]; done) | (simp only [World.size_alloc]; omega)) | (refine (row_past _ _ _ ?_).trans ?_; (focus (first | exact Nat.lt_succ_self _ | ((repeat rw [World.size_alloc]); omega) | (simp; done) | (simp; omega) | omega))) | rw [row_drewN] | rw [row_drew])); (first | done | fail))
  have hB0 : Below w.heap.size w (w.alloc (.cells (dedC (d, a)) 79)) := (by (repeat (first | exact Below.refl _ _ | assumption | (refine Below.allocT ?_ _) | refine Below.drew ?_ | refine below_drewN ?_ _ | (refine Below.then ?_ (by assumption)) | (refine Below.setRow ?_ ?_ _; rotate_left; (focus (first | exact Nat.lt_succ_self _ | ((repeat rw [World.size_alloc]); omega) | (simp; done) | (simp; omega) | omega))) | (refine Below.setCell ?_ ?_ _; rotate_left; (focus (first | exact Nat.lt_succ_self _ | ((repeat rw [World.size_alloc]); omega) | (simp; done) | (simp; omega) | omega))) | (refine Below.then' ?_ (by assumption) ?_; rotate_left; (focus (first | exact Nat.lt_succ_self _ | ((repeat rw [World.size_alloc]); omega) | (simp; done) | (simp; omega) | omega))) | fail)); (first | done | fail))
  obtain ⟨w0, hw0⟩ : ∃ x, x = w.alloc (.cells (dedC (d, a)) 79) := ⟨_, rfl⟩
  rw [← hw0] at r0 hB0
  have hsz : w0.heap.size = w.heap.size + 1 := by rw [hw0, World.size_alloc]
  go_enter Try.func37, Try.ntmps37
  go_upto_region 1 with (rw [← hw0]; clear hw0)
  refine of_world (fun W => Below w.heap.size w W ∧ row W w.heap.size = some (dedC (d, a)) ∧ row W (w.heap.size + 1) = some (dedC (Ded.zero, DedA.nil))) ⟨(by (repeat (first | exact Below.refl _ _ | assumption | (refine Below.allocT ?_ _) | refine Below.drew ?_ | refine below_drewN ?_ _ | (refine Below.then ?_ (by assumption)) | (refine Below.setRow ?_ ?_ _; rotate_left; (focus (first | exact Nat.lt_succ_self _ | ((repeat rw [World.size_alloc]); omega) | (simp; done) | (simp; omega) | omega))) | (refine Below.setCell ?_ ?_ _; rotate_left; (focus (first | exact Nat.lt_succ_self _ | ((repeat rw [World.size_alloc]); omega) | (simp; done) | (simp; omega) | omega))) | (refine Below.then' ?_ (by assumption) ?_; rotate_left; (focus (first | exact Nat.lt_succ_self _ | ((repeat rw [World.size_alloc]); omega) | (simp; done) | (simp; omega) | omega))) | fail)); (first | done | fail)), (row_past _ _ _ (by omega)).trans r0, row_at _ _ _ _ hsz.symm⟩ ?_
  rintro w1 ⟨hb1, r1, q1⟩
  have HB1 := Lib.hid hb1
  have cc := fun i => row_cell r1 i
  have hz := dedC_one (d, a)
  have hzs := dedC_size (d, a)
  have hx1 : (row w1 (w.heap.size + 1)).map (·.size) = some 34 := by rw [q1]; rfl
  clear hb1 r0 hB0 hsz
  go_wp2_with (refine wpList_build_to (dedC (d, a)) rfl 92 _ rfl (by kernel_rfl) ?_)
  obtain ⟨t, ht⟩ := row_heap (row_setRow (new := dedC (d, a)) q1)
  exact bodyPost_ret (v := .agg (dedC (d, a))) (results_cell_row Try.results37 _ _ (w.heap.size + 1) t (dedC (d, a)) (0, 0) _ rfl ht rded_under rfl rded_info) rfl ⟨rfl, Below.setRow HB1.out (by omega) _⟩
def movC (x : Ded × DedA) (ep : Int) : Array Value := (dedC x).push (.int .i64 ep)
theorem movC_size (x : Ded × DedA) (ep : Int) : (movC x ep).size = 35 := rfl
theorem movC_room (x : Ded × DedA) (ep : Int) : roomy 0 34 (movC x ep) = true := rfl
theorem movC_ext (x : Ded × DedA) (ep : Int) : (movC x ep).extract 0 34 = dedC x := by kernel_rfl
theorem movC_at6 (x : Ded × DedA) (ep : Int) : (movC x ep)[6]? = some (.slice x.2.a x.1.bits.length x.2.c) := rfl
theorem movC_at34 (x : Ded × DedA) (ep : Int) : (movC x ep)[34]? = some (.int .i64 ep) := rfl
attribute [go_sem] movC_size movC_room movC_ext movC_at6 movC_at34
theorem ded_under0 : Try.prog.underlying 79 = some (.struct (Try.prog.fieldsOf 79)) := by kernel_rfl
theorem mov_under0 : Try.prog.underlying 81 = some (.struct (Try.prog.fieldsOf 81)) := by kernel_rfl
section
variable {H : Type} {enc : TypeId × Value → H} {W : World} {spare : Nat → Bool} {held : Bool}
set_option maxRecDepth 100000 in
set_option maxHeartbeats 2000000 in
theorem open_ded_cs {l : List Value} {fuel : Nat} {x : DataW H × List MemPlace} (hx : DataW.trod enc Try.prog W 0 spare held fuel 79 l = some x) : ∃ o : Ded × DedA, l = (dedC o).toList ∧ o.1.Ok := by
  obtain ⟨hlen, hF⟩ := flat_cells ded_under0 hx
  have hlen' : l.length = 34 := hlen.trans (by kernel_rfl)
  obtain ⟨a0, e0, o0⟩ := at_i64 under_i64 cells_i64 (hF 0 3 0 (by kernel_rfl))
  obtain ⟨a1, e1, o1⟩ := at_i64 under_i64 cells_i64 (hF 1 3 1 (by kernel_rfl))
  obtain ⟨a2, e2, o2⟩ := at_i64 under_i64 cells_i64 (hF 2 3 2 (by kernel_rfl))
  obtain ⟨a3, e3, o3⟩ := at_i64 under_i64 cells_i64 (hF 3 3 3 (by kernel_rfl))
  obtain ⟨a4, e4, o4⟩ := at_u64 under_u64 cells_u64 (hF 4 33 4 (by kernel_rfl))
  obtain ⟨a5, e5, o5⟩ := at_i64 under_i64 cells_i64 (hF 5 3 5 (by kernel_rfl))
  obtain ⟨a7, e7, o7⟩ := at_i64 under_i64 cells_i64 (hF 7 3 7 (by kernel_rfl))
  obtain ⟨a32, e32, o32⟩ := at_i64 under_i64 cells_i64 (hF 9 3 32 (by kernel_rfl))
  obtain ⟨A6, c6, x6, e6, b6⟩ := at_bytes (hF 6 64 6 (by kernel_rfl))
  obtain ⟨a33, e33⟩ := at_bool under_bool (by kernel_rfl) (hF 10 4 33 (by kernel_rfl))
  obtain ⟨y, n, hs⟩ := hF 8 76 8 (by kernel_rfl)
  obtain ⟨_, hG⟩ := flat_cells par_under hs
  have h24 : Try.prog.cellsOf 76 = 24 := by kernel_rfl
  rw [h24] at hG
  obtain ⟨p0, f0, q0⟩ := at_u64 under_u64 cells_u64 (hG 0 33 0 (by kernel_rfl))
  obtain ⟨p1, f1, q1⟩ := at_u64 under_u64 cells_u64 (hG 1 33 1 (by kernel_rfl))
  obtain ⟨p2, f2, q2⟩ := at_u64 under_u64 cells_u64 (hG 2 33 2 (by kernel_rfl))
  obtain ⟨p3, f3, q3⟩ := at_u64 under_u64 cells_u64 (hG 3 33 3 (by kernel_rfl))
  obtain ⟨p4, f4, q4⟩ := at_u64 under_u64 cells_u64 (hG 4 33 4 (by kernel_rfl))
  obtain ⟨p5, f5, q5⟩ := at_u64 under_u64 cells_u64 (hG 5 33 5 (by kernel_rfl))
  obtain ⟨p6, f6, q6⟩ := at_u64 under_u64 cells_u64 (hG 6 33 6 (by kernel_rfl))
  obtain ⟨p7, f7, q7⟩ := at_u64 under_u64 cells_u64 (hG 7 33 7 (by kernel_rfl))
  obtain ⟨p8, f8, q8⟩ := at_u64 under_u64 cells_u64 (hG 8 33 8 (by kernel_rfl))
  obtain ⟨p9, f9, q9⟩ := at_u64 under_u64 cells_u64 (hG 9 33 9 (by kernel_rfl))
  obtain ⟨p10, f10, q10⟩ := at_u64 under_u64 cells_u64 (hG 10 33 10 (by kernel_rfl))
  obtain ⟨p11, f11, q11⟩ := at_u64 under_u64 cells_u64 (hG 11 33 11 (by kernel_rfl))
  obtain ⟨p12, f12, q12⟩ := at_u64 under_u64 cells_u64 (hG 12 33 12 (by kernel_rfl))
  obtain ⟨p13, f13, q13⟩ := at_u64 under_u64 cells_u64 (hG 13 33 13 (by kernel_rfl))
  obtain ⟨p14, f14, q14⟩ := at_i64 under_i64 cells_i64 (hG 14 3 14 (by kernel_rfl))
  obtain ⟨p15, f15, q15⟩ := at_i64 under_i64 cells_i64 (hG 15 3 15 (by kernel_rfl))
  obtain ⟨p16, f16, q16⟩ := at_i64 under_i64 cells_i64 (hG 16 3 16 (by kernel_rfl))
  obtain ⟨p17, f17, q17⟩ := at_i64 under_i64 cells_i64 (hG 17 3 17 (by kernel_rfl))
  obtain ⟨p18, f18, q18⟩ := at_i64 under_i64 cells_i64 (hG 18 3 18 (by kernel_rfl))
  obtain ⟨p19, f19, q19⟩ := at_i64 under_i64 cells_i64 (hG 19 3 19 (by kernel_rfl))
  obtain ⟨p20, f20, q20⟩ := at_i64 under_i64 cells_i64 (hG 20 3 20 (by kernel_rfl))
  obtain ⟨p21, f21, q21⟩ := at_i64 under_i64 cells_i64 (hG 21 3 21 (by kernel_rfl))
  obtain ⟨p22, f22, q22⟩ := at_i64 under_i64 cells_i64 (hG 22 3 22 (by kernel_rfl))
  obtain ⟨p23, f23, q23⟩ := at_i64 under_i64 cells_i64 (hG 23 3 23 (by kernel_rfl))
  refine ⟨(⟨a0, a1, a2, a3, a4, a5, x6, a7, ⟨p0, p1, p2, p3, p4, p5, p6, p7, p8, p9, p10, p11, p12, p13, p14, p15, p16, p17, p18, p19, p20, p21, p22, p23⟩, a32, a33⟩, ⟨A6, c6⟩), list_ext 34 hlen' rfl (fun i hi => ?_), ⟨o0, o1, o2, o3, o4, o5, Nat.le_trans b6.cap b6.top, o7, o32, ⟨q0, q1, q2, q3, q4, q5, q6, q7, q8, q9, q10, q11, q12, q13, q14, q15, q16, q17, q18, q19, q20, q21, q22, q23⟩⟩⟩
  match i with
  | 0 => exact e0
  | 1 => exact e1
  | 2 => exact e2
  | 3 => exact e3
  | 4 => exact e4
  | 5 => exact e5
  | 6 => exact e6
  | 7 => exact e7
  | 8 => exact in_part (o := 8) (by omega) f0
  | 9 => exact in_part (o := 8) (by omega) f1
  | 10 => exact in_part (o := 8) (by omega) f2
  | 11 => exact in_part (o := 8) (by omega) f3
  | 12 => exact in_part (o := 8) (by omega) f4
  | 13 => exact in_part (o := 8) (by omega) f5
  | 14 => exact in_part (o := 8) (by omega) f6
  | 15 => exact in_part (o := 8) (by omega) f7
  | 16 => exact in_part (o := 8) (by omega) f8
  | 17 => exact in_part (o := 8) (by omega) f9
  | 18 => exact in_part (o := 8) (by omega) f10
  | 19 => exact in_part (o := 8) (by omega) f11
  | 20 => exact in_part (o := 8) (by omega) f12
  | 21 => exact in_part (o := 8) (by omega) f13
  | 22 => exact in_part (o := 8) (by omega) f14
  | 23 => exact in_part (o := 8) (by omega) f15
  | 24 => exact in_part (o := 8) (by omega) f16
  | 25 => exact in_part (o := 8) (by omega) f17
  | 26 => exact in_part (o := 8) (by omega) f18
  | 27 => exact in_part (o := 8) (by omega) f19
  | 28 => exact in_part (o := 8) (by omega) f20
  | 29 => exact in_part (o := 8) (by omega) f21
  | 30 => exact in_part (o := 8) (by omega) f22
  | 31 => exact in_part (o := 8) (by omega) f23
  | 32 => exact e32
  | 33 => exact e33
  | n + 34 => omega
set_option maxRecDepth 100000 in
set_option maxHeartbeats 2000000 in
theorem open_mov {r : Reach} {b0 : Nat} {v : Value} {d : DataW H} {p : List MemPlace}
    (hv : Value.okWide Try.prog W r b0 81 v) (h : DataW.Trod enc Try.prog W 0 spare held 81 v d p) : ∃ x ep, v = .agg (movC x ep) ∧ x.1.Ok ∧ i64ok ep := by
  obtain ⟨⟨l⟩, rfl, _⟩ := okWide_struct mov_under0 hv
  obtain ⟨fuel, hf⟩ := h
  obtain ⟨hlen, hF⟩ := flat_cells mov_under0 hf
  have hlen' : l.length = 35 := hlen.trans (by kernel_rfl)
  clear hlen
  obtain ⟨y, n, hs⟩ := hF 0 79 0 (by kernel_rfl)
  obtain ⟨a34, e34, o34⟩ := at_i64 under_i64 cells_i64 (hF 1 3 34 (by kernel_rfl))
  obtain ⟨x, hx, ho⟩ := open_ded_cs hs
  have h34 : Try.prog.cellsOf 79 = 34 := by kernel_rfl
  rw [h34, List.drop_zero] at hx
  have hx : l.take 34 = (dedC x).toList := hx
  have e34 : l[34]? = some (.int .i64 a34) := e34
  refine ⟨x, a34, ?_, ho, o34⟩
  have hl : l = (movC x a34).toList := by
    unfold movC
    rw [Array.toList_push, ← hx]
    have h1 : l.drop 34 = [.int .i64 a34] := by
      have hd := List.drop_eq_getElem_cons (l := l) (i := 34) (by omega)
      rw [List.getElem?_eq_getElem (by omega)] at e34
      rw [hd, Option.some.inj e34, List.drop_eq_nil_of_le (by omega)]
    rw [← h1, List.take_append_drop]
  rw [hl]
end
theorem openL_few (p : Par) (L : List Mot) (d : Ded) (ep : Int) : (openL p L d ep).length ≤ L.length + 1 := by
  unfold openL
  split
  · split
    · simp
    · simp
  · simp
set_option maxRecDepth 100000 in
set_option maxHeartbeats 8000000 in
theorem mootOpens_any (p : Par) (A : Option Addr) (n c : Nat) (xs : List (Mot × MotA)) (d : Ded) (a : DedA) (ep : Int) (hd : d.Ok) (hep : i64ok ep) (hn : xs.length = n) (h0 : A = none → c = 0) (hm : n ≤ 9223372036854775807) (w : World) (hX : ML w A xs) :
    Calls Try.prog 8 #[.agg p.cells, .slice A n c, .agg (movC (d, a) ep)] w fun e w' => e = .returned (.bool true) ∧ Below w.heap.size w w' := by
  have r0 : row ((w.alloc (.cells p.cells 76)).alloc (.cells (movC (d, a) ep) 81)) w.heap.size = some p.cells := (by (repeat (first | assumption | (refine row_at _ _ _ _ ?_; first | rfl | (simp only [World.size_alloc]; done) | (simp only [World.size_alloc]; omega)) | (refine (row_past _ _ _ ?_).trans ?_; (focus (first | exact Nat.lt_succ_self _ | ((repeat rw [World.size_alloc]); omega) | (simp; done) | (simp; omega) | omega))) | rw [row_drewN] | rw [row_drew])); (first | done | fail))
  have q0 : row ((w.alloc (.cells p.cells 76)).alloc (.cells (movC (d, a) ep) 81)) (w.heap.size + 1) = some (movC (d, a) ep) := (by (repeat (first | assumption | (refine row_at _ _ _ _ ?_; first | rfl | (simp only [World.size_alloc]; done) | (simp only [World.size_alloc]; omega)) | (refine (row_past _ _ _ ?_).trans ?_; (focus (first | exact Nat.lt_succ_self _ | ((repeat rw [World.size_alloc]); omega) | (simp; done) | (simp; omega) | omega))) | rw [row_drewN] | rw [row_drew])); (first | done | fail))
  have hB0 : Below w.heap.size w ((w.alloc (.cells p.cells 76)).alloc (.cells (movC (d, a) ep) 81)) := (by (repeat (first | exact Below.refl _ _ | assumption | (refine Below.allocT ?_ _) | refine Below.drew ?_ | refine below_drewN ?_ _ | (refine Below.then ?_ (by assumption)) | (refine Below.setRow ?_ ?_ _; rotate_left; (focus (first | exact Nat.lt_succ_self _ | ((repeat rw [World.size_alloc]); omega) | (simp; done) | (simp; omega) | omega))) | (refine Below.setCell ?_ ?_ _; rotate_left; (focus (first | exact Nat.lt_succ_self _ | ((repeat rw [World.size_alloc]); omega) | (simp; done) | (simp; omega) | omega))) | (refine Below.then' ?_ (by assumption) ?_; rotate_left; (focus (first | exact Nat.lt_succ_self _ | ((repeat rw [World.size_alloc]); omega) | (simp; done) | (simp; omega) | omega))) | fail)); (first | done | fail))
  have HX := Lib.hid hX
  have HN := Lib.hid hn
  have HZ := Lib.hid h0
  have HD := Lib.hid hd
  have HEp := Lib.hid hep
  clear hX hn h0 hd hep
  go_enter Try.func8, Try.ntmps8
  go_upto_region 1 with fail
  change Code.wp _ _ _ _ ((w.alloc (.cells p.cells 76)).alloc (.cells (movC (d, a) ep) 81))
  generalize (w.alloc (.cells p.cells 76)).alloc (.cells (movC (d, a) ep) 81) = w0 at *
  have HB0 := Lib.hid hB0
  have HR0 := Lib.hid (And.intro r0 q0)
  clear hB0 r0 q0
  go_wp2_with fail
  refine (awake23_any _).mono ?_
  rintro e w1 ⟨rfl, hb1⟩
  have HB1 := Lib.hid (Below.then HB0.out hb1)
  have HR1 := Lib.hid (And.intro (below_row' hb1 HR0.out.1) (below_row' hb1 HR0.out.2))
  clear hb1 HR0 HB0
  go_wp2_with fail
  refine (few23_any A n c xs HN.out hm _ (HX.out.below HB1.out (Nat.le_refl _))).mono ?_
  rintro e w2 ⟨rfl, hb2⟩
  have HB2 := Lib.hid (Below.then HB1.out hb2)
  have HR2 := Lib.hid (And.intro (below_row' hb2 HR1.out.1) (below_row' hb2 HR1.out.2))
  clear hb2 HR1 HB1
  cases hfw : fewM xs
  case false =>
    clear hfw
    go_wp2_with fail
    go_ret
    exact ⟨rfl, HB2.out⟩
  case true =>
  have HF := Lib.hid (fewM_of hfw)
  clear hfw
  have hm60 : n ≤ 60 := by have := HF.out.2; rw [HN.out] at this; exact this
  have q2 := HR2.out.2
  have k6 : w2.cell? ⟨w.heap.size + 1, 6, none⟩ = some (.slice a.a d.bits.length a.c) := row_cell q2 6
  by_cases h100 : 100 < d.bits.length
  · have h100' : (100 : Int) < (d.bits.length : Int) := by omega
    clear h100 q2
    go_wp2_with fail
    go_ret
    exact ⟨rfl, HB2.out⟩
  have h100' : ¬ (100 : Int) < (d.bits.length : Int) := by omega
  have HV := Lib.hid (fun W hW => mopen_any p A n c xs d a ep HD.out HEp.out HN.out HZ.out (by omega) W hW (fun x hx => by have := HF.out.1 x hx; omega))
  have HRV := Lib.hid (fun W A c hW => ropen_any23 p A n c xs d a ep HD.out HEp.out HD.out.bits HN.out (by omega) W hW)
  have hVl := openL_few p (xs.map (·.1)) d ep
  rw [List.length_map, HN.out] at hVl
  generalize openL p (xs.map (·.1)) d ep = VL at *
  generalize openI p (xs.map (·.1)) d ep = VI at *
  generalize openE p (xs.map (·.1)) d ep = VE at *
  have k34 : w2.cell? ⟨w.heap.size + 1, 34, none⟩ = some (.int .i64 ep) := row_cell q2 34
  have r2 := HR2.out.1
  clear h100
  go_wp2_with fail
  refine (HV.out _ (HX.out.below HB2.out (Nat.le_refl _))).mono ?_
  rintro e w3 ⟨A3, n3, c3, ys, rfl, hn3, hM3, hL3, h03, hb3⟩
  have HB3 := Lib.hid (Below.then HB2.out hb3)
  have HR3 := Lib.hid (And.intro (below_row' hb3 HR2.out.1) (below_row' hb3 HR2.out.2))
  have HM3 := Lib.hid hM3
  have HN3 := Lib.hid hn3
  have HL3 := Lib.hid hL3
  have hn3' : n3 ≤ n + 1 := by have h := congrArg List.length hL3; rw [List.length_map, hn3] at h; rw [h]; exact hVl
  clear hb3 HR2 HB2 hM3 hn3 hL3 h03 HV k6 k34 q2 r2
  have HPl := Lib.hid (fun W h => plainML_any A n c xs HN.out (by omega) W (HX.out.below (Below.then HB3.out h) (Nat.le_refl _)))
  have HPp := Lib.hid (fun W => plain_any p W)
  have HPd := Lib.hid (fun W => dplain_any d a W)
  go_upto_region 6 with fail
  have HM : Hid (∀ W, Below w3.heap.size w3 W → row W w.heap.size = some p.cells ∧ row W (w.heap.size + 1) = some (movC (d, a) ep) ∧ W.cell? ⟨w.heap.size + 1, 34, none⟩ = some (.int .i64 ep)) := Lib.hid fun W h =>
    ⟨below_row' h HR3.out.1, below_row' h HR3.out.2, row_cell (below_row' h HR3.out.2) 34⟩
  go_region_held3 (fun W => row W w.heap.size = some p.cells ∧ row W (w.heap.size + 1) = some (movC (d, a) ep) ∧ W.cell? ⟨w.heap.size + 1, 34, none⟩ = some (.int .i64 ep)) (exact HM.out _ (by (repeat (first | exact Below.refl _ _ | assumption | (refine Below.allocT ?_ _) | refine Below.drew ?_ | refine below_drewN ?_ _ | (refine Below.then ?_ (by assumption)) | (refine Below.setRow ?_ ?_ _; rotate_left; (focus (first | exact Nat.lt_succ_self _ | ((repeat rw [World.size_alloc]); omega) | (simp; done) | (simp; omega) | omega))) | (refine Below.setCell ?_ ?_ _; rotate_left; (focus (first | exact Nat.lt_succ_self _ | ((repeat rw [World.size_alloc]); omega) | (simp; done) | (simp; omega) | omega))) | (refine Below.then' ?_ (by assumption) ?_; rotate_left; (focus (first | exact Nat.lt_succ_self _ | ((repeat rw [World.size_alloc]); omega) | (simp; done) | (simp; omega) | omega))) | fail)); (first | done | fail))) (first | (go_at_call 35; refine (HPp.out _).mono ?_; rintro e w4 ⟨rfl, hb4⟩) | (go_at_call 36; refine (HPl.out _ (by (repeat (first | exact Below.refl _ _ | assumption | (refine Below.allocT ?_ _) | refine Below.drew ?_ | refine below_drewN ?_ _ | (refine Below.then ?_ (by assumption)) | (refine Below.setRow ?_ ?_ _; rotate_left; (focus (first | exact Nat.lt_succ_self _ | ((repeat rw [World.size_alloc]); omega) | (simp; done) | (simp; omega) | omega))) | (refine Below.setCell ?_ ?_ _; rotate_left; (focus (first | exact Nat.lt_succ_self _ | ((repeat rw [World.size_alloc]); omega) | (simp; done) | (simp; omega) | omega))) | (refine Below.then' ?_ (by assumption) ?_; rotate_left; (focus (first | exact Nat.lt_succ_self _ | ((repeat rw [World.size_alloc]); omega) | (simp; done) | (simp; omega) | omega))) | fail)); (first | done | fail))).mono ?_; rintro e w5 ⟨A5, c5, rfl, hM5, hb5⟩) | (go_at_call 37; refine (HPd.out _).mono ?_; rintro e w6 ⟨rfl, hb6⟩) | (go_at_call 34; refine (HRV.out _ A5 c5 (hM5.stay (by (repeat (first | exact Below.refl _ _ | assumption | (refine Below.allocT ?_ _) | refine Below.drew ?_ | refine below_drewN ?_ _ | (refine Below.then ?_ (by assumption)) | (refine Below.setRow ?_ ?_ _; rotate_left; (focus (first | exact Nat.lt_succ_self _ | ((repeat rw [World.size_alloc]); omega) | (simp; done) | (simp; omega) | omega))) | (refine Below.setCell ?_ ?_ _; rotate_left; (focus (first | exact Nat.lt_succ_self _ | ((repeat rw [World.size_alloc]); omega) | (simp; done) | (simp; omega) | omega))) | (refine Below.then' ?_ (by assumption) ?_; rotate_left; (focus (first | exact Nat.lt_succ_self _ | ((repeat rw [World.size_alloc]); omega) | (simp; done) | (simp; omega) | omega))) | fail)); (first | done | fail)))).mono ?_; rintro e w7 ⟨A7, n7, c7, zs, rfl, hn7, hM7, hL7, h07, hb7⟩))
  have H37 : Hid (Below w3.heap.size w3 w7) := Lib.hid (by (repeat (first | exact Below.refl _ _ | assumption | (refine Below.allocT ?_ _) | refine Below.drew ?_ | refine below_drewN ?_ _ | (refine Below.then ?_ (by assumption)) | (refine Below.setRow ?_ ?_ _; rotate_left; (focus (first | exact Nat.lt_succ_self _ | ((repeat rw [World.size_alloc]); omega) | (simp; done) | (simp; omega) | omega))) | (refine Below.setCell ?_ ?_ _; rotate_left; (focus (first | exact Nat.lt_succ_self _ | ((repeat rw [World.size_alloc]); omega) | (simp; done) | (simp; omega) | omega))) | (refine Below.then' ?_ (by assumption) ?_; rotate_left; (focus (first | exact Nat.lt_succ_self _ | ((repeat rw [World.size_alloc]); omega) | (simp; done) | (simp; omega) | omega))) | fail)); (first | done | fail))
  have HB7 := Lib.hid (Below.then HB3.out H37.out)
  have HM7 := Lib.hid hM7
  have HS7 : Hid (n7 = n3 ∧ ys.map (·.1) = zs.map (·.1)) := Lib.hid ⟨by have h := congrArg List.length hL7; have h3 := congrArg List.length HL3.out; rw [List.length_map] at h h3; rw [← hn7, h, ← h3]; exact HN3.out, by rw [HL3.out, hL7]⟩
  clear hb4 hb5 hb6 hb7 hM5 hM7 hL7 h07 hn7 HM HR3 HRV HPl HPp HPd
  go_wp2_with fail
  refine (plainML_any A3 n3 c3 ys HN3.out (by omega) _ (HM3.out.stay H37.out)).mono ?_
  rintro e w8 ⟨A8, c8, rfl, hM8, hb8⟩
  have HB8 := Lib.hid (Below.then HB7.out hb8)
  have HM8 := Lib.hid hM8
  have hz : n7 = n3 := HS7.out.1
  subst hz
  have HS8 := Lib.hid (sameList_any A8 A7 n7 c8 c7 ys zs HN3.out HS7.out.2 (by omega) w8 hM8 (HM7.out.stay hb8))
  clear hb8 hM8 HB7 H37 HB3 HM3
  go_wp2_with fail
  refine (HS8.out).mono ?_
  rintro e w9 ⟨rfl, hb9⟩
  have HB9 := Lib.hid (Below.then HB8.out hb9)
  clear hb9 HB8 HS8 HM7 HM8 HS7 HL3
  go_wp2_with fail
  go_ret
  exact ⟨rfl, HB9.out⟩
end Go.Proofs.Ytnakkjgnjffkpaa

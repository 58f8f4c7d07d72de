/-
  Reports read: the reference's Decode (bullionref38).
-/
import Derived.Test.YtnakkjgnjffkpaaRepD
import Derived.Test.YtnakkjgnjffkpaaAnnE
import Derived.Test.YtnakkjgnjffkpaaOpenB
namespace Go.Proofs.Ytnakkjgnjffkpaa
open Go.RowKit
set_option linter.unusedVariables false

def arr7 (l : List Nat) : Array Value := #[.int .u64 ((l.getD 0 0 : Nat) : Int), .int .u64 ((l.getD 1 0 : Nat) : Int), .int .u64 ((l.getD 2 0 : Nat) : Int), .int .u64 ((l.getD 3 0 : Nat) : Int), .int .u64 ((l.getD 4 0 : Nat) : Int), .int .u64 ((l.getD 5 0 : Nat) : Int), .int .u64 ((l.getD 6 0 : Nat) : Int)]
theorem arr7_set (n : Nat) : ∀ (l : List Nat), l.length < 7 → (arr7 l).setIfInBounds l.length (.int .u64 (n : Int)) = arr7 (l ++ [n])
  | [], _ => rfl
  | [x0], _ => rfl
  | [x0, x1], _ => rfl
  | [x0, x1, x2], _ => rfl
  | [x0, x1, x2, x3], _ => rfl
  | [x0, x1, x2, x3, x4], _ => rfl
  | [x0, x1, x2, x3, x4, x5], _ => rfl
  | x0 :: x1 :: x2 :: x3 :: x4 :: x5 :: x6 :: r, h => by simp only [List.length_cons] at h; omega
theorem arr7_some (l : List Nat) {i : Nat} (h : i < 7) : ∃ v, (arr7 l)[i]? = some v := ⟨_, Array.getElem?_eq_getElem (show i < (arr7 l).size from h)⟩
theorem seven_of {l : List Nat} (h : l.length = 7) : ∃ y0 y1 y2 y3 y4 y5 y6 : Nat, l = [y0, y1, y2, y3, y4, y5, y6] := by
  match l, h with
  | [y0, y1, y2, y3, y4, y5, y6], _ => exact ⟨y0, y1, y2, y3, y4, y5, y6, rfl⟩
set_option maxRecDepth 100000 in
set_option maxHeartbeats 16000000 in
theorem rdecode38_any (A : Option Addr) (n c : Nat) (xs : List Nat) (hn : xs.length = n) (hm : n ≤ 1000000) (w : World) (hU : BysIn w A c xs) : Calls Try.prog 30 #[.slice A n c] w (DecPost38 w ⟨xs, 0, 0⟩) := by
  subst hn
  have ht : Rd.Ok ⟨xs, 0, 0⟩ := ⟨hU.ok, by simp, by show xs.length ≤ _; omega, by simp, by simp⟩
  have HU := Lib.hid hU
  have HPost : Hid (∀ (a : RepA) (e : Ending) (w' : World), e = .returned (.tuple #[.agg (repC (decR38 ⟨xs, 0, 0⟩, a)), .int .i64 (decE38 ⟨xs, 0, 0⟩)]) → RepAt w' (decR38 ⟨xs, 0, 0⟩, a) → Below w.heap.size w w' → DecPost38 w ⟨xs, 0, 0⟩ e w') := Lib.hid fun a e w' h1 h2 h3 => ⟨a, h1, h2, h3⟩
  have HRO := Lib.hid (repR_ok ⟨xs, 0, 0⟩)
  have HDE : Hid (decE38 ⟨xs, 0, 0⟩ = if (t8R ⟨xs, 0, 0⟩).done = 0 then if rightA (repR ⟨xs, 0, 0⟩) then 0 else 2 else (t8R ⟨xs, 0, 0⟩).done) := Lib.hid rfl
  have HDR : Hid (decR38 ⟨xs, 0, 0⟩ = if decE38 ⟨xs, 0, 0⟩ = 0 then repR ⟨xs, 0, 0⟩ else Rep.zero) := Lib.hid rfl
  have HFour : Hid (∀ W gx vs, LsAt W gx (rdL (t4R ⟨xs, 0, 0⟩) 4).1 vs → ∃ a : RepA, prt ((((Rd.mk xs 0 0).num 2147483647).1 : Nat) : Int) ((((t1R ⟨xs, 0, 0⟩).num 2147483647).1 : Nat) : Int) (decide (((t2R ⟨xs, 0, 0⟩).num 1).1 = 1)) (rd7 (t3R ⟨xs, 0, 0⟩) 7).1 vs = repC (repR ⟨xs, 0, 0⟩, a) ∧ RepAt W (repR ⟨xs, 0, 0⟩, a) ∧ ∀ k, RepB (repR ⟨xs, 0, 0⟩, a) k → gx < k) := Lib.hid fun W gx vs h => prt_four h
  have h1 : (t1R ⟨xs, 0, 0⟩).Ok ∧ (t1R ⟨xs, 0, 0⟩).xs = xs := ⟨ht.num _, Rd.num_xs _ _⟩
  have h2 : (t2R ⟨xs, 0, 0⟩).Ok ∧ (t2R ⟨xs, 0, 0⟩).xs = xs := ⟨h1.1.num _, (Rd.num_xs _ _).trans h1.2⟩
  have h3 : (t3R ⟨xs, 0, 0⟩).Ok ∧ (t3R ⟨xs, 0, 0⟩).xs = xs := ⟨h2.1.num _, (Rd.num_xs _ _).trans h2.2⟩
  have h7 := rd7_ok h3.1
  have hL := rdL_ok (h7 7).1
  have H7 : Hid (∀ i, (rd7 (t3R ⟨xs, 0, 0⟩) i).2.Ok ∧ (rd7 (t3R ⟨xs, 0, 0⟩) i).2.xs = xs) := Lib.hid fun i => ⟨(h7 i).1, (h7 i).2.trans h3.2⟩
  have HL : Hid (∀ i, (rdL (t4R ⟨xs, 0, 0⟩) i).2.Ok ∧ (rdL (t4R ⟨xs, 0, 0⟩) i).2.xs = xs) := Lib.hid fun i => ⟨(hL i).1, (hL i).2.trans ((h7 7).2.trans h3.2)⟩
  have HI1 := Lib.hid (fun g A c W (h : RfAt W g A c ⟨xs, 0, 0⟩) => fint_any g A c ⟨xs, 0, 0⟩ ht 2147483647 (by unfold i64ok; omega) W h)
  have HI2 := Lib.hid (fun g A c W (h : RfAt W g A c (t1R ⟨xs, 0, 0⟩)) => fint_any g A c (t1R ⟨xs, 0, 0⟩) h1.1 2147483647 (by unfold i64ok; omega) W h)
  have HI3 := Lib.hid (fun g A c W (h : RfAt W g A c (t2R ⟨xs, 0, 0⟩)) => fnum_any g A c (t2R ⟨xs, 0, 0⟩) h2.1 1 (by omega) W h)
  have h4 : (t8R ⟨xs, 0, 0⟩).Ok := (t8R_ok ht).1
  have HD := Lib.hid (fun g A c W (h : RfAt W g A c (t8R ⟨xs, 0, 0⟩)) => fdone_quiet g A c (t8R ⟨xs, 0, 0⟩) h4 W h)
  have E1 : Hid (((Rd.mk xs 0 0).num 2147483647).2 = t1R ⟨xs, 0, 0⟩) := Lib.hid rfl
  have E2 : Hid (((t1R ⟨xs, 0, 0⟩).num 2147483647).2 = t2R ⟨xs, 0, 0⟩) := Lib.hid rfl
  have E3 : Hid (((t2R ⟨xs, 0, 0⟩).num 1).2 = t3R ⟨xs, 0, 0⟩) := Lib.hid rfl
  have E4 : Hid ((rd7 (t3R ⟨xs, 0, 0⟩) 7).2 = t4R ⟨xs, 0, 0⟩) := Lib.hid rfl
  have E8 : Hid ((rdL (t4R ⟨xs, 0, 0⟩) 4).2 = t8R ⟨xs, 0, 0⟩) := Lib.hid rfl
  rw [int_nat38, E1.out] at HI1
  rw [int_nat38, E2.out] at HI2
  rw [E3.out] at HI3
  have HXT : Hid ((t1R ⟨xs, 0, 0⟩).xs = xs ∧ (t2R ⟨xs, 0, 0⟩).xs = xs ∧ (t3R ⟨xs, 0, 0⟩).xs = xs) := Lib.hid ⟨h1.2, h2.2, h3.2⟩
  clear h1 h2 h3 h7 hL ht hU h4 E1 E2 E3
  generalize ((Rd.mk xs 0 0).num 2147483647).1 = ve at *
  generalize ((t1R ⟨xs, 0, 0⟩).num 2147483647).1 = vm at *
  generalize ((t2R ⟨xs, 0, 0⟩).num 1).1 = vn at *
  obtain ⟨vq, hvq⟩ : ∃ q, q = decide (vn = 1) := ⟨_, rfl⟩
  rw [← hvq] at HFour
  have eq1 : ((vn : Int) == 1) = vq := by rw [hvq, Bool.eq_iff_iff]; simp; omega
  clear hvq
  generalize t1R ⟨xs, 0, 0⟩ = t1 at *
  generalize t2R ⟨xs, 0, 0⟩ = t2 at *
  generalize t3R ⟨xs, 0, 0⟩ = t3 at *
  generalize t4R ⟨xs, 0, 0⟩ = t4 at *
  generalize t8R ⟨xs, 0, 0⟩ = t8 at *
  generalize repR ⟨xs, 0, 0⟩ = rp at *
  generalize decR38 ⟨xs, 0, 0⟩ = rq at *
  generalize decE38 ⟨xs, 0, 0⟩ = re at *
  have hq1 : row (((w.alloc (.cells (repC (Rep.zero, RepA.nil)) 40)).alloc (.cells (rfC A c ⟨xs, 0, 0⟩) 159)).alloc (.cells (prt 0 0 false [] []) 40)) (w.heap.size + 1) = some (rfC A c ⟨xs, 0, 0⟩) := (by (repeat (first | assumption | (refine row_at _ _ _ _ ?_; first | rfl | (simp only [World.size_alloc]; done) | (simp only [World.size_alloc]; omega)) | (refine (row_past _ _ _ ?_).trans ?_; (focus (first | exact Nat.lt_succ_self _ | ((repeat rw [World.size_alloc]); omega) | (simp; done) | (simp; omega) | omega))) | rw [row_drewN] | rw [row_drew])); (first | done | fail))
  have hr1 : row (((w.alloc (.cells (repC (Rep.zero, RepA.nil)) 40)).alloc (.cells (rfC A c ⟨xs, 0, 0⟩) 159)).alloc (.cells (prt 0 0 false [] []) 40)) w.heap.size = some (repC (Rep.zero, RepA.nil)) := (by (repeat (first | assumption | (refine row_at _ _ _ _ ?_; first | rfl | (simp only [World.size_alloc]; done) | (simp only [World.size_alloc]; omega)) | (refine (row_past _ _ _ ?_).trans ?_; (focus (first | exact Nat.lt_succ_self _ | ((repeat rw [World.size_alloc]); omega) | (simp; done) | (simp; omega) | omega))) | rw [row_drewN] | rw [row_drew])); (first | done | fail))
  have hx1 : row (((w.alloc (.cells (repC (Rep.zero, RepA.nil)) 40)).alloc (.cells (rfC A c ⟨xs, 0, 0⟩) 159)).alloc (.cells (prt 0 0 false [] []) 40)) (w.heap.size + 2) = some (prt 0 0 false [] []) := (by (repeat (first | assumption | (refine row_at _ _ _ _ ?_; first | rfl | (simp only [World.size_alloc]; done) | (simp only [World.size_alloc]; omega)) | (refine (row_past _ _ _ ?_).trans ?_; (focus (first | exact Nat.lt_succ_self _ | ((repeat rw [World.size_alloc]); omega) | (simp; done) | (simp; omega) | omega))) | rw [row_drewN] | rw [row_drew])); (first | done | fail))
  have hB3 : Below w.heap.size w (((w.alloc (.cells (repC (Rep.zero, RepA.nil)) 40)).alloc (.cells (rfC A c ⟨xs, 0, 0⟩) 159)).alloc (.cells (prt 0 0 false [] []) 40)) := (by (repeat (first | exact Below.refl _ _ | assumption | (refine Below.allocT ?_ _) | refine Below.drew ?_ | refine below_drewN ?_ _ | (refine Below.then ?_ (by assumption)) | (refine Below.setRow ?_ ?_ _; rotate_left; (focus (first | exact Nat.lt_succ_self _ | ((repeat rw [World.size_alloc]); omega) | (simp; done) | (simp; omega) | omega))) | (refine Below.setCell ?_ ?_ _; rotate_left; (focus (first | exact Nat.lt_succ_self _ | ((repeat rw [World.size_alloc]); omega) | (simp; done) | (simp; omega) | omega))) | (refine Below.then' ?_ (by assumption) ?_; rotate_left; (focus (first | exact Nat.lt_succ_self _ | ((repeat rw [World.size_alloc]); omega) | (simp; done) | (simp; omega) | omega))) | fail)); (first | done | fail))
  have HAw : Hid (0 < xs.length → ∀ a, A = some a → a.block < w.heap.size) := Lib.hid fun hp => HU.out.bys.lt hp
  go_enter Try.func30, Try.ntmps30
  go_upto_region 3 with fail
  first | (rw [World.size_alloc, World.size_alloc]) | (simp only [World.size_alloc]) | skip
  change Code.wp _ _ _ _ (((w.alloc (.cells (repC (Rep.zero, RepA.nil)) 40)).alloc (.cells (rfC A c ⟨xs, 0, 0⟩) 159)).alloc (.cells (prt 0 0 false [] []) 40))
  generalize (((w.alloc (.cells (repC (Rep.zero, RepA.nil)) 40)).alloc (.cells (rfC A c ⟨xs, 0, 0⟩) 159)).alloc (.cells (prt 0 0 false [] []) 40)) = w3 at *
  obtain ⟨gr, hgr⟩ : ∃ x, x = w.heap.size := ⟨_, rfl⟩
  obtain ⟨g1, hg1⟩ : ∃ x, x = w.heap.size + 1 := ⟨_, rfl⟩
  obtain ⟨gx, hgx⟩ : ∃ x, x = w.heap.size + 2 := ⟨_, rfl⟩
  rw [← hg1] at hq1
  rw [← hgx] at hx1
  (try rw [show w.heap.size + 1 + 1 = w.heap.size + 2 from rfl])
  simp only [← hg1, ← hgx]
  have G1 : Hid (w.heap.size < g1 ∧ g1 < gx ∧ w.heap.size < gx) := Lib.hid (by omega)
  have NE : Hid (gx ≠ g1 ∧ g1 ≠ gx ∧ w.heap.size ≠ g1 ∧ w.heap.size ≠ gx) := Lib.hid (by omega)
  have HXs : Hid (∀ s : Rd, s.xs = xs → 0 < s.xs.length → ∀ a, A = some a → ¬ only gx a.block) := Lib.hid fun s hs hp a ha he => by
    rw [hs] at hp
    have := HAw.out hp a ha
    have := G1.out
    have he' : a.block = gx := he
    omega
  have R3 : Hid (RfAt w3 g1 A c ⟨xs, 0, 0⟩) := Lib.hid ⟨hq1, HU.out.bys.below hB3 (Nat.le_refl _), HU.out.cap, HU.out.top, fun hp a ha => by have := HAw.out hp a ha; have := G1.out; omega, HU.out.nil⟩
  have X3 := Lib.hid hx1
  have RR3 := Lib.hid hr1
  have B3 := Lib.hid hB3
  clear hq1 hx1 hr1 hB3 hg1 hgx hgr HU
  go_wp2_with fail
  refine (HI1.out g1 A c _ R3.out).mono ?_
  rintro e w4 ⟨rfl, hR, hC⟩
  have x4 := (hC.row (row_lt X3.out) NE.out.1).trans X3.out
  have k4 : w4.cell? ⟨gx, 0, none⟩ = some (.int .i64 0) := row_cell x4 0
  have f4 := row_frozen x4 0
  have X4 : Hid (row (w4.setCell ⟨gx, 0, none⟩ (.int .i64 (ve : Int))) gx = some (prt ve 0 false [] [])) := Lib.hid (row_set x4 0 _)
  have R4 := Lib.hid (hR.chg' (only_set gx 0 (.int .i64 (ve : Int))) NE.out.2.1 (HXs.out _ HXT.out.1))
  have RR4 := Lib.hid ((row_far w4 ⟨gx, 0, none⟩ (.int .i64 (ve : Int)) _ NE.out.2.2.2).trans ((hC.row (row_lt RR3.out) NE.out.2.2.1).trans RR3.out))
  have B4 : Hid (Below w.heap.size w (w4.setCell ⟨gx, 0, none⟩ (.int .i64 (ve : Int)))) := Lib.hid (Below.setCell (p := ⟨gx, 0, none⟩) (B3.out.trans (hC.toBelow (B := w.heap.size) (fun k hk => by have := G1.out; have hk' : k = g1 := hk; omega) B3.out.size)) (by have := G1.out; show w.heap.size ≤ gx; omega) _)
  clear x4 hR hC X3 R3 RR3 B3
  go_wp2_with fail
  clear k4 f4
  generalize w4.setCell ⟨gx, 0, none⟩ (.int .i64 (ve : Int)) = v4 at *
  refine (HI2.out g1 A c _ R4.out).mono ?_
  rintro e w5 ⟨rfl, hR, hC⟩
  have x5 := (hC.row (row_lt X4.out) NE.out.1).trans X4.out
  have k5 : w5.cell? ⟨gx, 1, none⟩ = some (.int .i64 0) := row_cell x5 1
  have f5 := row_frozen x5 1
  have X5 : Hid (row (w5.setCell ⟨gx, 1, none⟩ (.int .i64 (vm : Int))) gx = some (prt ve vm false [] [])) := Lib.hid (row_set x5 1 _)
  have R5 := Lib.hid (hR.chg' (only_set gx 1 (.int .i64 (vm : Int))) NE.out.2.1 (HXs.out _ HXT.out.2.1))
  have RR5 := Lib.hid ((row_far w5 ⟨gx, 1, none⟩ (.int .i64 (vm : Int)) _ NE.out.2.2.2).trans ((hC.row (row_lt RR4.out) NE.out.2.2.1).trans RR4.out))
  have B5 : Hid (Below w.heap.size w (w5.setCell ⟨gx, 1, none⟩ (.int .i64 (vm : Int)))) := Lib.hid (Below.setCell (p := ⟨gx, 1, none⟩) (B4.out.trans (hC.toBelow (B := w.heap.size) (fun k hk => by have := G1.out; have hk' : k = g1 := hk; omega) B4.out.size)) (by have := G1.out; show w.heap.size ≤ gx; omega) _)
  clear x5 hR hC X4 R4 RR4 B4
  go_wp2_with fail
  clear k5 f5
  generalize w5.setCell ⟨gx, 1, none⟩ (.int .i64 (vm : Int)) = v5 at *
  refine (HI3.out g1 A c _ R5.out).mono ?_
  rintro e w6 ⟨rfl, hR, hC⟩
  have x6 := (hC.row (row_lt X5.out) NE.out.1).trans X5.out
  have k6 : w6.cell? ⟨gx, 2, none⟩ = some (.bool false) := row_cell x6 2
  have f6 := row_frozen x6 2
  have X6 : Hid (row (w6.setCell ⟨gx, 2, none⟩ (.bool vq)) gx = some (prt ve vm vq [] [])) := Lib.hid (row_set x6 2 _)
  have R6 := Lib.hid (hR.chg' (only_set gx 2 (.bool vq)) NE.out.2.1 (HXs.out _ HXT.out.2.2))
  have RR6 := Lib.hid ((row_far w6 ⟨gx, 2, none⟩ (.bool vq) _ NE.out.2.2.2).trans ((hC.row (row_lt RR5.out) NE.out.2.2.1).trans RR5.out))
  have B6 : Hid (Below w.heap.size w (w6.setCell ⟨gx, 2, none⟩ (.bool vq))) := Lib.hid (Below.setCell (p := ⟨gx, 2, none⟩) (B5.out.trans (hC.toBelow (B := w.heap.size) (fun k hk => by have := G1.out; have hk' : k = g1 := hk; omega) B5.out.size)) (by have := G1.out; show w.heap.size ≤ gx; omega) _)
  clear x6 hR hC X5 R5 RR5 B5
  go_upto_region 6 with fail
  clear k6 f6 HI1 HI2 HI3
  generalize w6.setCell ⟨gx, 2, none⟩ (.bool vq) = v6 at *
  have hb7 : Below v6.heap.size v6 (v6.alloc (.cells (arr7 []) 160)) := (by (repeat (first | exact Below.refl _ _ | assumption | (refine Below.allocT ?_ _) | refine Below.drew ?_ | refine below_drewN ?_ _ | (refine Below.then ?_ (by assumption)) | (refine Below.setRow ?_ ?_ _; rotate_left; (focus (first | exact Nat.lt_succ_self _ | ((repeat rw [World.size_alloc]); omega) | (simp; done) | (simp; omega) | omega))) | (refine Below.setCell ?_ ?_ _; rotate_left; (focus (first | exact Nat.lt_succ_self _ | ((repeat rw [World.size_alloc]); omega) | (simp; done) | (simp; omega) | omega))) | (refine Below.then' ?_ (by assumption) ?_; rotate_left; (focus (first | exact Nat.lt_succ_self _ | ((repeat rw [World.size_alloc]); omega) | (simp; done) | (simp; omega) | omega))) | fail)); (first | done | fail))
  have P7 : Hid (row (v6.alloc (.cells (arr7 []) 160)) v6.heap.size = some (arr7 [])) := Lib.hid (row_at _ _ _ _ rfl)
  have R7 := Lib.hid (R6.out.stay hb7)
  have X7 := Lib.hid (below_row hb7 X6.out (row_lt X6.out))
  have RR7 := Lib.hid (below_row hb7 RR6.out (row_lt RR6.out))
  have B7 := Lib.hid (Below.then B6.out hb7)
  have GL : Hid (gx < v6.heap.size) := Lib.hid (row_lt X6.out)
  clear hb7 R6 X6 RR6 B6
  go_upto_region 7 with fail
  change Code.wp _ _ _ _ (v6.alloc (.cells (arr7 []) 160))
  generalize v6.alloc (.cells (arr7 []) 160) = w7 at *
  generalize v6.heap.size = gl at *
  have NL : Hid (gl ≠ g1 ∧ gl ≠ gx ∧ g1 ≠ gl ∧ gx ≠ gl ∧ w.heap.size ≠ gl ∧ w.heap.size ≤ gl) := Lib.hid (by have := GL.out; have := G1.out; omega)
  go_wp2_with fail
  go_loopw [7] (fun i wr => ∃ j : Nat, i = .int .i64 j ∧ j ≤ 7 ∧ Hid (RfAt wr g1 A c (rd7 t3 j).2 ∧ row wr gx = some (prt ve vm vq [] []) ∧ row wr w.heap.size = some (repC (Rep.zero, RepA.nil)) ∧ Below w.heap.size w wr ∧ row wr gl = some (arr7 (rd7 t3 j).1))) (fun i _ => 7 - (intOf i).toNat)
  case atStart => exact ⟨0, rfl, by omega, Lib.hid ⟨R7.out, X7.out, RR7.out, B7.out, P7.out⟩⟩
  case round =>
    obtain ⟨j, rfl, hj, hH⟩ := hrel
    clear R7 X7 RR7 B7 P7
    by_cases hlt : j < 7
    · obtain ⟨v, hv⟩ := arr7_some (rd7 t3 j).1 hlt
      have HV := Lib.hid hv
      have HX := Lib.hid (fnum_any g1 A c (rd7 t3 j).2 (H7.out j).1 18446744073709551615 (by omega) wr hH.out.1)
      have S1 : Hid (rd7 t3 (j + 1) = ((rd7 t3 j).1 ++ [((rd7 t3 j).2.num 18446744073709551615).1], ((rd7 t3 j).2.num 18446744073709551615).2)) := Lib.hid rfl
      have SW : Hid (∀ n : Nat, (arr7 (rd7 t3 j).1).setIfInBounds j (.int .u64 (n : Int)) = arr7 ((rd7 t3 j).1 ++ [n])) := Lib.hid fun n => by
        have := arr7_set n (rd7 t3 j).1 (by rw [rd7_len]; exact hlt)
        rwa [rd7_len] at this
      have z1 : (0 : Int) ≤ (j : Int) := by omega
      have z2 : (j : Int) < 7 := by omega
      clear hv
      go_wp2_with fail
      refine (HX.out).mono ?_
      rintro e w8 ⟨rfl, hR8, hC8⟩
      have x8 := Lib.hid ((hC8.row (row_lt hH.out.2.1) NE.out.1).trans hH.out.2.1)
      have p8 := (hC8.row (row_lt hH.out.2.2.2.2) NL.out.1).trans hH.out.2.2.2.2
      have r8 := Lib.hid ((hC8.row (row_lt hH.out.2.2.1) NE.out.2.2.1).trans hH.out.2.2.1)
      have B8 := Lib.hid (hH.out.2.2.2.1.trans (hC8.toBelow (B := w.heap.size) (fun k hk => by have := G1.out; have hk' : k = g1 := hk; omega) hH.out.2.2.2.1.size))
      have R8 := Lib.hid hR8
      have cv := (row_cell p8 j).trans HV.out
      have fv := row_frozen p8 j
      have P8 := Lib.hid p8
      clear p8 hR8 hC8
      go_wp2_with fail
      refine ⟨⟨j + 1, by go_num, by omega, Lib.hid ⟨?_, ?_, ?_, ?_, ?_⟩⟩, by simp [intOf]; omega⟩
      · rw [S1.out]
        exact R8.out.chg' (only_set gl j _) (fun he => NL.out.2.2.1 he) (fun h0 a ha he => by
          have hx := (H7.out (j + 1)).2
          rw [S1.out] at hx
          rw [hx] at h0
          have := HAw.out h0 a ha
          have := NL.out
          have he' : a.block = gl := he
          omega)
      · exact (row_far w8 ⟨gl, j, none⟩ _ _ (show gx ≠ gl from NL.out.2.2.2.1)).trans x8.out
      · exact (row_far w8 ⟨gl, j, none⟩ _ _ (show w.heap.size ≠ gl from NL.out.2.2.2.2.1)).trans r8.out
      · exact Below.setCell B8.out (p := ⟨gl, j, none⟩) (show w.heap.size ≤ gl from NL.out.2.2.2.2.2) _
      · rw [row_set P8.out, S1.out, SW.out]
    · obtain rfl : j = 7 := by omega
      have hR9 := hH.out.1
      rw [E4.out] at hR9
      have hx9 := hH.out.2.1
      have hp9 := hH.out.2.2.2.2
      have R9 := Lib.hid hR9
      have X9 := Lib.hid hx9
      have RR9 := Lib.hid hH.out.2.2.1
      have B9 := Lib.hid hH.out.2.2.2.1
      have P9 := Lib.hid hp9
      have h77 := rd7_len t3 7
      generalize (rd7 t3 7).1 = l7 at *
      obtain ⟨y0, y1, y2, y3, y4, y5, y6, rfl⟩ := seven_of h77
      clear h77
      have ne1 : gl ≠ gx := NL.out.2.1
      have ne2 : gx ≠ gl := NL.out.2.2.2.1
      have kl0 : wr.cell? ⟨gl, 0, none⟩ = some (.int .u64 (y0 : Int)) := row_cell hp9 0
      have kx0 : wr.cell? ⟨gx, 3, none⟩ = some (.int .u64 0) := row_cell hx9 3
      have fx0 := row_frozen hx9 3
      have kl1 : wr.cell? ⟨gl, 1, none⟩ = some (.int .u64 (y1 : Int)) := row_cell hp9 1
      have kx1 : wr.cell? ⟨gx, 4, none⟩ = some (.int .u64 0) := row_cell hx9 4
      have fx1 := row_frozen hx9 4
      have kl2 : wr.cell? ⟨gl, 2, none⟩ = some (.int .u64 (y2 : Int)) := row_cell hp9 2
      have kx2 : wr.cell? ⟨gx, 5, none⟩ = some (.int .u64 0) := row_cell hx9 5
      have fx2 := row_frozen hx9 5
      have kl3 : wr.cell? ⟨gl, 3, none⟩ = some (.int .u64 (y3 : Int)) := row_cell hp9 3
      have kx3 : wr.cell? ⟨gx, 6, none⟩ = some (.int .u64 0) := row_cell hx9 6
      have fx3 := row_frozen hx9 6
      have kl4 : wr.cell? ⟨gl, 4, none⟩ = some (.int .u64 (y4 : Int)) := row_cell hp9 4
      have kx4 : wr.cell? ⟨gx, 7, none⟩ = some (.int .u64 0) := row_cell hx9 7
      have fx4 := row_frozen hx9 7
      have kl5 : wr.cell? ⟨gl, 5, none⟩ = some (.int .u64 (y5 : Int)) := row_cell hp9 5
      have kx5 : wr.cell? ⟨gx, 8, none⟩ = some (.int .u64 0) := row_cell hx9 8
      have fx5 := row_frozen hx9 8
      have kl6 : wr.cell? ⟨gl, 6, none⟩ = some (.int .u64 (y6 : Int)) := row_cell hp9 6
      have kx6 : wr.cell? ⟨gx, 9, none⟩ = some (.int .u64 0) := row_cell hx9 9
      have fx6 := row_frozen hx9 9
      have X10 : Hid (row (((((((wr.setCell ⟨gx, 3, none⟩ (.int .u64 (y0 : Int))).setCell ⟨gx, 4, none⟩ (.int .u64 (y1 : Int))).setCell ⟨gx, 5, none⟩ (.int .u64 (y2 : Int))).setCell ⟨gx, 6, none⟩ (.int .u64 (y3 : Int))).setCell ⟨gx, 7, none⟩ (.int .u64 (y4 : Int))).setCell ⟨gx, 8, none⟩ (.int .u64 (y5 : Int))).setCell ⟨gx, 9, none⟩ (.int .u64 (y6 : Int))) gx = some (prt ve vm vq [y0, y1, y2, y3, y4, y5, y6] [])) := Lib.hid ((row_set ((row_set ((row_set ((row_set ((row_set ((row_set ((row_set X9.out 3 _).trans (congrArg some (prt_set7 ve vm vq [] y0 [] (by simp)))) 4 _).trans (congrArg some (prt_set7 ve vm vq [] y1 [y0] (by simp)))) 5 _).trans (congrArg some (prt_set7 ve vm vq [] y2 [y0, y1] (by simp)))) 6 _).trans (congrArg some (prt_set7 ve vm vq [] y3 [y0, y1, y2] (by simp)))) 7 _).trans (congrArg some (prt_set7 ve vm vq [] y4 [y0, y1, y2, y3] (by simp)))) 8 _).trans (congrArg some (prt_set7 ve vm vq [] y5 [y0, y1, y2, y3, y4] (by simp)))) 9 _).trans (congrArg some (prt_set7 ve vm vq [] y6 [y0, y1, y2, y3, y4, y5] (by simp))))
      have C10 : Hid (Chg (only gx) wr (((((((wr.setCell ⟨gx, 3, none⟩ (.int .u64 (y0 : Int))).setCell ⟨gx, 4, none⟩ (.int .u64 (y1 : Int))).setCell ⟨gx, 5, none⟩ (.int .u64 (y2 : Int))).setCell ⟨gx, 6, none⟩ (.int .u64 (y3 : Int))).setCell ⟨gx, 7, none⟩ (.int .u64 (y4 : Int))).setCell ⟨gx, 8, none⟩ (.int .u64 (y5 : Int))).setCell ⟨gx, 9, none⟩ (.int .u64 (y6 : Int)))) := Lib.hid ((((((((Chg.refl (only gx) wr).setCell (p := ⟨gx, 3, none⟩) (.inl rfl) _).setCell (p := ⟨gx, 4, none⟩) (.inl rfl) _).setCell (p := ⟨gx, 5, none⟩) (.inl rfl) _).setCell (p := ⟨gx, 6, none⟩) (.inl rfl) _).setCell (p := ⟨gx, 7, none⟩) (.inl rfl) _).setCell (p := ⟨gx, 8, none⟩) (.inl rfl) _).setCell (p := ⟨gx, 9, none⟩) (.inl rfl) _)
      clear hR9 hx9 hp9 hH
      go_upto_region 18 with fail
      change Code.wp _ _ _ _ (((((((wr.setCell ⟨gx, 3, none⟩ (.int .u64 (y0 : Int))).setCell ⟨gx, 4, none⟩ (.int .u64 (y1 : Int))).setCell ⟨gx, 5, none⟩ (.int .u64 (y2 : Int))).setCell ⟨gx, 6, none⟩ (.int .u64 (y3 : Int))).setCell ⟨gx, 7, none⟩ (.int .u64 (y4 : Int))).setCell ⟨gx, 8, none⟩ (.int .u64 (y5 : Int))).setCell ⟨gx, 9, none⟩ (.int .u64 (y6 : Int)))
      generalize (((((((wr.setCell ⟨gx, 3, none⟩ (.int .u64 (y0 : Int))).setCell ⟨gx, 4, none⟩ (.int .u64 (y1 : Int))).setCell ⟨gx, 5, none⟩ (.int .u64 (y2 : Int))).setCell ⟨gx, 6, none⟩ (.int .u64 (y3 : Int))).setCell ⟨gx, 7, none⟩ (.int .u64 (y4 : Int))).setCell ⟨gx, 8, none⟩ (.int .u64 (y5 : Int))).setCell ⟨gx, 9, none⟩ (.int .u64 (y6 : Int))) = v10 at *
      have R10 := Lib.hid (R9.out.chg' C10.out NE.out.2.1 (HXs.out _ (HL.out 0).2))
      have RR10 := Lib.hid ((C10.out.row (row_lt RR9.out) NE.out.2.2.2).trans RR9.out)
      have B10 := Lib.hid (B9.out.trans (C10.out.toBelow (B := w.heap.size) (fun k hk => by have := G1.out; have hk' : k = gx := hk; omega) B9.out.size))
      have L10 := Lib.hid (LsAt.nil v10 gx)
      clear kl0 kx0 fx0 kl1 kx1 fx1 kl2 kx2 fx2 kl3 kx3 fx3 kl4 kx4 fx4 kl5 kx5 fx5 kl6 kx6 fx6 ne1 ne2 R9 RR9 B9 P9 X9 C10 H7 E4
      go_wp2_with fail
      refine (rread38_any g1 A c (rdL t4 0).2 (HL.out 0).1 _ R10.out).mono ?_
      rintro e w11 ⟨Bq0, dq0, rfl, hO, hR, hC⟩
      have x11 := (hC.row (row_lt X10.out) NE.out.1).trans X10.out
      have k11 : w11.cell? ⟨gx, 10, none⟩ = some (.slice none 0 0) := row_cell x11 10
      have f11 := row_frozen x11 10
      have X11 : Hid (row (w11.setCell ⟨gx, 10, none⟩ (.slice Bq0 (rdList (rdL t4 0).2).1.length dq0)) gx = some (prt ve vm vq [y0, y1, y2, y3, y4, y5, y6] [Value.slice Bq0 (rdList (rdL t4 0).2).1.length dq0])) := Lib.hid (row_set x11 10 _)
      have R11 := Lib.hid (hR.chg' (only_set gx 10 (.slice Bq0 (rdList (rdL t4 0).2).1.length dq0)) NE.out.2.1 (HXs.out _ (HL.out 1).2))
      have RR11 := Lib.hid ((row_far w11 ⟨gx, 10, none⟩ (.slice Bq0 (rdList (rdL t4 0).2).1.length dq0) _ NE.out.2.2.2).trans ((hC.row (row_lt RR10.out) NE.out.2.2.1).trans RR10.out))
      have B11 : Hid (Below w.heap.size w (w11.setCell ⟨gx, 10, none⟩ (.slice Bq0 (rdList (rdL t4 0).2).1.length dq0))) := Lib.hid (Below.setCell (p := ⟨gx, 10, none⟩) (B10.out.trans (hC.toBelow (B := w.heap.size) (fun k hk => by have := G1.out; have hk' : k = g1 := hk; omega) B10.out.size)) (by have := G1.out; show w.heap.size ≤ gx; omega) _)
      have L11 : Hid (LsAt (w11.setCell ⟨gx, 10, none⟩ (.slice Bq0 (rdList (rdL t4 0).2).1.length dq0)) gx (rdL t4 1).1 [Value.slice Bq0 (rdList (rdL t4 0).2).1.length dq0]) := Lib.hid (((L10.out.chg hC (fun k hk => by have := G1.out; have hk' : k = g1 := hk; omega)).push hO.sliceOf.1 hO.nilcap (fun a ha => Nat.lt_of_lt_of_le (row_lt X10.out) (hO.sliceOf.2 a ha))).chg (only_set gx 10 (.slice Bq0 (rdList (rdL t4 0).2).1.length dq0)) (fun k hk => by have hk' : k = gx := hk; omega))
      clear x11 hR hC X10 R10 RR10 B10
      clear hO L10
      go_wp2_with fail
      clear k11 f11
      generalize w11.setCell ⟨gx, 10, none⟩ (.slice Bq0 (rdList (rdL t4 0).2).1.length dq0) = v11 at *
      refine (rread38_any g1 A c (rdL t4 1).2 (HL.out 1).1 _ R11.out).mono ?_
      rintro e w12 ⟨Bq1, dq1, rfl, hO, hR, hC⟩
      have x12 := (hC.row (row_lt X11.out) NE.out.1).trans X11.out
      have k12 : w12.cell? ⟨gx, 11, none⟩ = some (.slice none 0 0) := row_cell x12 11
      have f12 := row_frozen x12 11
      have X12 : Hid (row (w12.setCell ⟨gx, 11, none⟩ (.slice Bq1 (rdList (rdL t4 1).2).1.length dq1)) gx = some (prt ve vm vq [y0, y1, y2, y3, y4, y5, y6] [Value.slice Bq0 (rdList (rdL t4 0).2).1.length dq0, Value.slice Bq1 (rdList (rdL t4 1).2).1.length dq1])) := Lib.hid (row_set x12 11 _)
      have R12 := Lib.hid (hR.chg' (only_set gx 11 (.slice Bq1 (rdList (rdL t4 1).2).1.length dq1)) NE.out.2.1 (HXs.out _ (HL.out 2).2))
      have RR12 := Lib.hid ((row_far w12 ⟨gx, 11, none⟩ (.slice Bq1 (rdList (rdL t4 1).2).1.length dq1) _ NE.out.2.2.2).trans ((hC.row (row_lt RR11.out) NE.out.2.2.1).trans RR11.out))
      have B12 : Hid (Below w.heap.size w (w12.setCell ⟨gx, 11, none⟩ (.slice Bq1 (rdList (rdL t4 1).2).1.length dq1))) := Lib.hid (Below.setCell (p := ⟨gx, 11, none⟩) (B11.out.trans (hC.toBelow (B := w.heap.size) (fun k hk => by have := G1.out; have hk' : k = g1 := hk; omega) B11.out.size)) (by have := G1.out; show w.heap.size ≤ gx; omega) _)
      have L12 : Hid (LsAt (w12.setCell ⟨gx, 11, none⟩ (.slice Bq1 (rdList (rdL t4 1).2).1.length dq1)) gx (rdL t4 2).1 [Value.slice Bq0 (rdList (rdL t4 0).2).1.length dq0, Value.slice Bq1 (rdList (rdL t4 1).2).1.length dq1]) := Lib.hid (((L11.out.chg hC (fun k hk => by have := G1.out; have hk' : k = g1 := hk; omega)).push hO.sliceOf.1 hO.nilcap (fun a ha => Nat.lt_of_lt_of_le (row_lt X11.out) (hO.sliceOf.2 a ha))).chg (only_set gx 11 (.slice Bq1 (rdList (rdL t4 1).2).1.length dq1)) (fun k hk => by have hk' : k = gx := hk; omega))
      clear x12 hR hC X11 R11 RR11 B11
      clear hO L11
      go_wp2_with fail
      clear k12 f12
      generalize w12.setCell ⟨gx, 11, none⟩ (.slice Bq1 (rdList (rdL t4 1).2).1.length dq1) = v12 at *
      refine (rread38_any g1 A c (rdL t4 2).2 (HL.out 2).1 _ R12.out).mono ?_
      rintro e w13 ⟨Bq2, dq2, rfl, hO, hR, hC⟩
      have x13 := (hC.row (row_lt X12.out) NE.out.1).trans X12.out
      have k13 : w13.cell? ⟨gx, 12, none⟩ = some (.slice none 0 0) := row_cell x13 12
      have f13 := row_frozen x13 12
      have X13 : Hid (row (w13.setCell ⟨gx, 12, none⟩ (.slice Bq2 (rdList (rdL t4 2).2).1.length dq2)) gx = some (prt ve vm vq [y0, y1, y2, y3, y4, y5, y6] [Value.slice Bq0 (rdList (rdL t4 0).2).1.length dq0, Value.slice Bq1 (rdList (rdL t4 1).2).1.length dq1, Value.slice Bq2 (rdList (rdL t4 2).2).1.length dq2])) := Lib.hid (row_set x13 12 _)
      have R13 := Lib.hid (hR.chg' (only_set gx 12 (.slice Bq2 (rdList (rdL t4 2).2).1.length dq2)) NE.out.2.1 (HXs.out _ (HL.out 3).2))
      have RR13 := Lib.hid ((row_far w13 ⟨gx, 12, none⟩ (.slice Bq2 (rdList (rdL t4 2).2).1.length dq2) _ NE.out.2.2.2).trans ((hC.row (row_lt RR12.out) NE.out.2.2.1).trans RR12.out))
      have B13 : Hid (Below w.heap.size w (w13.setCell ⟨gx, 12, none⟩ (.slice Bq2 (rdList (rdL t4 2).2).1.length dq2))) := Lib.hid (Below.setCell (p := ⟨gx, 12, none⟩) (B12.out.trans (hC.toBelow (B := w.heap.size) (fun k hk => by have := G1.out; have hk' : k = g1 := hk; omega) B12.out.size)) (by have := G1.out; show w.heap.size ≤ gx; omega) _)
      have L13 : Hid (LsAt (w13.setCell ⟨gx, 12, none⟩ (.slice Bq2 (rdList (rdL t4 2).2).1.length dq2)) gx (rdL t4 3).1 [Value.slice Bq0 (rdList (rdL t4 0).2).1.length dq0, Value.slice Bq1 (rdList (rdL t4 1).2).1.length dq1, Value.slice Bq2 (rdList (rdL t4 2).2).1.length dq2]) := Lib.hid (((L12.out.chg hC (fun k hk => by have := G1.out; have hk' : k = g1 := hk; omega)).push hO.sliceOf.1 hO.nilcap (fun a ha => Nat.lt_of_lt_of_le (row_lt X12.out) (hO.sliceOf.2 a ha))).chg (only_set gx 12 (.slice Bq2 (rdList (rdL t4 2).2).1.length dq2)) (fun k hk => by have hk' : k = gx := hk; omega))
      clear x13 hR hC X12 R12 RR12 B12
      clear hO L12
      go_wp2_with fail
      clear k13 f13
      generalize w13.setCell ⟨gx, 12, none⟩ (.slice Bq2 (rdList (rdL t4 2).2).1.length dq2) = v13 at *
      refine (rread38_any g1 A c (rdL t4 3).2 (HL.out 3).1 _ R13.out).mono ?_
      rintro e w14 ⟨Bq3, dq3, rfl, hO, hR, hC⟩
      have x14 := (hC.row (row_lt X13.out) NE.out.1).trans X13.out
      have k14 : w14.cell? ⟨gx, 13, none⟩ = some (.slice none 0 0) := row_cell x14 13
      have f14 := row_frozen x14 13
      have X14 : Hid (row (w14.setCell ⟨gx, 13, none⟩ (.slice Bq3 (rdList (rdL t4 3).2).1.length dq3)) gx = some (prt ve vm vq [y0, y1, y2, y3, y4, y5, y6] [Value.slice Bq0 (rdList (rdL t4 0).2).1.length dq0, Value.slice Bq1 (rdList (rdL t4 1).2).1.length dq1, Value.slice Bq2 (rdList (rdL t4 2).2).1.length dq2, Value.slice Bq3 (rdList (rdL t4 3).2).1.length dq3])) := Lib.hid (row_set x14 13 _)
      have R14 := Lib.hid (hR.chg' (only_set gx 13 (.slice Bq3 (rdList (rdL t4 3).2).1.length dq3)) NE.out.2.1 (HXs.out _ (HL.out 4).2))
      have RR14 := Lib.hid ((row_far w14 ⟨gx, 13, none⟩ (.slice Bq3 (rdList (rdL t4 3).2).1.length dq3) _ NE.out.2.2.2).trans ((hC.row (row_lt RR13.out) NE.out.2.2.1).trans RR13.out))
      have B14 : Hid (Below w.heap.size w (w14.setCell ⟨gx, 13, none⟩ (.slice Bq3 (rdList (rdL t4 3).2).1.length dq3))) := Lib.hid (Below.setCell (p := ⟨gx, 13, none⟩) (B13.out.trans (hC.toBelow (B := w.heap.size) (fun k hk => by have := G1.out; have hk' : k = g1 := hk; omega) B13.out.size)) (by have := G1.out; show w.heap.size ≤ gx; omega) _)
      have L14 : Hid (LsAt (w14.setCell ⟨gx, 13, none⟩ (.slice Bq3 (rdList (rdL t4 3).2).1.length dq3)) gx (rdL t4 4).1 [Value.slice Bq0 (rdList (rdL t4 0).2).1.length dq0, Value.slice Bq1 (rdList (rdL t4 1).2).1.length dq1, Value.slice Bq2 (rdList (rdL t4 2).2).1.length dq2, Value.slice Bq3 (rdList (rdL t4 3).2).1.length dq3]) := Lib.hid (((L13.out.chg hC (fun k hk => by have := G1.out; have hk' : k = g1 := hk; omega)).push hO.sliceOf.1 hO.nilcap (fun a ha => Nat.lt_of_lt_of_le (row_lt X13.out) (hO.sliceOf.2 a ha))).chg (only_set gx 13 (.slice Bq3 (rdList (rdL t4 3).2).1.length dq3)) (fun k hk => by have hk' : k = gx := hk; omega))
      clear x14 hR hC X13 R13 RR13 B13
      clear hO L13
      go_wp2_with fail
      clear k14 f14
      generalize w14.setCell ⟨gx, 13, none⟩ (.slice Bq3 (rdList (rdL t4 3).2).1.length dq3) = v14 at *
      have hR15 : RfAt v14 g1 A c t8 := by
        have h : RfAt v14 g1 A c (rdL t4 4).2 := R14.out
        rwa [E8.out] at h
      have HDn := Lib.hid (HD.out g1 A c v14 hR15)
      obtain ⟨a, hp, hra, hrb⟩ := HFour.out v14 gx _ L14.out
      have hx15 := X14.out
      rw [hp] at hx15
      have X15 := Lib.hid hx15
      have RA := Lib.hid hra
      have RB := Lib.hid hrb
      clear hR15 hp hra hrb hx15 HD HFour HL R14 L14 X14
      refine (HDn.out).mono ?_
      rintro e w15 ⟨rfl, kd, rfl⟩
      have x12 : row (v14.drewN kd) gx = some (repC (rp, a)) := X15.out
      have r12 : row (v14.drewN kd) w.heap.size = some (repC (Rep.zero, RepA.nil)) := RR14.out
      have B12 := Lib.hid (below_drewN B14.out kd)
      have RA12 : Hid (RepAt (v14.drewN kd) (rp, a)) := Lib.hid (RA.out.stay (below_drewN (Below.refl _ _) kd))
      clear RA X15 RR14 B14 HDn
      generalize v14.drewN kd = w12 at *
      generalize t8.done = de at *
      have hz2 := repC_one (rp, a)
      have hz3 := repC_one (Rep.zero, RepA.nil)
      by_cases hd : de = 0
      · subst hd
        have hde := HDE.out
        rw [if_pos rfl] at hde
        have HRt := Lib.hid (rright38_any rp a HRO.out w12 RA12.out)
        cases hrt : rightA rp
        · rw [hrt] at hde HRt
          subst hde
          have hdr := HDR.out
          rw [if_neg (by simp)] at hdr
          subst hdr
          clear hrt HDE HDR
          go_wp2_with fail
          refine (HRt.out).mono ?_
          rintro e w13 ⟨rfl, hb13⟩
          have r13 := below_row hb13 r12 (row_lt r12)
          have B13 := Lib.hid (Below.then B12.out hb13)
          obtain ⟨t9, ht9⟩ := row_heap (row_setRow (new := repC (Rep.zero, RepA.nil)) r13)
          have HT9 := Lib.hid ht9
          have HEnd : Hid (RepAt (w13.setRow w.heap.size (repC (Rep.zero, RepA.nil))) (Rep.zero, RepA.nil) ∧ Below w.heap.size w (w13.setRow w.heap.size (repC (Rep.zero, RepA.nil)))) := Lib.hid ⟨RepAt.zero _, Below.setRow B13.out (Nat.le_refl _) _⟩
          clear ht9 r12 x12 hb13
          go_wp2_with (refine wpList_build_to (repC (Rep.zero, RepA.nil)) rfl 40 _ rfl (by kernel_rfl) ?_)
          exact bodyPost_ret (v := .tuple #[.agg (repC (Rep.zero, RepA.nil)), .int .i64 2]) (results_cell_tmp Try.results30 _ _ w.heap.size _ (repC (Rep.zero, RepA.nil)) (0, 0) _ rfl HT9.out rrep_under rfl rrep_info) rfl (HPost.out _ _ _ rfl HEnd.out.1 HEnd.out.2)
        · rw [hrt] at hde HRt
          subst hde
          have hdr := HDR.out
          rw [if_pos (by rfl)] at hdr
          subst hdr
          clear hrt HDE HDR
          go_wp2_with fail
          refine (HRt.out).mono ?_
          rintro e w13 ⟨rfl, hb13⟩
          have r13 := below_row hb13 r12 (row_lt r12)
          have x13 := below_row hb13 x12 (row_lt x12)
          have B13 := Lib.hid (Below.then B12.out hb13)
          obtain ⟨t9, ht9⟩ := row_heap (row_setRow (new := repC (rq, a)) r13)
          have HT9 := Lib.hid ht9
          have HEnd : Hid (RepAt (w13.setRow w.heap.size (repC (rq, a))) (rq, a) ∧ Below w.heap.size w (w13.setRow w.heap.size (repC (rq, a)))) := Lib.hid ⟨(RA12.out.stay hb13).chg ((Chg.refl (only w.heap.size) w13).setRow (.inl rfl) _) (fun k hk he => by have := RB.out k hk; have := G1.out; have he' : k = w.heap.size := he; omega), Below.setRow B13.out (Nat.le_refl _) _⟩
          clear ht9 r12 x12 hb13
          go_wp2_with fail
          exact bodyPost_ret (v := .tuple #[.agg (repC (rq, a)), .int .i64 0]) (results_cell_tmp Try.results30 _ _ w.heap.size _ (repC (rq, a)) (0, 0) _ rfl HT9.out rrep_under rfl rrep_info) rfl (HPost.out _ _ _ rfl HEnd.out.1 HEnd.out.2)
      · have e1 : (de != 0) = true := bne_iff_ne.2 hd
        have e2 : (de == 0) = false := beq_eq_false_iff_ne.2 hd
        have hde := HDE.out
        rw [if_neg hd] at hde
        subst hde
        have hdr := HDR.out
        rw [if_neg hd] at hdr
        subst hdr
        obtain ⟨t9, ht9⟩ := row_heap (row_setRow (new := repC (Rep.zero, RepA.nil)) r12)
        have HT9 := Lib.hid ht9
        have HEnd : Hid (RepAt (w12.setRow w.heap.size (repC (Rep.zero, RepA.nil))) (Rep.zero, RepA.nil) ∧ Below w.heap.size w (w12.setRow w.heap.size (repC (Rep.zero, RepA.nil)))) := Lib.hid ⟨RepAt.zero _, Below.setRow B12.out (Nat.le_refl _) _⟩
        clear ht9 hd HDE HDR x12
        go_wp2_with (refine wpList_build_to (repC (Rep.zero, RepA.nil)) rfl 40 _ rfl (by kernel_rfl) ?_)
        exact bodyPost_ret (v := .tuple #[.agg (repC (Rep.zero, RepA.nil)), .int .i64 re]) (results_cell_tmp Try.results30 _ _ w.heap.size _ (repC (Rep.zero, RepA.nil)) (0, 0) _ rfl HT9.out rrep_under rfl rrep_info) rfl (HPost.out _ _ _ rfl HEnd.out.1 HEnd.out.2)
end Go.Proofs.Ytnakkjgnjffkpaa

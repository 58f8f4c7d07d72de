/-
  Reports read: annals.Decode.
-/
import Derived.Test.YtnakkjgnjffkpaaRepL
import Derived.Test.YtnakkjgnjffkpaaRep2
import Derived.Test.YtnakkjgnjffkpaaTog
namespace Go.Proofs.Ytnakkjgnjffkpaa
open Go.RowKit
set_option linter.unusedVariables false

/-- A report's cells while it is read: what was read so far. -/
def prt (e m : Int) (q : Bool) (l : List Nat) (vs : List Value) : Array Value := #[.int .i64 e, .int .i64 m, .bool q, .int .u64 ((l.getD 0 0 : Nat) : Int), .int .u64 ((l.getD 1 0 : Nat) : Int), .int .u64 ((l.getD 2 0 : Nat) : Int), .int .u64 ((l.getD 3 0 : Nat) : Int), .int .u64 ((l.getD 4 0 : Nat) : Int), .int .u64 ((l.getD 5 0 : Nat) : Int), .int .u64 ((l.getD 6 0 : Nat) : Int), vs.getD 0 (.slice none 0 0), vs.getD 1 (.slice none 0 0), vs.getD 2 (.slice none 0 0), vs.getD 3 (.slice none 0 0)]
theorem prt_zero : prt 0 0 false [] [] = repC (Rep.zero, RepA.nil) := rfl
theorem prt_set7 (e m : Int) (q : Bool) (vs : List Value) (n : Nat) : ∀ (l : List Nat), l.length < 7 → (prt e m q l vs).setIfInBounds (3 + l.length) (.int .u64 (n : Int)) = prt e m q (l ++ [n]) vs
  | [], _ => rfl
  | [x0], _ => rfl
  | [x0, x1], _ => rfl
  | [x0, x1, x2], _ => rfl
  | [x0, x1, x2, x3], _ => rfl
  | [x0, x1, x2, x3, x4], _ => rfl
  | [x0, x1, x2, x3, x4, x5], _ => rfl
  | x0 :: x1 :: x2 :: x3 :: x4 :: x5 :: x6 :: r, h => by simp only [List.length_cons] at h; omega
theorem prt_set4 (e m : Int) (q : Bool) (l : List Nat) (v : Value) : ∀ (vs : List Value), vs.length < 4 → (prt e m q l vs).setIfInBounds (10 + vs.length) v = prt e m q l (vs ++ [v])
  | [], _ => rfl
  | [x0], _ => rfl
  | [x0, x1], _ => rfl
  | [x0, x1, x2], _ => rfl
  | x0 :: x1 :: x2 :: x3 :: r, h => by simp only [List.length_cons] at h; omega
theorem prt_some (e m : Int) (q : Bool) (l : List Nat) (vs : List Value) {i : Nat} (h : i < 14) : ∃ v, (prt e m q l vs)[i]? = some v := ⟨_, Array.getElem?_eq_getElem (show i < (prt e m q l vs).size from h)⟩
theorem prt_room (e m : Int) (q : Bool) (l : List Nat) (vs : List Value) : roomy 0 14 (prt e m q l vs) = true := rfl
def rdL (t : Rd) : Nat → List (List Int) × Rd
  | 0 => ([], t)
  | i + 1 => ((rdL t i).1 ++ [(rdList (rdL t i).2).1], (rdList (rdL t i).2).2)
theorem rdL_len (t : Rd) : ∀ i, (rdL t i).1.length = i
  | 0 => rfl
  | i + 1 => by rw [rdL, List.length_append, rdL_len t i]; rfl
theorem rdL_ok {t : Rd} (h : t.Ok) : ∀ i, (rdL t i).2.Ok ∧ (rdL t i).2.xs = t.xs
  | 0 => ⟨h, rfl⟩
  | i + 1 => by
    have h1 := rdL_ok h i
    have h2 := rdList_ok h1.1
    exact ⟨h2.1, h2.2.trans h1.2⟩
theorem rdL_four (t : Rd) : rdL (t4R t) 4 = ([(rdList (t4R t)).1, (rdList (t5R t)).1, (rdList (t6R t)).1, (rdList (t7R t)).1], t8R t) := rfl
/-- The lists that were read lie behind block gx. -/
def LsAt (W : World) (gx : Nat) (ls : List (List Int)) (vs : List Value) : Prop := vs.length = ls.length ∧ ∀ (i : Nat) (l : List Int), ls[i]? = some l → ∃ (B : Option Addr) (d : Nat), vs[i]? = some (Value.slice B l.length d) ∧ SliceOf 1 intK W B l ∧ (B = none → d = 0) ∧ ∀ a, B = some a → gx < a.block
theorem LsAt.nil (W : World) (gx : Nat) : LsAt W gx [] [] := ⟨rfl, fun i l h => by simp at h⟩
theorem LsAt.chg {W W' : World} {gx : Nat} {ls : List (List Int)} {vs : List Value} {S : Nat → Prop} (h : LsAt W gx ls vs) (hc : Chg S W W') (hS : ∀ k, S k → k ≤ gx) : LsAt W' gx ls vs :=
  ⟨h.1, fun i l hl => by
    obtain ⟨B, d, h1, h2, h3, h4⟩ := h.2 i l hl
    exact ⟨B, d, h1, h2.chg hc (fun a ha hs => by have := h4 a ha; have := hS _ hs; omega), h3, h4⟩⟩
theorem LsAt.stay {W W' : World} {gx : Nat} {ls : List (List Int)} {vs : List Value} (h : LsAt W gx ls vs) (hb : Below W.heap.size W W') : LsAt W' gx ls vs := h.chg (Chg.of_below (S := fun _ => False) hb (Nat.le_refl _)) (fun _ h => h.elim)
theorem LsAt.push {W : World} {gx : Nat} {ls : List (List Int)} {vs : List Value} (h : LsAt W gx ls vs) {l : List Int} {B : Option Addr} {d : Nat} (h2 : SliceOf 1 intK W B l) (h3 : B = none → d = 0) (h4 : ∀ a, B = some a → gx < a.block) : LsAt W gx (ls ++ [l]) (vs ++ [Value.slice B l.length d]) := by
  refine ⟨by rw [List.length_append, List.length_append, h.1]; rfl, fun i x hx => ?_⟩
  by_cases hi : i < ls.length
  · rw [List.getElem?_append_left hi] at hx
    obtain ⟨B', d', a, b, c, e⟩ := h.2 i x hx
    exact ⟨B', d', by rw [List.getElem?_append_left (by rw [h.1]; exact hi)]; exact a, b, c, e⟩
  · by_cases hj : i = ls.length
    · subst hj
      rw [List.getElem?_append_right (Nat.le_refl _), Nat.sub_self] at hx
      have hx : l = x := by simpa using hx
      subst hx
      exact ⟨B, d, by rw [List.getElem?_append_right (by rw [h.1]; exact Nat.le_refl _), h.1, Nat.sub_self]; rfl, h2, h3, h4⟩
    · rw [List.getElem?_eq_none (by rw [List.length_append, List.length_singleton]; omega)] at hx
      cases hx
theorem OwnC.nilcap {W : World} {B : Nat} {n d : Nat} {l : List Int} {A : Option Addr} (h : OwnC 3 1 intK W B (.slice A n d) l) (hA : A = none) : d = 0 := by
  subst hA
  rcases h.2 with ⟨h, _⟩ | ⟨g, cap, cur, h, _⟩
  · cases h; rfl
  · cases h
theorem OwnC.sliceOf {W : World} {B : Nat} {n d : Nat} {l : List Int} {A : Option Addr} (h : OwnC 3 1 intK W B (.slice A n d) l) : SliceOf 1 intK W A l ∧ ∀ a, A = some a → B ≤ a.block := by
  obtain ⟨A', c', e, h1, h2, _⟩ := h.form intK_size
  cases e
  exact ⟨h1, fun a ha => (h2 a ha).1⟩
/-- The four lists together make the report. -/
theorem prt_four {W : World} {gx : Nat} {t : Rd} {vs : List Value} (h : LsAt W gx (rdL (t4R t) 4).1 vs) : ∃ a : RepA, prt (((t.num 2147483647).1 : Nat) : Int) ((((t1R t).num 2147483647).1 : Nat) : Int) (decide (((t2R t).num 1).1 = 1)) (rd7 (t3R t) 7).1 vs = repC (repR t, a) ∧ RepAt W (repR t, a) ∧ ∀ k, RepB (repR t, a) k → gx < k := by
  rw [rdL_four] at h
  obtain ⟨hl, hx⟩ := h
  obtain ⟨B0, d0, a0, b0, c0, e0⟩ := hx 0 _ rfl
  obtain ⟨B1, d1, a1, b1, c1, e1⟩ := hx 1 _ rfl
  obtain ⟨B2, d2, a2, b2, c2, e2⟩ := hx 2 _ rfl
  obtain ⟨B3, d3, a3, b3, c3, e3⟩ := hx 3 _ rfl
  have hvs : vs = [.slice B0 (rdList (t4R t)).1.length d0, .slice B1 (rdList (t5R t)).1.length d1, .slice B2 (rdList (t6R t)).1.length d2, .slice B3 (rdList (t7R t)).1.length d3] := by
    match vs, hl with
    | [v0, v1, v2, v3], _ =>
      have f0 : some v0 = _ := a0
      have f1 : some v1 = _ := a1
      have f2 : some v2 = _ := a2
      have f3 : some v3 = _ := a3
      rw [Option.some.injEq] at f0 f1 f2 f3
      rw [f0, f1, f2, f3]
  subst hvs
  refine ⟨⟨B0, d0, B1, d1, B2, d2, B3, d3⟩, rfl, ⟨b0, b1, b2, b3, c0, c1, c2, c3⟩, ?_⟩
  rintro k (⟨_, a, h1, rfl⟩ | ⟨_, a, h1, rfl⟩ | ⟨_, a, h1, rfl⟩ | ⟨_, a, h1, rfl⟩)
  · exact e0 a h1
  · exact e1 a h1
  · exact e2 a h1
  · exact e3 a h1
def ptrs (g o n : Nat) : Array Value := ((List.range n).map fun i => Value.pointer (some ⟨g, o + i, none⟩)).toArray
theorem ptrs_at {g o n i : Nat} (h : i < n) : (ptrs g o n)[i]? = some (.pointer (some ⟨g, o + i, none⟩)) := by
  unfold ptrs
  rw [List.getElem?_toArray, List.getElem?_map, List.getElem?_range h]; rfl
/-- What Decode answers: the report with lists of its own, or nothing, and the error. -/
def DecPost38 (w : World) (t : Rd) (e : Ending) (w' : World) : Prop := ∃ a : RepA, e = .returned (.tuple #[.agg (repC (decR38 t, a)), .int .i64 (decE38 t)]) ∧ RepAt w' (decR38 t, a) ∧ Below w.heap.size w w'
set_option maxRecDepth 100000 in
set_option maxHeartbeats 16000000 in
theorem decode38_any (A : Option Addr) (n c : Nat) (xs : List Nat) (hn : xs.length = n) (hm : n ≤ 1000000) (hok : bytesOk xs) (w : World) (hU : Bys w A xs) : Calls Try.prog 29 #[.slice A n c] w (DecPost38 w ⟨xs, 0, 0⟩) := by
  have ht : Rd.Ok ⟨xs, 0, 0⟩ := ⟨hok, by simp, by show xs.length ≤ _; omega, by simp, by simp⟩
  have r0 : row (w.alloc (.cells (repC (Rep.zero, RepA.nil)) 36)) w.heap.size = some (repC (Rep.zero, RepA.nil)) := row_at _ _ _ _ rfl
  have hB0 : Below w.heap.size w (w.alloc (.cells (repC (Rep.zero, RepA.nil)) 36)) := (by (repeat (first | exact Below.refl _ _ | assumption | (refine Below.allocT ?_ _) | refine Below.drew ?_ | refine below_drewN ?_ _ | (refine Below.then ?_ (by assumption)) | (refine Below.setRow ?_ ?_ _; rotate_left; (focus (first | exact Nat.lt_succ_self _ | ((repeat rw [World.size_alloc]); omega) | (simp; done) | (simp; omega) | omega))) | (refine Below.setCell ?_ ?_ _; rotate_left; (focus (first | exact Nat.lt_succ_self _ | ((repeat rw [World.size_alloc]); omega) | (simp; done) | (simp; omega) | omega))) | (refine Below.then' ?_ (by assumption) ?_; rotate_left; (focus (first | exact Nat.lt_succ_self _ | ((repeat rw [World.size_alloc]); omega) | (simp; done) | (simp; omega) | omega))) | fail)); (first | done | fail))
  have HO := Lib.hid (fun W (h : Bys W A xs) => ropen_any A n c xs hn (by omega) W h)
  unfold OpenPostC at HO
  have HU := Lib.hid hU
  have HPost : Hid (∀ (a : RepA) (e : Ending) (w' : World), e = .returned (.tuple #[.agg (repC (decR38 ⟨xs, 0, 0⟩, a)), .int .i64 (decE38 ⟨xs, 0, 0⟩)]) → RepAt w' (decR38 ⟨xs, 0, 0⟩, a) → Below w.heap.size w w' → DecPost38 w ⟨xs, 0, 0⟩ e w') := Lib.hid fun a e w' h1 h2 h3 => ⟨a, h1, h2, h3⟩
  have HRO := Lib.hid (repR_ok ⟨xs, 0, 0⟩)
  have HDE : Hid (decE38 ⟨xs, 0, 0⟩ = if (t8R ⟨xs, 0, 0⟩).done = 0 then if rightA (repR ⟨xs, 0, 0⟩) then 0 else 2 else (t8R ⟨xs, 0, 0⟩).done) := Lib.hid rfl
  have HDR : Hid (decR38 ⟨xs, 0, 0⟩ = if decE38 ⟨xs, 0, 0⟩ = 0 then repR ⟨xs, 0, 0⟩ else Rep.zero) := Lib.hid rfl
  have HFour : Hid (∀ W gx vs, LsAt W gx (rdL (t4R ⟨xs, 0, 0⟩) 4).1 vs → ∃ a : RepA, prt ((((Rd.mk xs 0 0).num 2147483647).1 : Nat) : Int) ((((t1R ⟨xs, 0, 0⟩).num 2147483647).1 : Nat) : Int) (decide (((t2R ⟨xs, 0, 0⟩).num 1).1 = 1)) (rd7 (t3R ⟨xs, 0, 0⟩) 7).1 vs = repC (repR ⟨xs, 0, 0⟩, a) ∧ RepAt W (repR ⟨xs, 0, 0⟩, a) ∧ ∀ k, RepB (repR ⟨xs, 0, 0⟩, a) k → gx < k) := Lib.hid fun W gx vs h => prt_four h
  have h1 : (t1R ⟨xs, 0, 0⟩).Ok ∧ (t1R ⟨xs, 0, 0⟩).xs = xs := ⟨ht.num _, Rd.num_xs _ _⟩
  have h2 : (t2R ⟨xs, 0, 0⟩).Ok ∧ (t2R ⟨xs, 0, 0⟩).xs = xs := ⟨h1.1.num _, (Rd.num_xs _ _).trans h1.2⟩
  have h3 : (t3R ⟨xs, 0, 0⟩).Ok ∧ (t3R ⟨xs, 0, 0⟩).xs = xs := ⟨h2.1.num _, (Rd.num_xs _ _).trans h2.2⟩
  have h7 := rd7_ok h3.1
  have hL := rdL_ok (h7 7).1
  have H7 : Hid (∀ i, (rd7 (t3R ⟨xs, 0, 0⟩) i).2.Ok ∧ (rd7 (t3R ⟨xs, 0, 0⟩) i).2.xs = xs) := Lib.hid fun i => ⟨(h7 i).1, (h7 i).2.trans h3.2⟩
  have HL : Hid (∀ i, (rdL (t4R ⟨xs, 0, 0⟩) i).2.Ok ∧ (rdL (t4R ⟨xs, 0, 0⟩) i).2.xs = xs) := Lib.hid fun i => ⟨(hL i).1, (hL i).2.trans ((h7 7).2.trans h3.2)⟩
  have HI1 := Lib.hid (fun g A c W (h : RdAt W g A c ⟨xs, 0, 0⟩) => rint_any g A c ⟨xs, 0, 0⟩ ht 2147483647 (by unfold i64ok; omega) W h)
  have HI2 := Lib.hid (fun g A c W (h : RdAt W g A c (t1R ⟨xs, 0, 0⟩)) => rint_any g A c (t1R ⟨xs, 0, 0⟩) h1.1 2147483647 (by unfold i64ok; omega) W h)
  have HI3 := Lib.hid (fun g A c W (h : RdAt W g A c (t2R ⟨xs, 0, 0⟩)) => rflag_any g A c (t2R ⟨xs, 0, 0⟩) h2.1 W h)
  have h4 : (t8R ⟨xs, 0, 0⟩).Ok := (t8R_ok ht).1
  have HD := Lib.hid (fun g A c W (h : RdAt W g A c (t8R ⟨xs, 0, 0⟩)) => rdone_any g A c (t8R ⟨xs, 0, 0⟩) h4 W h)
  have E1 : Hid (((Rd.mk xs 0 0).num 2147483647).2 = t1R ⟨xs, 0, 0⟩) := Lib.hid rfl
  have E2 : Hid (((t1R ⟨xs, 0, 0⟩).num 2147483647).2 = t2R ⟨xs, 0, 0⟩) := Lib.hid rfl
  have E3 : Hid (((t2R ⟨xs, 0, 0⟩).num 1).2 = t3R ⟨xs, 0, 0⟩) := Lib.hid rfl
  have E4 : Hid ((rd7 (t3R ⟨xs, 0, 0⟩) 7).2 = t4R ⟨xs, 0, 0⟩) := Lib.hid rfl
  have E8 : Hid ((rdL (t4R ⟨xs, 0, 0⟩) 4).2 = t8R ⟨xs, 0, 0⟩) := Lib.hid rfl
  rw [int_nat38, E1.out] at HI1
  rw [int_nat38, E2.out] at HI2
  rw [E3.out] at HI3
  unfold isOne at HI3
  clear h1 h2 h3 h7 hL ht hU hok hn h4 E1 E2 E3
  generalize ((Rd.mk xs 0 0).num 2147483647).1 = ve at *
  generalize ((t1R ⟨xs, 0, 0⟩).num 2147483647).1 = vm at *
  generalize decide (((t2R ⟨xs, 0, 0⟩).num 1).1 = 1) = vq at *
  generalize t1R ⟨xs, 0, 0⟩ = t1 at *
  generalize t2R ⟨xs, 0, 0⟩ = t2 at *
  generalize t3R ⟨xs, 0, 0⟩ = t3 at *
  generalize t4R ⟨xs, 0, 0⟩ = t4 at *
  generalize t8R ⟨xs, 0, 0⟩ = t8 at *
  generalize repR ⟨xs, 0, 0⟩ = rp at *
  generalize decR38 ⟨xs, 0, 0⟩ = rq at *
  generalize decE38 ⟨xs, 0, 0⟩ = re at *
  go_enter Try.func29, Try.ntmps29
  go_upto_region 1 with fail
  change Code.wp _ _ _ _ (w.alloc (.cells (repC (Rep.zero, RepA.nil)) 36))
  generalize w.alloc (.cells (repC (Rep.zero, RepA.nil)) 36) = w0 at *
  go_wp2_with fail
  refine (HO.out _ (HU.out.below hB0 (Nat.le_refl _))).mono ?_
  rintro e w1 ⟨g1, A1, c1, rfl, hg1, hA1, hR1, hb1⟩
  have r1 := (row_below hb1 (row_lt r0)).trans r0
  have r2 : row (w1.alloc (.cells (prt 0 0 false [] []) 36)) w.heap.size = some (repC (Rep.zero, RepA.nil)) := (row_past _ _ _ (row_lt r1)).trans r1
  have x2 : row (w1.alloc (.cells (prt 0 0 false [] []) 36)) w1.heap.size = some (prt 0 0 false [] []) := row_at _ _ _ _ rfl
  have R2 := Lib.hid (hR1.stay ((Below.refl _ w1).alloc (Nat.le_refl _) (.cells (prt 0 0 false [] []) 36)))
  have B2 : Below w.heap.size w (w1.alloc (.cells (prt 0 0 false [] []) 36)) := Below.allocT (Below.then hB0 hb1) _
  have HA1 : Hid (0 < xs.length → ∀ a, A1 = some a → a.block < w1.heap.size) := Lib.hid fun hp => hR1.bys.lt hp
  have G1 : Hid (w.heap.size < g1 ∧ g1 < w1.heap.size) := Lib.hid ⟨Nat.lt_of_lt_of_le (row_lt r0) hg1, hR1.lt⟩
  have B2h := Lib.hid B2
  have X2 := Lib.hid x2
  have RR2 := Lib.hid r2
  clear r0 hB0 hb1 hR1 hg1 hA1 HO HU r1 x2 r2 B2
  go_upto_region 3 with fail
  change Code.wp _ _ _ _ (w1.alloc (.cells (prt 0 0 false [] []) 36))
  generalize w1.alloc (.cells (prt 0 0 false [] []) 36) = w2 at *
  generalize w1.heap.size = gx at *
  go_wp2_with fail
  refine (HI1.out _ _ _ _ R2.out).mono ?_
  rintro e w3 ⟨rfl, hR3, hC3⟩
  have R3 := Lib.hid hR3
  have C3 := Lib.hid hC3
  clear hR3 hC3
  go_wp2_with fail
  refine (HI2.out _ _ _ _ R3.out).mono ?_
  rintro e w4 ⟨rfl, hR4, hC4⟩
  have R4 := Lib.hid hR4
  have C4 := Lib.hid (C3.out.andThen hC4 (fun k hk => .inl hk))
  clear hR4 hC4
  go_wp2_with fail
  refine (HI3.out _ _ _ _ R4.out).mono ?_
  rintro e w5 ⟨rfl, hR5, hC5⟩
  have R5 := Lib.hid hR5
  have C5 := Lib.hid (C4.out.andThen hC5 (fun k hk => .inl hk))
  clear hR5 hC5 R3 C3 R4 C4 HI1 HI2 HI3
  have x5 := (C5.out.row (row_lt X2.out) (fun he => by have := G1.out; have he' : gx = g1 := he; omega)).trans X2.out
  have r5 := (C5.out.row (row_lt RR2.out) (fun he => by have := G1.out; have he' : w.heap.size = g1 := he; omega)).trans RR2.out
  have hxc := fun i => row_cell x5 i
  have k0 : w5.cell? ⟨gx, 0, none⟩ = some (.int .i64 0) := hxc 0
  have k1 : w5.cell? ⟨gx, 1, none⟩ = some (.int .i64 0) := hxc 1
  have k2 : w5.cell? ⟨gx, 2, none⟩ = some (.bool false) := hxc 2
  have f0 := row_frozen x5 0
  have f1 := row_frozen x5 1
  have f2 := row_frozen x5 2
  have X6 : Hid (row (((w5.setCell ⟨gx, 0, none⟩ (.int .i64 (ve : Int))).setCell ⟨gx, 1, none⟩ (.int .i64 (vm : Int))).setCell ⟨gx, 2, none⟩ (.bool vq)) gx = some (prt ve vm vq [] [])) := Lib.hid (row_set (row_set (row_set x5 0 _) 1 _) 2 _)
  have Q6 : Hid (Chg (only gx) w5 (((w5.setCell ⟨gx, 0, none⟩ (.int .i64 (ve : Int))).setCell ⟨gx, 1, none⟩ (.int .i64 (vm : Int))).setCell ⟨gx, 2, none⟩ (.bool vq))) := Lib.hid ((((Chg.refl (only gx) w5).setCell (p := ⟨gx, 0, none⟩) (.inl rfl) _).setCell (p := ⟨gx, 1, none⟩) (.inl rfl) _).setCell (p := ⟨gx, 2, none⟩) (.inl rfl) _)
  have R5r := Lib.hid r5
  clear hxc x5 r5 X2 RR2
  go_upto_region 4 with fail
  change Code.wp _ _ _ _ (((w5.setCell ⟨gx, 0, none⟩ (.int .i64 (ve : Int))).setCell ⟨gx, 1, none⟩ (.int .i64 (vm : Int))).setCell ⟨gx, 2, none⟩ (.bool vq))
  clear k0 k1 k2 f0 f1 f2
  generalize ((w5.setCell ⟨gx, 0, none⟩ (.int .i64 (ve : Int))).setCell ⟨gx, 1, none⟩ (.int .i64 (vm : Int))).setCell ⟨gx, 2, none⟩ (.bool vq) = w6 at *
  have R6 := Lib.hid (R5.out.chg' Q6.out (fun he => by have := G1.out; have he' : g1 = gx := he; omega) (fun hp a ha he => by
    have h := (H7.out 0).2
    have h' : t3.xs = xs := h
    have := HA1.out (by rw [← h']; exact hp) a ha
    have he' : a.block = gx := he
    omega))
  have RR6 := Lib.hid ((Q6.out.row (row_lt R5r.out) (fun he => by have := G1.out; have he' : w.heap.size = gx := he; omega)).trans R5r.out)
  have B6 := Lib.hid ((B2h.out.trans (C5.out.toBelow (B := w.heap.size) (fun k hk => by have := G1.out; have hk' : k = g1 := hk; omega) B2h.out.size)).trans (Q6.out.toBelow (B := w.heap.size) (fun k hk => by have := G1.out; have hk' : k = gx := hk; omega) (B2h.out.trans (C5.out.toBelow (B := w.heap.size) (fun k hk => by have := G1.out; have hk' : k = g1 := hk; omega) B2h.out.size)).size))
  have hb7 : Below w6.heap.size w6 (w6.alloc (.cells (ptrs gx 3 7) 150)) := (by (repeat (first | exact Below.refl _ _ | assumption | (refine Below.allocT ?_ _) | refine Below.drew ?_ | refine below_drewN ?_ _ | (refine Below.then ?_ (by assumption)) | (refine Below.setRow ?_ ?_ _; rotate_left; (focus (first | exact Nat.lt_succ_self _ | ((repeat rw [World.size_alloc]); omega) | (simp; done) | (simp; omega) | omega))) | (refine Below.setCell ?_ ?_ _; rotate_left; (focus (first | exact Nat.lt_succ_self _ | ((repeat rw [World.size_alloc]); omega) | (simp; done) | (simp; omega) | omega))) | (refine Below.then' ?_ (by assumption) ?_; rotate_left; (focus (first | exact Nat.lt_succ_self _ | ((repeat rw [World.size_alloc]); omega) | (simp; done) | (simp; omega) | omega))) | fail)); (first | done | fail))
  have P7 : Hid (row (w6.alloc (.cells (ptrs gx 3 7) 150)) w6.heap.size = some (ptrs gx 3 7)) := Lib.hid (row_at _ _ _ _ rfl)
  have R7 := Lib.hid (R6.out.stay hb7)
  have X7 := Lib.hid (below_row hb7 X6.out (row_lt X6.out))
  have RR7 := Lib.hid (below_row hb7 RR6.out (row_lt RR6.out))
  have B7 := Lib.hid (Below.then B6.out hb7)
  have GP7 : Hid (gx < w6.heap.size) := Lib.hid (row_lt X6.out)
  clear hb7 R6 X6 RR6 B6 Q6 R5 C5 R5r R2 B2h
  go_upto_region 5 with fail
  change Code.wp _ _ _ _ (w6.alloc (.cells (ptrs gx 3 7) 150))
  generalize w6.alloc (.cells (ptrs gx 3 7) 150) = w7 at *
  generalize w6.heap.size = gp at *
  go_wp2_with fail
  go_loopw [31] (fun i wr => ∃ j : Nat, i = .int .i64 j ∧ j ≤ 7 ∧ Hid (RdAt wr g1 A1 c1 (rd7 t3 j).2 ∧ row wr gx = some (prt ve vm vq (rd7 t3 j).1 []) ∧ row wr w.heap.size = some (repC (Rep.zero, RepA.nil)) ∧ Below w.heap.size w wr ∧ row wr gp = some (ptrs gx 3 7))) (fun i _ => 7 - (intOf i).toNat)
  case atStart => exact ⟨0, rfl, by omega, Lib.hid ⟨R7.out, X7.out, RR7.out, B7.out, P7.out⟩⟩
  case round =>
    obtain ⟨j, rfl, hj, hH⟩ := hrel
    clear R7 X7 RR7 B7 P7
    by_cases hlt : j < 7
    · have kp := (row_cell hH.out.2.2.2.2 j).trans (ptrs_at hlt)
      obtain ⟨v, hv⟩ := prt_some ve vm vq (rd7 t3 j).1 [] (i := 3 + j) (by omega)
      have HV := Lib.hid hv
      have HX := Lib.hid (rnum_any g1 A1 c1 (rd7 t3 j).2 (H7.out j).1 18446744073709551615 (by omega) wr hH.out.1)
      have S1 : Hid (rd7 t3 (j + 1) = ((rd7 t3 j).1 ++ [((rd7 t3 j).2.num 18446744073709551615).1], ((rd7 t3 j).2.num 18446744073709551615).2)) := Lib.hid rfl
      have SW : Hid (∀ n : Nat, (prt ve vm vq (rd7 t3 j).1 []).setIfInBounds (3 + j) (.int .u64 (n : Int)) = prt ve vm vq ((rd7 t3 j).1 ++ [n]) []) := Lib.hid fun n => by
        have := prt_set7 ve vm vq [] n (rd7 t3 j).1 (by rw [rd7_len]; exact hlt)
        rwa [rd7_len] at this
      have z1 : (0 : Int) ≤ (j : Int) := by omega
      have z2 : (j : Int) < 7 := by omega
      clear hv
      go_wp2_with fail
      refine (HX.out).mono ?_
      rintro e w8 ⟨rfl, hR8, hC8⟩
      have x8 := (hC8.row (row_lt hH.out.2.1) (fun he => by have := G1.out; have he' : gx = g1 := he; omega)).trans hH.out.2.1
      have p8 := Lib.hid ((hC8.row (row_lt hH.out.2.2.2.2) (fun he => by have := G1.out; have := GP7.out; have he' : gp = g1 := he; omega)).trans hH.out.2.2.2.2)
      have r8 := Lib.hid ((hC8.row (row_lt hH.out.2.2.1) (fun he => by have := G1.out; have he' : w.heap.size = g1 := he; omega)).trans hH.out.2.2.1)
      have B8 := Lib.hid (hH.out.2.2.2.1.trans (hC8.toBelow (B := w.heap.size) (fun k hk => by have := G1.out; have hk' : k = g1 := hk; omega) hH.out.2.2.2.1.size))
      have R8 := Lib.hid hR8
      have cv := (row_cell x8 (3 + j)).trans HV.out
      have fv := row_frozen x8 (3 + j)
      have X8 := Lib.hid x8
      clear x8 hR8 hC8 kp
      go_wp2_with fail
      refine ⟨⟨j + 1, by go_num, by omega, Lib.hid ⟨?_, ?_, ?_, ?_, ?_⟩⟩, by simp [intOf]; omega⟩
      · rw [S1.out]
        exact R8.out.chg' (only_set gx (3 + j) _) (fun he => by have := G1.out; have he' : g1 = gx := he; omega) (fun h0 a ha he => by
          have hx := (H7.out (j + 1)).2
          rw [S1.out] at hx
          rw [hx] at h0
          have := HA1.out h0 a ha
          have he' : a.block = gx := he
          omega)
      · rw [row_set X8.out, S1.out, SW.out]
      · exact (row_far w8 ⟨gx, 3 + j, none⟩ _ _ (by have := G1.out; show w.heap.size ≠ gx; omega)).trans r8.out
      · exact Below.setCell B8.out (p := ⟨gx, 3 + j, none⟩) (by have := G1.out; show w.heap.size ≤ gx; omega) _
      · exact (row_far w8 ⟨gx, 3 + j, none⟩ _ _ (by have := GP7.out; show gp ≠ gx; omega)).trans p8.out
    · obtain rfl : j = 7 := by omega
      have hR9 := hH.out.1
      rw [E4.out] at hR9
      have hb9 : Below wr.heap.size wr (wr.alloc (.cells (ptrs gx 10 4) 153)) := (by (repeat (first | exact Below.refl _ _ | assumption | (refine Below.allocT ?_ _) | refine Below.drew ?_ | refine below_drewN ?_ _ | (refine Below.then ?_ (by assumption)) | (refine Below.setRow ?_ ?_ _; rotate_left; (focus (first | exact Nat.lt_succ_self _ | ((repeat rw [World.size_alloc]); omega) | (simp; done) | (simp; omega) | omega))) | (refine Below.setCell ?_ ?_ _; rotate_left; (focus (first | exact Nat.lt_succ_self _ | ((repeat rw [World.size_alloc]); omega) | (simp; done) | (simp; omega) | omega))) | (refine Below.then' ?_ (by assumption) ?_; rotate_left; (focus (first | exact Nat.lt_succ_self _ | ((repeat rw [World.size_alloc]); omega) | (simp; done) | (simp; omega) | omega))) | fail)); (first | done | fail))
      have P9 : Hid (row (wr.alloc (.cells (ptrs gx 10 4) 153)) wr.heap.size = some (ptrs gx 10 4)) := Lib.hid (row_at _ _ _ _ rfl)
      have R9 := Lib.hid (hR9.stay hb9)
      have X9 := Lib.hid (below_row hb9 hH.out.2.1 (row_lt hH.out.2.1))
      have RR9 := Lib.hid (below_row hb9 hH.out.2.2.1 (row_lt hH.out.2.2.1))
      have B9 := Lib.hid (Below.then hH.out.2.2.2.1 hb9)
      have GP9 : Hid (gx < wr.heap.size) := Lib.hid (row_lt hH.out.2.1)
      clear hb9 hR9 hH
      generalize (rd7 t3 7).1 = l7 at *
      go_upto_region 10 with fail
      change Code.wp _ _ _ _ (wr.alloc (.cells (ptrs gx 10 4) 153))
      generalize wr.alloc (.cells (ptrs gx 10 4) 153) = w9 at *
      generalize wr.heap.size = gp9 at *
      go_wp2_with fail
      go_loopw [46] (fun i wr => ∃ (j : Nat) (vs : List Value), i = .int .i64 j ∧ j ≤ 4 ∧ Hid (RdAt wr g1 A1 c1 (rdL t4 j).2 ∧ row wr gx = some (prt ve vm vq l7 vs) ∧ row wr w.heap.size = some (repC (Rep.zero, RepA.nil)) ∧ Below w.heap.size w wr ∧ row wr gp9 = some (ptrs gx 10 4) ∧ LsAt wr gx (rdL t4 j).1 vs)) (fun i _ => 4 - (intOf i).toNat)
      case atStart => exact ⟨0, [], rfl, by omega, Lib.hid ⟨R9.out, X9.out, RR9.out, B9.out, P9.out, LsAt.nil _ _⟩⟩
      case round =>
        obtain ⟨j, vs, rfl, hj, hH⟩ := hrel
        clear R9 X9 RR9 B9 P9
        by_cases hlt : j < 4
        · have kp := (row_cell hH.out.2.2.2.2.1 j).trans (ptrs_at hlt)
          have hvl : vs.length = j := hH.out.2.2.2.2.2.1.trans (rdL_len t4 j)
          obtain ⟨v, hv⟩ := prt_some ve vm vq l7 vs (i := 10 + j) (by omega)
          have HV := Lib.hid hv
          have HX := Lib.hid (list38_any g1 A1 c1 (rdL t4 j).2 (HL.out j).1 wr hH.out.1)
          have S1 : Hid (rdL t4 (j + 1) = ((rdL t4 j).1 ++ [(rdList (rdL t4 j).2).1], (rdList (rdL t4 j).2).2)) := Lib.hid rfl
          have SW : Hid (∀ v : Value, (prt ve vm vq l7 vs).setIfInBounds (10 + j) v = prt ve vm vq l7 (vs ++ [v])) := Lib.hid fun v => by
            have := prt_set4 ve vm vq l7 v vs (by rw [hvl]; exact hlt)
            rwa [hvl] at this
          have z1 : (0 : Int) ≤ (j : Int) := by omega
          have z2 : (j : Int) < 4 := by omega
          clear hv hvl
          go_wp2_with fail
          refine (HX.out).mono ?_
          rintro e w10 ⟨Bq, dq, rfl, hO10, hR10, hC10⟩
          have x10 := (hC10.row (row_lt hH.out.2.1) (fun he => by have := G1.out; have he' : gx = g1 := he; omega)).trans hH.out.2.1
          have p10 := Lib.hid ((hC10.row (row_lt hH.out.2.2.2.2.1) (fun he => by have := G1.out; have := GP9.out; have he' : gp9 = g1 := he; omega)).trans hH.out.2.2.2.2.1)
          have r10 := Lib.hid ((hC10.row (row_lt hH.out.2.2.1) (fun he => by have := G1.out; have he' : w.heap.size = g1 := he; omega)).trans hH.out.2.2.1)
          have B10 := Lib.hid (hH.out.2.2.2.1.trans (hC10.toBelow (B := w.heap.size) (fun k hk => by have := G1.out; have hk' : k = g1 := hk; omega) hH.out.2.2.2.1.size))
          have R10 := Lib.hid hR10
          have L10 := Lib.hid ((hH.out.2.2.2.2.2.chg hC10 (fun k hk => by have := G1.out; have hk' : k = g1 := hk; omega)).push hO10.sliceOf.1 hO10.nilcap (fun a ha => Nat.lt_of_lt_of_le (row_lt hH.out.2.1) (hO10.sliceOf.2 a ha)))
          have cv := (row_cell x10 (10 + j)).trans HV.out
          have fv := row_frozen x10 (10 + j)
          have X10 := Lib.hid x10
          clear x10 hR10 hC10 hO10 kp
          go_wp2_with fail
          refine ⟨?_, by simp [intOf]; omega⟩
          repeat apply Exists.intro
          refine ⟨?_, rfl⟩
          refine ⟨j + 1, vs ++ [Value.slice Bq (rdList (rdL t4 j).2).1.length dq], by go_num, by omega, Lib.hid ⟨?_, ?_, ?_, ?_, ?_, ?_⟩⟩
          · rw [S1.out]
            exact R10.out.chg' (only_set gx (10 + j) _) (fun he => by have := G1.out; have he' : g1 = gx := he; omega) (fun h0 a ha he => by
              have hx := (HL.out (j + 1)).2
              rw [S1.out] at hx
              rw [hx] at h0
              have := HA1.out h0 a ha
              have he' : a.block = gx := he
              omega)
          · rw [row_set X10.out, SW.out]
          · exact (row_far w10 ⟨gx, 10 + j, none⟩ _ _ (by have := G1.out; show w.heap.size ≠ gx; omega)).trans r10.out
          · exact Below.setCell B10.out (p := ⟨gx, 10 + j, none⟩) (by have := G1.out; show w.heap.size ≤ gx; omega) _
          · exact (row_far w10 ⟨gx, 10 + j, none⟩ _ _ (by have := GP9.out; show gp9 ≠ gx; omega)).trans p10.out
          · rw [S1.out]
            exact L10.out.chg (only_set gx (10 + j) _) (fun k hk => by have hk' : k = gx := hk; omega)
        · obtain rfl : j = 4 := by omega
          have hR11 := hH.out.1
          rw [E8.out] at hR11
          have HDn := Lib.hid (HD.out g1 A1 c1 wr hR11)
          obtain ⟨a, hp, hra, hrb⟩ := HFour.out wr gx vs hH.out.2.2.2.2.2
          have hx11 := hH.out.2.1
          rw [hp] at hx11
          have X11 := Lib.hid hx11
          have RA := Lib.hid hra
          have RB := Lib.hid hrb
          have RR11 := Lib.hid hH.out.2.2.1
          have B11 := Lib.hid hH.out.2.2.2.1
          clear hR11 hp hra hrb hx11 hH HD HFour HL H7
          go_wp2_with fail
          refine (HDn.out).mono ?_
          rintro e w12 ⟨rfl, hR12, hC12⟩
          have x12 := (hC12.row (row_lt X11.out) (fun he => by have := G1.out; have he' : gx = g1 := he; omega)).trans X11.out
          have r12 := (hC12.row (row_lt RR11.out) (fun he => by have := G1.out; have he' : w.heap.size = g1 := he; omega)).trans RR11.out
          have B12 := Lib.hid (B11.out.trans (hC12.toBelow (B := w.heap.size) (fun k hk => by have := G1.out; have hk' : k = g1 := hk; omega) B11.out.size))
          have RA12 : Hid (RepAt w12 (rp, a)) := Lib.hid (RA.out.chg hC12 (fun k hk he => by have := RB.out k hk; have := G1.out; have he' : k = g1 := he; omega))
          clear hR12 hC12 RA HDn
          generalize t8.done = de at *
          by_cases hd : de = 0
          · subst hd
            have hde := HDE.out
            rw [if_pos rfl] at hde
            have HRt := Lib.hid (right38_any rp a HRO.out w12 RA12.out)
            obtain ⟨t9, ht9⟩ := row_heap r12
            have hz2 := repC_one (rp, a)
            cases hrt : rightA rp
            · rw [hrt] at hde HRt
              subst hde
              have hdr := HDR.out
              rw [if_neg (by simp)] at hdr
              subst hdr
              clear hrt HDE HDR ht9
              go_wp2_with fail
              refine (HRt.out).mono ?_
              rintro e w13 ⟨rfl, hb13⟩
              have r13 := below_row hb13 r12 (row_lt r12)
              have B13 := Lib.hid (Below.then B12.out hb13)
              obtain ⟨t9, ht9⟩ := row_heap (row_setRow (new := repC (Rep.zero, RepA.nil)) r13)
              have HT9 := Lib.hid ht9
              have HEnd : Hid (RepAt (w13.setRow w.heap.size (repC (Rep.zero, RepA.nil))) (Rep.zero, RepA.nil) ∧ Below w.heap.size w (w13.setRow w.heap.size (repC (Rep.zero, RepA.nil)))) := Lib.hid ⟨RepAt.zero _, Below.setRow B13.out (Nat.le_refl _) _⟩
              clear ht9 r12 x12 hb13
              go_wp2_with (refine wpList_build_to (repC (Rep.zero, RepA.nil)) rfl 36 _ rfl (by kernel_rfl) ?_)
              exact bodyPost_ret (v := .tuple #[.agg (repC (Rep.zero, RepA.nil)), .int .i64 2]) (results_cell_tmp Try.results29 _ _ w.heap.size _ (repC (Rep.zero, RepA.nil)) (0, 0) _ rfl HT9.out rep_under rfl rep_info) rfl (HPost.out _ _ _ rfl HEnd.out.1 HEnd.out.2)
            · rw [hrt] at hde HRt
              subst hde
              have hdr := HDR.out
              rw [if_pos (by rfl)] at hdr
              subst hdr
              clear hrt HDE HDR ht9
              go_wp2_with fail
              refine (HRt.out).mono ?_
              rintro e w13 ⟨rfl, hb13⟩
              have r13 := below_row hb13 r12 (row_lt r12)
              have x13 := below_row hb13 x12 (row_lt x12)
              have B13 := Lib.hid (Below.then B12.out hb13)
              obtain ⟨t9, ht9⟩ := row_heap (row_setRow (new := repC (rq, a)) r13)
              have HT9 := Lib.hid ht9
              have HEnd : Hid (RepAt (w13.setRow w.heap.size (repC (rq, a))) (rq, a) ∧ Below w.heap.size w (w13.setRow w.heap.size (repC (rq, a)))) := Lib.hid ⟨(RA12.out.stay hb13).chg ((Chg.refl (only w.heap.size) w13).setRow (.inl rfl) _) (fun k hk he => by have := RB.out k hk; have := G1.out; have he' : k = w.heap.size := he; omega), Below.setRow B13.out (Nat.le_refl _) _⟩
              clear ht9 r12 x12 hb13
              go_wp2_with fail
              exact bodyPost_ret (v := .tuple #[.agg (repC (rq, a)), .int .i64 0]) (results_cell_tmp Try.results29 _ _ w.heap.size _ (repC (rq, a)) (0, 0) _ rfl HT9.out rep_under rfl rep_info) rfl (HPost.out _ _ _ rfl HEnd.out.1 HEnd.out.2)
          · have e1 : (de != 0) = true := bne_iff_ne.2 hd
            have hde := HDE.out
            rw [if_neg hd] at hde
            subst hde
            have hdr := HDR.out
            rw [if_neg hd] at hdr
            subst hdr
            obtain ⟨t9, ht9⟩ := row_heap (row_setRow (new := repC (Rep.zero, RepA.nil)) r12)
            have HT9 := Lib.hid ht9
            have HEnd : Hid (RepAt (w12.setRow w.heap.size (repC (Rep.zero, RepA.nil))) (Rep.zero, RepA.nil) ∧ Below w.heap.size w (w12.setRow w.heap.size (repC (Rep.zero, RepA.nil)))) := Lib.hid ⟨RepAt.zero _, Below.setRow B12.out (Nat.le_refl _) _⟩
            clear ht9 hd HDE HDR x12
            go_wp2_with (refine wpList_build_to (repC (Rep.zero, RepA.nil)) rfl 36 _ rfl (by kernel_rfl) ?_)
            exact bodyPost_ret (v := .tuple #[.agg (repC (Rep.zero, RepA.nil)), .int .i64 re]) (results_cell_tmp Try.results29 _ _ w.heap.size _ (repC (Rep.zero, RepA.nil)) (0, 0) _ rfl HT9.out rep_under rfl rep_info) rfl (HPost.out _ _ _ rfl HEnd.out.1 HEnd.out.2)
end Go.Proofs.Ytnakkjgnjffkpaa

/-
  Reports written: the reference's Form (bullionref38).
-/
import Derived.Test.YtnakkjgnjffkpaaRepW
import Derived.Test.YtnakkjgnjffkpaaRef05
import Derived.Test.YtnakkjgnjffkpaaCoder5
namespace Go.Proofs.Ytnakkjgnjffkpaa
open Go.RowKit
set_option linter.unusedVariables false

theorem OwnB.bysA {W : World} {A : Option Addr} {n c : Nat} {l : List Nat} (h : OwnB W (.slice A n c) l) : Bys W A l := by
  obtain ⟨A', c', e, hb, _⟩ := h.form
  cases e
  exact hb
/-- A list of bytes of the call's own that grows. -/
def Grow (w0 : World) (A : Option Addr) (c : Nat) (l : List Nat) (W : World) : Prop := OwnB W (.slice A l.length c) l ∧ (∀ a, A = some a → w0.heap.size ≤ a.block) ∧ Below w0.heap.size w0 W
theorem Grow.nil {w0 W : World} (h : Below w0.heap.size w0 W) : Grow w0 none 0 [] W := ⟨OwnB.nil _, (fun a e => by cases e), h⟩
theorem Grow.append {w0 W W2 W' : World} {A A' : Option Addr} {c c' : Nat} {l m : List Nat} (h : Grow w0 A c l W) (hb : Below W.heap.size W W2) (ha : Appended W2 (.slice A l.length c) l m (.slice A' (l.length + m.length) c') W') : Grow w0 A' c' (l ++ m) W' := by
  have ho1 : ∀ k, (Value.slice A l.length c).ownBlock = some k → w0.heap.size ≤ k := fun k hk => by
    cases A with
    | none => cases hk
    | some a => cases hk; exact h.2.1 a rfl
  have hb2 := Below.then h.2.2 hb
  refine ⟨by rw [List.length_append]; exact ha.1, fun a e => ?_, hb2.grown ha.2.1 hb2.size ho1⟩
  subst e
  have e2 : (Value.slice (some a) (l.length + m.length) c').ownBlock = some a.block := rfl
  rcases ha.2.2 with h2 | h2
  · exact ho1 _ (h2.symm.trans e2)
  · have h3 := e2.symm.trans h2
    rw [Option.some.injEq] at h3
    rw [h3]; exact hb2.size
theorem Grow.of_app {w0 W W' : World} {a : Addr} {n c : Nat} {l m : List Nat} {A' : Option Addr} {k c' : Nat} (hb : Below w0.heap.size w0 W) (ha0 : w0.heap.size ≤ a.block) (ha : Appended W (.slice (some a) n c) l m (.slice A' k c') W') : OwnB W' (.slice A' k c') (l ++ m) ∧ (∀ a, A' = some a → w0.heap.size ≤ a.block) ∧ Below w0.heap.size w0 W' := by
  have ho1 : ∀ k, (Value.slice (some a) n c).ownBlock = some k → w0.heap.size ≤ k := fun k hk => by
    have h1 : some a.block = some k := hk
    rw [Option.some.injEq] at h1; rw [← h1]; exact ha0
  refine ⟨ha.1, fun x e => ?_, hb.grown ha.2.1 hb.size ho1⟩
  subst e
  have e2 : (Value.slice (some x) k c').ownBlock = some x.block := rfl
  rcases ha.2.2 with h2 | h2
  · exact ho1 _ (h2.symm.trans e2)
  · have h3 := e2.symm.trans h2
    rw [Option.some.injEq] at h3
    rw [h3]; exact hb.size
theorem Grow.widen {w w0 W : World} {A : Option Addr} {c : Nat} {l : List Nat} (h : Grow w0 A c l W) (hb : Below w.heap.size w w0) : Grow w A c l W := ⟨h.1, fun a e => Nat.le_trans hb.size (h.2.1 a e), Below.then hb h.2.2⟩
theorem Grow.ret {w W : World} {A : Option Addr} {c : Nat} {l : List Nat} (h : Grow w A c l W) : RetB w l (.returned (.slice A l.length c)) W := ⟨A, c, rfl, h.1, h.2.1, h.2.2⟩
theorem Grow.stay {w0 W W' : World} {A : Option Addr} {c : Nat} {l : List Nat} (h : Grow w0 A c l W) (hb : Below W.heap.size W W') : Grow w0 A c l W' := ⟨h.1.stay hb, h.2.1, Below.then h.2.2 hb⟩
def GrowR (w0 : World) (l : List Nat) (e : Ending) (w' : World) : Prop := ∃ A c, e = .returned (.slice A l.length c) ∧ Grow w0 A c l w'
theorem num38_any (w0 W : World) (A : Option Addr) (c : Nat) (l : List Nat) (n : Nat) (hn : n < 18446744073709551616) (hl : l.length ≤ 100000) (h : Grow w0 A c l W) : Calls Try.prog 68 #[.slice A l.length c, .int .u64 (n : Int)] W (GrowR w0 (l ++ formN n)) := by
  have HF := Lib.hid (rform_any n hn)
  have HL := Lib.hid (And.intro (formN_len10 hn) hl)
  have HG := Lib.hid h
  clear h hl hn
  go_enter Try.func68, Try.ntmps68
  go_wp2_with fail
  refine (HF.out _).mono ?_
  intro e w3 hR
  obtain ⟨A2, c2, rfl, hB, hO, hA, hb⟩ := hR.bys
  have O1 := Lib.hid (HG.out.1.stay hb)
  have HB2 := Lib.hid hB
  have HBb := Lib.hid hb
  clear hR hB hO hA hb
  go_wp2_with (at_builtin; refine wpList_appb rfl _ _ rfl _ l (formN n) A2 _ c2 O1.out HB2.out rfl rfl rfl (by have := HL.out; omega) ?_; intro v' w4 hAp; obtain ⟨A3, c3, rfl⟩ := hAp.form; have HAp := Lib.hid hAp; clear hAp)
  go_ret
  exact ⟨A3, c3, by rw [List.length_append]; rfl, HG.out.append HBb.out HAp.out⟩
def rwP (l : List Nat) (zs : List Int) (j : Nat) : List Nat := l ++ flatN (zs.length :: (zs.take j).map Int.toNat)
theorem rwP_succ {l : List Nat} {zs : List Int} {j : Nat} {z : Int} (h : zs[j]? = some z) : rwP l zs (j + 1) = rwP l zs j ++ formN z.toNat := by
  obtain ⟨hi, rfl⟩ := List.getElem?_eq_some_iff.1 h
  unfold rwP
  rw [List.take_succ_eq_append_getElem hi, List.map_append, flatN_cons, flatN_cons, flatN_append, List.append_assoc, List.append_assoc]
  simp [flatN]
theorem rwP_zero (l : List Nat) (zs : List Int) : rwP l zs 0 = l ++ formN zs.length := by simp [rwP, flatN]
theorem rwP_all (l : List Nat) (zs : List Int) : rwP l zs zs.length = l ++ flatN (rowN zs) := by unfold rwP rowN; rw [List.take_length]
theorem rwP_len {l : List Nat} {zs : List Int} (h : (∀ z ∈ zs, 0 ≤ z ∧ z ≤ 2147483647) ∧ zs.length ≤ 256) (j : Nat) : (rwP l zs j).length ≤ l.length + 2570 := by
  have h1 := flatN_le (zs.length :: (zs.take j).map Int.toNat) (fun x hx => by
    rcases List.mem_cons.1 hx with rfl | hx
    · omega
    · obtain ⟨z, hz, rfl⟩ := List.mem_map.1 hx
      have := h.1 z (List.mem_of_mem_take hz)
      omega)
  have h2 := List.length_take_le j zs
  have h3 := h.2
  rw [List.length_cons, List.length_map, List.length_take] at h1
  unfold rwP
  rw [List.length_append]; omega
theorem row38_any (w0 W : World) (A : Option Addr) (c : Nat) (l : List Nat) (B : Option Addr) (n d : Nat) (zs : List Int) (hn : zs.length = n) (hz : (∀ z ∈ zs, 0 ≤ z ∧ z ≤ 2147483647) ∧ zs.length ≤ 256) (hl : l.length ≤ 90000) (hS : SliceOf 1 intK w0 B zs) (h : Grow w0 A c l W) :
    Calls Try.prog 69 #[.slice A l.length c, .slice B n d] W (GrowR w0 (l ++ flatN (rowN zs))) := by
  have HG := Lib.hid h
  have HN := Lib.hid hn
  have hn2 : n ≤ 256 := by rw [← hn]; exact hz.2
  have HS := Lib.hid hS
  have HZ := Lib.hid hz
  have HNum := Lib.hid (num38_any w0 W A c l n (by omega) (by omega) h)
  have hz0 := rwP_zero l zs
  have hza := rwP_all l zs
  rw [hn] at hz0 hza
  rw [← hz0] at HNum
  rw [← hza]
  have HL : Hid (∀ j, (rwP l zs j).length ≤ 100000) := Lib.hid fun j => by have := rwP_len (l := l) hz j; omega
  have E1 : IntKind.u64.wrap (n : Int) = (n : Int) := by rw [IntKind.wrap_u64]; omega
  clear h hn hz hl hS hz0 hza
  go_enter Try.func69, Try.ntmps69
  go_wp2_with fail
  refine (HNum.out).mono ?_
  rintro e w1 ⟨A1, c1, rfl, hG1⟩
  have HG1 := Lib.hid hG1
  clear hG1 HG
  go_wp2_with fail
  go_loopw [0, 5] (fun b i wr => ∃ (j : Nat) (A : Option Addr) (c : Nat), i = .int .i64 j ∧ j ≤ n ∧ b = .slice A (rwP l zs j).length c ∧ Hid (Grow w0 A c (rwP l zs j) wr)) (fun _ i _ => n - (intOf i).toNat)
  case atStart => exact ⟨0, A1, c1, rfl, by omega, rfl, HG1⟩
  case round =>
    obtain ⟨j, A, c, rfl, hj, rfl, hG⟩ := hrel
    by_cases hlt : j < n
    · obtain ⟨z, hz⟩ : ∃ z, zs[j]? = some z := ⟨_, List.getElem?_eq_getElem (by rw [HN.out]; exact hlt)⟩
      obtain ⟨b, off, rfl, _, kz⟩ := int_at (HS.out.below hG.out.2.2 (Nat.le_refl _)) hz
      have hzz := HZ.out.1 z (List.mem_of_getElem? hz)
      obtain ⟨m, rfl⟩ := Int.eq_ofNat_of_zero_le hzz.1
      have HX := Lib.hid (num38_any w0 wr A c (rwP l zs j) m (by omega) (HL.out j) hG.out)
      have hs := rwP_succ (l := l) hz
      rw [Int.toNat_natCast] at hs
      rw [← hs] at HX
      have E2 : IntKind.u64.wrap (m : Int) = (m : Int) := by rw [IntKind.wrap_u64]; omega
      have z1 : (0 : Int) ≤ (j : Int) := by omega
      have z2 : (j : Int) < (n : Int) := by omega
      clear hz hzz hs hG
      go_wp2_with fail
      refine (HX.out).mono ?_
      rintro e w2 ⟨A2, c2, rfl, hG2⟩
      have HG2 := Lib.hid hG2
      clear hG2
      go_wp2_with fail
      exact ⟨⟨j + 1, A2, c2, by go_num, by omega, rfl, HG2⟩, by simp [intOf]; omega⟩
    · obtain rfl : j = n := by omega
      go_wp2_with fail
      go_ret
      exact ⟨A, c, rfl, hG.out⟩
def flN (r : Rep) (k : Nat) : List Nat := flatN ((numsR r).take k)
theorem flN_zero (r : Rep) : flN r 0 = [] := rfl
theorem flN_succ {r : Rep} {k n : Nat} (h : (numsR r)[k]? = some n) : flN r (k + 1) = flN r k ++ formN n := by
  obtain ⟨hi, rfl⟩ := List.getElem?_eq_some_iff.1 h
  unfold flN
  rw [List.take_succ_eq_append_getElem hi, flatN_append]
  simp [flatN]
theorem flN_row {r : Rep} {p : Nat} {zs : List Int} {rest : List Nat} (h : (numsR r).drop p = rowN zs ++ rest) : flN r (p + (1 + zs.length)) = flN r p ++ flatN (rowN zs) := by
  unfold flN
  rw [← flatN_append, List.take_add, h, show 1 + zs.length = (rowN zs).length by rw [rowN_len]; omega, List.take_left]
theorem flN_len {r : Rep} (h : r.Small) (k : Nat) : (flN r k).length ≤ 11000 := by
  have h1 := flatN_le ((numsR r).take k) (fun x hx => numsR_lt h x (List.mem_of_mem_take hx))
  have h2 := numsR_len h
  have h3 := List.length_take_le k (numsR r)
  rw [List.length_take] at h1
  unfold flN; omega
theorem flN_all (r : Rep) : flN r (posR r 4) = formR r := by
  have h : (numsR r).drop (posR r 3 + (1 + r.done.length)) = [] := drop_row (l := r.done) (by rw [List.append_nil]; exact drop_row (l := r.started) (rest := rowN r.done) (drop_row (l := r.left) (drop_row (l := r.out) rfl)))
  have h2 := congrArg List.length h
  rw [List.length_drop, List.length_nil] at h2
  unfold flN formR
  rw [List.take_of_length_le]
  show _ ≤ posR r 3 + (1 + r.done.length)
  omega
theorem flN_num {r : Rep} (hsm : r.Small) (w0 : World) {k n : Nat} (h : (numsR r)[k]? = some n) (A : Option Addr) (c : Nat) (W : World) (hG : Grow w0 A c (flN r k) W) : Calls Try.prog 68 #[.slice A (flN r k).length c, .int .u64 (n : Int)] W (GrowR w0 (flN r (k + 1))) := by
  rw [flN_succ h]
  exact num38_any w0 W A c (flN r k) n (numsR_lt hsm n (List.mem_of_getElem? h)) (by have := flN_len hsm k; omega) hG
theorem flN_lst {r : Rep} (hsm : r.Small) {a : RepA} (w0 : World) (hA : RepAt w0 (r, a)) {i : Nat} (hi : i < 4) (A : Option Addr) (c : Nat) (W : World) (hG : Grow w0 A c (flN r (posR r i)) W) : Calls Try.prog 69 #[.slice A (flN r (posR r i)).length c, .slice (adrR a i) (lstR r i).length (capR a i)] W (GrowR w0 (flN r (posR r (i + 1)))) := by
  obtain ⟨rest, hd⟩ := pos_drop r i hi
  have := flN_row hd
  show Calls _ _ _ _ (GrowR w0 (flN r (posR r i + (1 + (lstR r i).length))))
  rw [this]
  exact row38_any w0 W A c (flN r (posR r i)) (adrR a i) _ (capR a i) (lstR r i) rfl (hsm.lst i) (by have := flN_len hsm (posR r i); omega) (hA.lst i) hG
set_option maxRecDepth 100000 in
set_option maxHeartbeats 16000000 in
theorem rform38_any (r : Rep) (a : RepA) (hrt : rightA r = true) (w : World) (hA : RepAt w (r, a)) : Calls Try.prog 28 #[.agg (repC (r, a))] w (RetB w (formR r)) := by
  have hsm := right_small7 hrt
  have r0 : row (w.alloc (.cells (repC (r, a)) 40)) w.heap.size = some (repC (r, a)) := row_at _ _ _ _ rfl
  have hB0 : Below w.heap.size w (w.alloc (.cells (repC (r, a)) 40)) := (by (repeat (first | exact Below.refl _ _ | assumption | (refine Below.allocT ?_ _) | refine Below.drew ?_ | refine below_drewN ?_ _ | (refine Below.then ?_ (by assumption)) | (refine Below.setRow ?_ ?_ _; rotate_left; (focus (first | exact Nat.lt_succ_self _ | ((repeat rw [World.size_alloc]); omega) | (simp; done) | (simp; omega) | omega))) | (refine Below.setCell ?_ ?_ _; rotate_left; (focus (first | exact Nat.lt_succ_self _ | ((repeat rw [World.size_alloc]); omega) | (simp; done) | (simp; omega) | omega))) | (refine Below.then' ?_ (by assumption) ?_; rotate_left; (focus (first | exact Nat.lt_succ_self _ | ((repeat rw [World.size_alloc]); omega) | (simp; done) | (simp; omega) | omega))) | fail)); (first | done | fail))
  have hA0 := hA.stay hB0
  obtain ⟨ep, hep⟩ := Int.eq_ofNat_of_zero_le hsm.ep.1
  obtain ⟨mo, hmo⟩ := Int.eq_ofNat_of_zero_le hsm.mo.1
  have hpl := hsm.ep
  have hml := hsm.mo
  have hz := repC_one (r, a)
  have HAll := Lib.hid (flN_all r)
  have c0 : (repC (r, a))[0]? = some (.int .i64 (ep : Int)) := by rw [← hep]; rfl
  have c1 : (repC (r, a))[1]? = some (.int .i64 (mo : Int)) := by rw [← hmo]; rfl
  have HC := Lib.hid (And.intro c0 c1)
  have E1 : IntKind.u64.wrap (ep : Int) = (ep : Int) := by rw [IntKind.wrap_u64]; omega
  have E2 : IntKind.u64.wrap (mo : Int) = (mo : Int) := by rw [IntKind.wrap_u64]; omega
  have n0 : (numsR r)[0]? = some ep := by show some r.epoch.toNat = _; rw [hep]; rfl
  have n1 : (numsR r)[1]? = some mo := by show some r.mode.toNat = _; rw [hmo]; rfl
  clear c0 c1
  go_enter Try.func28, Try.ntmps28
  go_upto_region 1 with fail
  change Code.wp _ _ _ _ (w.alloc (.cells (repC (r, a)) 40))
  generalize w.alloc (.cells (repC (r, a)) 40) = w0 at *
  have HN0 := Lib.hid (flN_num hsm w0 n0)
  have HN1 := Lib.hid (flN_num hsm w0 n1)
  have HN2 : Hid (∀ A c W, Grow w0 A c (flN r 2) W → Calls Try.prog 68 #[.slice A (flN r 2).length c, .int .u64 (((if r.quorum then 1 else 0 : Nat)) : Int)] W (GrowR w0 (flN r 3))) := Lib.hid (flN_num hsm w0 (k := 2) rfl)
  have HN3 : Hid (∀ A c W, Grow w0 A c (flN r 3) W → Calls Try.prog 68 #[.slice A (flN r 3).length c, .int .u64 ((r.present : Nat) : Int)] W (GrowR w0 (flN r 4))) := Lib.hid (flN_num hsm w0 (k := 3) rfl)
  have HN4 : Hid (∀ A c W, Grow w0 A c (flN r 4) W → Calls Try.prog 68 #[.slice A (flN r 4).length c, .int .u64 ((r.active : Nat) : Int)] W (GrowR w0 (flN r 5))) := Lib.hid (flN_num hsm w0 (k := 4) rfl)
  have HN5 : Hid (∀ A c W, Grow w0 A c (flN r 5) W → Calls Try.prog 68 #[.slice A (flN r 5).length c, .int .u64 ((r.minted : Nat) : Int)] W (GrowR w0 (flN r 6))) := Lib.hid (flN_num hsm w0 (k := 5) rfl)
  have HN6 : Hid (∀ A c W, Grow w0 A c (flN r 6) W → Calls Try.prog 68 #[.slice A (flN r 6).length c, .int .u64 ((r.paid : Nat) : Int)] W (GrowR w0 (flN r 7))) := Lib.hid (flN_num hsm w0 (k := 6) rfl)
  have HN7 : Hid (∀ A c W, Grow w0 A c (flN r 7) W → Calls Try.prog 68 #[.slice A (flN r 7).length c, .int .u64 ((r.kept : Nat) : Int)] W (GrowR w0 (flN r 8))) := Lib.hid (flN_num hsm w0 (k := 7) rfl)
  have HN8 : Hid (∀ A c W, Grow w0 A c (flN r 8) W → Calls Try.prog 68 #[.slice A (flN r 8).length c, .int .u64 ((r.burned : Nat) : Int)] W (GrowR w0 (flN r 9))) := Lib.hid (flN_num hsm w0 (k := 8) rfl)
  have HN9 : Hid (∀ A c W, Grow w0 A c (flN r 9) W → Calls Try.prog 68 #[.slice A (flN r 9).length c, .int .u64 ((r.fees : Nat) : Int)] W (GrowR w0 (flN r 10))) := Lib.hid (flN_num hsm w0 (k := 9) rfl)
  have HR0 : Hid (∀ A c W, Grow w0 A c (flN r 10) W → Calls Try.prog 69 #[.slice A (flN r 10).length c, .slice a.a1 r.out.length a.c1] W (GrowR w0 (flN r (posR r 1)))) := Lib.hid (flN_lst hsm w0 hA0 (i := 0) (by omega))
  have HR1 : Hid (∀ A c W, Grow w0 A c (flN r (posR r 1)) W → Calls Try.prog 69 #[.slice A (flN r (posR r 1)).length c, .slice a.a2 r.left.length a.c2] W (GrowR w0 (flN r (posR r 2)))) := Lib.hid (flN_lst hsm w0 hA0 (i := 1) (by omega))
  have HR2 : Hid (∀ A c W, Grow w0 A c (flN r (posR r 2)) W → Calls Try.prog 69 #[.slice A (flN r (posR r 2)).length c, .slice a.a3 r.started.length a.c3] W (GrowR w0 (flN r (posR r 3)))) := Lib.hid (flN_lst hsm w0 hA0 (i := 2) (by omega))
  have HR3 : Hid (∀ A c W, Grow w0 A c (flN r (posR r 3)) W → Calls Try.prog 69 #[.slice A (flN r (posR r 3)).length c, .slice a.a4 r.done.length a.c4] W (GrowR w0 (flN r (posR r 4)))) := Lib.hid (flN_lst hsm w0 hA0 (i := 3) (by omega))
  generalize posR r 1 = p1 at *
  generalize posR r 2 = p2 at *
  generalize posR r 3 = p3 at *
  generalize posR r 4 = p4 at *
  have HM : Hid (∀ w', Below w0.heap.size w0 w' → row w' w.heap.size = some (repC (r, a))) := Lib.hid fun w' h => (row_below h (row_lt r0)).trans r0
  have HB0 := Lib.hid hB0
  have HM0 : Hid (∀ w', Below w0.heap.size w0 w' → w'.cell? ⟨w.heap.size, 0, none⟩ = some (.int .i64 (ep : Int)) ∧ w'.cell? ⟨w.heap.size, 1, none⟩ = some (.int .i64 (mo : Int))) := Lib.hid fun w' h => ⟨(row_cell (HM.out w' h) 0).trans HC.out.1, (row_cell (HM.out w' h) 1).trans HC.out.2⟩
  clear hA hA0 hsm hrt r0 hB0 hep hmo hz n0 n1
  go_upto_region 2 with fail
  go_region_held3 (fun w' => w'.cell? ⟨w.heap.size, 0, none⟩ = some (.int .i64 (ep : Int)) ∧ w'.cell? ⟨w.heap.size, 1, none⟩ = some (.int .i64 (mo : Int))) (exact HM0.out _ (by (repeat (first | exact Below.refl _ _ | assumption | (refine Below.allocT ?_ _) | refine Below.drew ?_ | refine below_drewN ?_ _ | (refine Below.then ?_ (by assumption)) | (refine Below.setRow ?_ ?_ _; rotate_left; (focus (first | exact Nat.lt_succ_self _ | ((repeat rw [World.size_alloc]); omega) | (simp; done) | (simp; omega) | omega))) | (refine Below.setCell ?_ ?_ _; rotate_left; (focus (first | exact Nat.lt_succ_self _ | ((repeat rw [World.size_alloc]); omega) | (simp; done) | (simp; omega) | omega))) | (refine Below.then' ?_ (by assumption) ?_; rotate_left; (focus (first | exact Nat.lt_succ_self _ | ((repeat rw [World.size_alloc]); omega) | (simp; done) | (simp; omega) | omega))) | fail)); (first | done | fail))) (first | (go_at_call_of 68 (Value.int IntKind.u64 ((ep : Nat) : Int)); refine (HN0.out none 0 _ (Grow.nil (by (repeat (first | exact Below.refl _ _ | assumption | (refine Below.allocT ?_ _) | refine Below.drew ?_ | refine below_drewN ?_ _ | (refine Below.then ?_ (by assumption)) | (refine Below.setRow ?_ ?_ _; rotate_left; (focus (first | exact Nat.lt_succ_self _ | ((repeat rw [World.size_alloc]); omega) | (simp; done) | (simp; omega) | omega))) | (refine Below.setCell ?_ ?_ _; rotate_left; (focus (first | exact Nat.lt_succ_self _ | ((repeat rw [World.size_alloc]); omega) | (simp; done) | (simp; omega) | omega))) | (refine Below.then' ?_ (by assumption) ?_; rotate_left; (focus (first | exact Nat.lt_succ_self _ | ((repeat rw [World.size_alloc]); omega) | (simp; done) | (simp; omega) | omega))) | fail)); (first | done | fail)))).mono ?_; rintro e w1 ⟨A1, c1, rfl, hG1⟩; have hb1 := hG1.2.2) | (go_at_call_of 68 (Value.int IntKind.u64 ((mo : Nat) : Int)); refine (HN1.out A1 c1 _ (hG1.stay (by (repeat (first | exact Below.refl _ _ | assumption | (refine Below.allocT ?_ _) | refine Below.drew ?_ | refine below_drewN ?_ _ | (refine Below.then ?_ (by assumption)) | (refine Below.setRow ?_ ?_ _; rotate_left; (focus (first | exact Nat.lt_succ_self _ | ((repeat rw [World.size_alloc]); omega) | (simp; done) | (simp; omega) | omega))) | (refine Below.setCell ?_ ?_ _; rotate_left; (focus (first | exact Nat.lt_succ_self _ | ((repeat rw [World.size_alloc]); omega) | (simp; done) | (simp; omega) | omega))) | (refine Below.then' ?_ (by assumption) ?_; rotate_left; (focus (first | exact Nat.lt_succ_self _ | ((repeat rw [World.size_alloc]); omega) | (simp; done) | (simp; omega) | omega))) | fail)); (first | done | fail)))).mono ?_; rintro e w2 ⟨A2, c2, rfl, hG2⟩; have hb2 := hG2.2.2))
  have k2 : w2.cell? ⟨w.heap.size, 2, none⟩ = some (.bool r.quorum) := row_cell (HM.out w2 hb2) 2
  have HG2 := Lib.hid hG2
  clear hG1 hb1 hG2 hb2 HM0 HN0 HN1
  generalize r.quorum = qb at *
  cases qb
  all_goals
    go_wp2_with fail
    refine (HN2.out A2 c2 _ HG2.out).mono ?_
    rintro e w3 ⟨A3, c3, rfl, hG3⟩
    have hb3 := hG3.2.2
    clear k2 HG2 HN2
    have HS6 : Hid (∀ w', Below w0.heap.size w0 w' → w'.cell? ⟨w.heap.size, 3, none⟩ = some (.int .u64 ((r.present : Nat) : Int)) ∧ w'.cell? ⟨w.heap.size, 4, none⟩ = some (.int .u64 ((r.active : Nat) : Int)) ∧ w'.cell? ⟨w.heap.size, 5, none⟩ = some (.int .u64 ((r.minted : Nat) : Int))) := Lib.hid fun w' h => ⟨row_cell (HM.out w' h) 3, row_cell (HM.out w' h) 4, row_cell (HM.out w' h) 5⟩
    go_upto_region 6 with fail
    go_region_held3 (fun w' => w'.cell? ⟨w.heap.size, 3, none⟩ = some (.int .u64 ((r.present : Nat) : Int)) ∧ w'.cell? ⟨w.heap.size, 4, none⟩ = some (.int .u64 ((r.active : Nat) : Int)) ∧ w'.cell? ⟨w.heap.size, 5, none⟩ = some (.int .u64 ((r.minted : Nat) : Int))) (exact HS6.out _ (by (repeat (first | exact Below.refl _ _ | assumption | (refine Below.allocT ?_ _) | refine Below.drew ?_ | refine below_drewN ?_ _ | (refine Below.then ?_ (by assumption)) | (refine Below.setRow ?_ ?_ _; rotate_left; (focus (first | exact Nat.lt_succ_self _ | ((repeat rw [World.size_alloc]); omega) | (simp; done) | (simp; omega) | omega))) | (refine Below.setCell ?_ ?_ _; rotate_left; (focus (first | exact Nat.lt_succ_self _ | ((repeat rw [World.size_alloc]); omega) | (simp; done) | (simp; omega) | omega))) | (refine Below.then' ?_ (by assumption) ?_; rotate_left; (focus (first | exact Nat.lt_succ_self _ | ((repeat rw [World.size_alloc]); omega) | (simp; done) | (simp; omega) | omega))) | fail)); (first | done | fail))) (first | (go_at_call_of 68 (Value.int IntKind.u64 ((r.present : Nat) : Int)); refine (HN3.out A3 c3 _ (hG3.stay (by (repeat (first | exact Below.refl _ _ | assumption | (refine Below.allocT ?_ _) | refine Below.drew ?_ | refine below_drewN ?_ _ | (refine Below.then ?_ (by assumption)) | (refine Below.setRow ?_ ?_ _; rotate_left; (focus (first | exact Nat.lt_succ_self _ | ((repeat rw [World.size_alloc]); omega) | (simp; done) | (simp; omega) | omega))) | (refine Below.setCell ?_ ?_ _; rotate_left; (focus (first | exact Nat.lt_succ_self _ | ((repeat rw [World.size_alloc]); omega) | (simp; done) | (simp; omega) | omega))) | (refine Below.then' ?_ (by assumption) ?_; rotate_left; (focus (first | exact Nat.lt_succ_self _ | ((repeat rw [World.size_alloc]); omega) | (simp; done) | (simp; omega) | omega))) | fail)); (first | done | fail)))).mono ?_; rintro e w4 ⟨A4, c4, rfl, hG4⟩; have hb4 := hG4.2.2) | (go_at_call_of 68 (Value.int IntKind.u64 ((r.active : Nat) : Int)); refine (HN4.out A4 c4 _ (hG4.stay (by (repeat (first | exact Below.refl _ _ | assumption | (refine Below.allocT ?_ _) | refine Below.drew ?_ | refine below_drewN ?_ _ | (refine Below.then ?_ (by assumption)) | (refine Below.setRow ?_ ?_ _; rotate_left; (focus (first | exact Nat.lt_succ_self _ | ((repeat rw [World.size_alloc]); omega) | (simp; done) | (simp; omega) | omega))) | (refine Below.setCell ?_ ?_ _; rotate_left; (focus (first | exact Nat.lt_succ_self _ | ((repeat rw [World.size_alloc]); omega) | (simp; done) | (simp; omega) | omega))) | (refine Below.then' ?_ (by assumption) ?_; rotate_left; (focus (first | exact Nat.lt_succ_self _ | ((repeat rw [World.size_alloc]); omega) | (simp; done) | (simp; omega) | omega))) | fail)); (first | done | fail)))).mono ?_; rintro e w5 ⟨A5, c5, rfl, hG5⟩; have hb5 := hG5.2.2) | (go_at_call_of 68 (Value.int IntKind.u64 ((r.minted : Nat) : Int)); refine (HN5.out A5 c5 _ (hG5.stay (by (repeat (first | exact Below.refl _ _ | assumption | (refine Below.allocT ?_ _) | refine Below.drew ?_ | refine below_drewN ?_ _ | (refine Below.then ?_ (by assumption)) | (refine Below.setRow ?_ ?_ _; rotate_left; (focus (first | exact Nat.lt_succ_self _ | ((repeat rw [World.size_alloc]); omega) | (simp; done) | (simp; omega) | omega))) | (refine Below.setCell ?_ ?_ _; rotate_left; (focus (first | exact Nat.lt_succ_self _ | ((repeat rw [World.size_alloc]); omega) | (simp; done) | (simp; omega) | omega))) | (refine Below.then' ?_ (by assumption) ?_; rotate_left; (focus (first | exact Nat.lt_succ_self _ | ((repeat rw [World.size_alloc]); omega) | (simp; done) | (simp; omega) | omega))) | fail)); (first | done | fail)))).mono ?_; rintro e w6 ⟨A6, c6, rfl, hG6⟩; have hb6 := hG6.2.2))
    clear HN3 HN4 HN5 HS6
    have HS7 : Hid (∀ w', Below w0.heap.size w0 w' → w'.cell? ⟨w.heap.size, 6, none⟩ = some (.int .u64 ((r.paid : Nat) : Int)) ∧ w'.cell? ⟨w.heap.size, 7, none⟩ = some (.int .u64 ((r.kept : Nat) : Int)) ∧ w'.cell? ⟨w.heap.size, 8, none⟩ = some (.int .u64 ((r.burned : Nat) : Int)) ∧ w'.cell? ⟨w.heap.size, 9, none⟩ = some (.int .u64 ((r.fees : Nat) : Int))) := Lib.hid fun w' h => ⟨row_cell (HM.out w' h) 6, row_cell (HM.out w' h) 7, row_cell (HM.out w' h) 8, row_cell (HM.out w' h) 9⟩
    go_upto_region 7 with fail
    go_region_held3 (fun w' => w'.cell? ⟨w.heap.size, 6, none⟩ = some (.int .u64 ((r.paid : Nat) : Int)) ∧ w'.cell? ⟨w.heap.size, 7, none⟩ = some (.int .u64 ((r.kept : Nat) : Int)) ∧ w'.cell? ⟨w.heap.size, 8, none⟩ = some (.int .u64 ((r.burned : Nat) : Int)) ∧ w'.cell? ⟨w.heap.size, 9, none⟩ = some (.int .u64 ((r.fees : Nat) : Int))) (exact HS7.out _ (by (repeat (first | exact Below.refl _ _ | assumption | (refine Below.allocT ?_ _) | refine Below.drew ?_ | refine below_drewN ?_ _ | (refine Below.then ?_ (by assumption)) | (refine Below.setRow ?_ ?_ _; rotate_left; (focus (first | exact Nat.lt_succ_self _ | ((repeat rw [World.size_alloc]); omega) | (simp; done) | (simp; omega) | omega))) | (refine Below.setCell ?_ ?_ _; rotate_left; (focus (first | exact Nat.lt_succ_self _ | ((repeat rw [World.size_alloc]); omega) | (simp; done) | (simp; omega) | omega))) | (refine Below.then' ?_ (by assumption) ?_; rotate_left; (focus (first | exact Nat.lt_succ_self _ | ((repeat rw [World.size_alloc]); omega) | (simp; done) | (simp; omega) | omega))) | fail)); (first | done | fail))) (first | (go_at_call_of 68 (Value.int IntKind.u64 ((r.paid : Nat) : Int)); refine (HN6.out A6 c6 _ (hG6.stay (by (repeat (first | exact Below.refl _ _ | assumption | (refine Below.allocT ?_ _) | refine Below.drew ?_ | refine below_drewN ?_ _ | (refine Below.then ?_ (by assumption)) | (refine Below.setRow ?_ ?_ _; rotate_left; (focus (first | exact Nat.lt_succ_self _ | ((repeat rw [World.size_alloc]); omega) | (simp; done) | (simp; omega) | omega))) | (refine Below.setCell ?_ ?_ _; rotate_left; (focus (first | exact Nat.lt_succ_self _ | ((repeat rw [World.size_alloc]); omega) | (simp; done) | (simp; omega) | omega))) | (refine Below.then' ?_ (by assumption) ?_; rotate_left; (focus (first | exact Nat.lt_succ_self _ | ((repeat rw [World.size_alloc]); omega) | (simp; done) | (simp; omega) | omega))) | fail)); (first | done | fail)))).mono ?_; rintro e w7 ⟨A7, c7, rfl, hG7⟩; have hb7 := hG7.2.2) | (go_at_call_of 68 (Value.int IntKind.u64 ((r.kept : Nat) : Int)); refine (HN7.out A7 c7 _ (hG7.stay (by (repeat (first | exact Below.refl _ _ | assumption | (refine Below.allocT ?_ _) | refine Below.drew ?_ | refine below_drewN ?_ _ | (refine Below.then ?_ (by assumption)) | (refine Below.setRow ?_ ?_ _; rotate_left; (focus (first | exact Nat.lt_succ_self _ | ((repeat rw [World.size_alloc]); omega) | (simp; done) | (simp; omega) | omega))) | (refine Below.setCell ?_ ?_ _; rotate_left; (focus (first | exact Nat.lt_succ_self _ | ((repeat rw [World.size_alloc]); omega) | (simp; done) | (simp; omega) | omega))) | (refine Below.then' ?_ (by assumption) ?_; rotate_left; (focus (first | exact Nat.lt_succ_self _ | ((repeat rw [World.size_alloc]); omega) | (simp; done) | (simp; omega) | omega))) | fail)); (first | done | fail)))).mono ?_; rintro e w8 ⟨A8, c8, rfl, hG8⟩; have hb8 := hG8.2.2) | (go_at_call_of 68 (Value.int IntKind.u64 ((r.burned : Nat) : Int)); refine (HN8.out A8 c8 _ (hG8.stay (by (repeat (first | exact Below.refl _ _ | assumption | (refine Below.allocT ?_ _) | refine Below.drew ?_ | refine below_drewN ?_ _ | (refine Below.then ?_ (by assumption)) | (refine Below.setRow ?_ ?_ _; rotate_left; (focus (first | exact Nat.lt_succ_self _ | ((repeat rw [World.size_alloc]); omega) | (simp; done) | (simp; omega) | omega))) | (refine Below.setCell ?_ ?_ _; rotate_left; (focus (first | exact Nat.lt_succ_self _ | ((repeat rw [World.size_alloc]); omega) | (simp; done) | (simp; omega) | omega))) | (refine Below.then' ?_ (by assumption) ?_; rotate_left; (focus (first | exact Nat.lt_succ_self _ | ((repeat rw [World.size_alloc]); omega) | (simp; done) | (simp; omega) | omega))) | fail)); (first | done | fail)))).mono ?_; rintro e w9 ⟨A9, c9, rfl, hG9⟩; have hb9 := hG9.2.2) | (go_at_call_of 68 (Value.int IntKind.u64 ((r.fees : Nat) : Int)); refine (HN9.out A9 c9 _ (hG9.stay (by (repeat (first | exact Below.refl _ _ | assumption | (refine Below.allocT ?_ _) | refine Below.drew ?_ | refine below_drewN ?_ _ | (refine Below.then ?_ (by assumption)) | (refine Below.setRow ?_ ?_ _; rotate_left; (focus (first | exact Nat.lt_succ_self _ | ((repeat rw [World.size_alloc]); omega) | (simp; done) | (simp; omega) | omega))) | (refine Below.setCell ?_ ?_ _; rotate_left; (focus (first | exact Nat.lt_succ_self _ | ((repeat rw [World.size_alloc]); omega) | (simp; done) | (simp; omega) | omega))) | (refine Below.then' ?_ (by assumption) ?_; rotate_left; (focus (first | exact Nat.lt_succ_self _ | ((repeat rw [World.size_alloc]); omega) | (simp; done) | (simp; omega) | omega))) | fail)); (first | done | fail)))).mono ?_; rintro e w10 ⟨A10, c10, rfl, hG10⟩; have hb10 := hG10.2.2))
    clear HN6 HN7 HN8 HN9 HS7
    have HS8 : Hid (∀ w', Below w0.heap.size w0 w' → w'.cell? ⟨w.heap.size, 10, none⟩ = some (.slice a.a1 r.out.length a.c1) ∧ w'.cell? ⟨w.heap.size, 11, none⟩ = some (.slice a.a2 r.left.length a.c2) ∧ w'.cell? ⟨w.heap.size, 12, none⟩ = some (.slice a.a3 r.started.length a.c3) ∧ w'.cell? ⟨w.heap.size, 13, none⟩ = some (.slice a.a4 r.done.length a.c4)) := Lib.hid fun w' h => ⟨row_cell (HM.out w' h) 10, row_cell (HM.out w' h) 11, row_cell (HM.out w' h) 12, row_cell (HM.out w' h) 13⟩
    go_upto_region 8 with fail
    go_region_held3 (fun w' => w'.cell? ⟨w.heap.size, 10, none⟩ = some (.slice a.a1 r.out.length a.c1) ∧ w'.cell? ⟨w.heap.size, 11, none⟩ = some (.slice a.a2 r.left.length a.c2) ∧ w'.cell? ⟨w.heap.size, 12, none⟩ = some (.slice a.a3 r.started.length a.c3) ∧ w'.cell? ⟨w.heap.size, 13, none⟩ = some (.slice a.a4 r.done.length a.c4)) (exact HS8.out _ (by (repeat (first | exact Below.refl _ _ | assumption | (refine Below.allocT ?_ _) | refine Below.drew ?_ | refine below_drewN ?_ _ | (refine Below.then ?_ (by assumption)) | (refine Below.setRow ?_ ?_ _; rotate_left; (focus (first | exact Nat.lt_succ_self _ | ((repeat rw [World.size_alloc]); omega) | (simp; done) | (simp; omega) | omega))) | (refine Below.setCell ?_ ?_ _; rotate_left; (focus (first | exact Nat.lt_succ_self _ | ((repeat rw [World.size_alloc]); omega) | (simp; done) | (simp; omega) | omega))) | (refine Below.then' ?_ (by assumption) ?_; rotate_left; (focus (first | exact Nat.lt_succ_self _ | ((repeat rw [World.size_alloc]); omega) | (simp; done) | (simp; omega) | omega))) | fail)); (first | done | fail))) (first | (go_at_call_of 69 (Value.slice a.a1 r.out.length a.c1); refine (HR0.out A10 c10 _ (hG10.stay (by (repeat (first | exact Below.refl _ _ | assumption | (refine Below.allocT ?_ _) | refine Below.drew ?_ | refine below_drewN ?_ _ | (refine Below.then ?_ (by assumption)) | (refine Below.setRow ?_ ?_ _; rotate_left; (focus (first | exact Nat.lt_succ_self _ | ((repeat rw [World.size_alloc]); omega) | (simp; done) | (simp; omega) | omega))) | (refine Below.setCell ?_ ?_ _; rotate_left; (focus (first | exact Nat.lt_succ_self _ | ((repeat rw [World.size_alloc]); omega) | (simp; done) | (simp; omega) | omega))) | (refine Below.then' ?_ (by assumption) ?_; rotate_left; (focus (first | exact Nat.lt_succ_self _ | ((repeat rw [World.size_alloc]); omega) | (simp; done) | (simp; omega) | omega))) | fail)); (first | done | fail)))).mono ?_; rintro e w11 ⟨A11, c11, rfl, hG11⟩; have hb11 := hG11.2.2) | (go_at_call_of 69 (Value.slice a.a2 r.left.length a.c2); refine (HR1.out A11 c11 _ (hG11.stay (by (repeat (first | exact Below.refl _ _ | assumption | (refine Below.allocT ?_ _) | refine Below.drew ?_ | refine below_drewN ?_ _ | (refine Below.then ?_ (by assumption)) | (refine Below.setRow ?_ ?_ _; rotate_left; (focus (first | exact Nat.lt_succ_self _ | ((repeat rw [World.size_alloc]); omega) | (simp; done) | (simp; omega) | omega))) | (refine Below.setCell ?_ ?_ _; rotate_left; (focus (first | exact Nat.lt_succ_self _ | ((repeat rw [World.size_alloc]); omega) | (simp; done) | (simp; omega) | omega))) | (refine Below.then' ?_ (by assumption) ?_; rotate_left; (focus (first | exact Nat.lt_succ_self _ | ((repeat rw [World.size_alloc]); omega) | (simp; done) | (simp; omega) | omega))) | fail)); (first | done | fail)))).mono ?_; rintro e w12 ⟨A12, c12, rfl, hG12⟩; have hb12 := hG12.2.2) | (go_at_call_of 69 (Value.slice a.a3 r.started.length a.c3); refine (HR2.out A12 c12 _ (hG12.stay (by (repeat (first | exact Below.refl _ _ | assumption | (refine Below.allocT ?_ _) | refine Below.drew ?_ | refine below_drewN ?_ _ | (refine Below.then ?_ (by assumption)) | (refine Below.setRow ?_ ?_ _; rotate_left; (focus (first | exact Nat.lt_succ_self _ | ((repeat rw [World.size_alloc]); omega) | (simp; done) | (simp; omega) | omega))) | (refine Below.setCell ?_ ?_ _; rotate_left; (focus (first | exact Nat.lt_succ_self _ | ((repeat rw [World.size_alloc]); omega) | (simp; done) | (simp; omega) | omega))) | (refine Below.then' ?_ (by assumption) ?_; rotate_left; (focus (first | exact Nat.lt_succ_self _ | ((repeat rw [World.size_alloc]); omega) | (simp; done) | (simp; omega) | omega))) | fail)); (first | done | fail)))).mono ?_; rintro e w13 ⟨A13, c13, rfl, hG13⟩; have hb13 := hG13.2.2) | (go_at_call_of 69 (Value.slice a.a4 r.done.length a.c4); refine (HR3.out A13 c13 _ (hG13.stay (by (repeat (first | exact Below.refl _ _ | assumption | (refine Below.allocT ?_ _) | refine Below.drew ?_ | refine below_drewN ?_ _ | (refine Below.then ?_ (by assumption)) | (refine Below.setRow ?_ ?_ _; rotate_left; (focus (first | exact Nat.lt_succ_self _ | ((repeat rw [World.size_alloc]); omega) | (simp; done) | (simp; omega) | omega))) | (refine Below.setCell ?_ ?_ _; rotate_left; (focus (first | exact Nat.lt_succ_self _ | ((repeat rw [World.size_alloc]); omega) | (simp; done) | (simp; omega) | omega))) | (refine Below.then' ?_ (by assumption) ?_; rotate_left; (focus (first | exact Nat.lt_succ_self _ | ((repeat rw [World.size_alloc]); omega) | (simp; done) | (simp; omega) | omega))) | fail)); (first | done | fail)))).mono ?_; rintro e w14 ⟨A14, c14, rfl, hG14⟩; have hb14 := hG14.2.2))
    have HGE := Lib.hid hG14
    go_wp2_with fail
    go_ret
    rw [← HAll.out]
    exact (HGE.out.widen HB0.out).ret
end Go.Proofs.Ytnakkjgnjffkpaa

/-
  Lists of numbers that a call owns; what share.Split answers, as a list.
-/
import Derived.Test.YtkfbnaafpikgfaaSplit2
namespace Go.Proofs.Ytkfbnaafpikgfaa
open Go.RowKit Go.Shelf
set_option linter.unusedVariables false

/-! ### The plain law of parts -/
theorem total_cons (x : Nat) (r : List Nat) : total (x :: r) = x + total r := by
  unfold total; rw [List.foldl_cons, foldl_add]; omega
theorem le_total {xs : List Nat} {x : Nat} (h : x ∈ xs) : x ≤ total xs := by
  induction xs with
  | nil => cases h
  | cons y r ih =>
    rw [total_cons]
    rcases List.mem_cons.1 h with rfl | h
    · omega
    · have := ih h; omega
def partN (t W x : Nat) : Nat := if W = 0 then 0 else t * x / W
def partsN (t : Nat) (xs : List Nat) : List Nat := xs.map (partN t (total xs))
theorem parts_le (t W : Nat) (xs : List Nat) (hW : 0 < W) : total (xs.map (partN t W)) * W ≤ t * total xs := by
  induction xs with
  | nil => simp [total]
  | cons x r ih =>
    rw [List.map_cons, total_cons, total_cons, Nat.add_mul, Nat.mul_add]
    have h1 : partN t W x * W ≤ t * x := by
      unfold partN
      rw [if_neg (by omega)]
      exact Nat.div_mul_le_self _ _
    omega
theorem partsN_le (t : Nat) (xs : List Nat) : total (partsN t xs) ≤ t := by
  unfold partsN
  rcases Nat.eq_zero_or_pos (total xs) with h0 | hp
  · have : ∀ l : List Nat, total (l.map (partN t (total xs))) = 0 := fun l => by
      induction l with
      | nil => rfl
      | cons x r ih => rw [List.map_cons, total_cons, ih]; simp [partN, h0]
    rw [this]; omega
  · have h := parts_le t (total xs) xs hp
    exact Nat.le_of_mul_le_mul_right h hp
theorem partN_le {t W x : Nat} (h : x ≤ W) : partN t W x ≤ t := by
  unfold partN
  split
  · omega
  · rename_i h0
    have h1 : t * x ≤ t * W := Nat.mul_le_mul_left _ h
    have h2 := Nat.div_le_div_right (c := W) h1
    rwa [Nat.mul_div_cancel _ (by omega)] at h2
theorem restM_sub {M : Nat} : ∀ (l : List (Nat × U64n)) (t : Nat), t < M → total (l.map fun x => x.2.1) ≤ t → restM M t l = t - total (l.map fun x => x.2.1)
  | [], t, _, _ => by simp [restM, total]
  | x :: r, t, ht, hs => by
    rw [List.map_cons, total_cons] at hs
    have e : restM M t (x :: r) = restM M ((t + M - x.2.1) % M) r := rfl
    have e2 : (t + M - x.2.1) % M = t - x.2.1 := by
      rw [show t + M - x.2.1 = (t - x.2.1) + M by omega, Nat.add_mod_right]
      exact Nat.mod_eq_of_lt (by omega)
    rw [e, e2, restM_sub r (t - x.2.1) (by omega) (by omega), List.map_cons, total_cons]
    omega
theorem map_range_getD {α : Type} (xs : List Nat) (g : Nat → α) : (List.range xs.length).map (fun j => g (xs.getD j 0)) = xs.map g := by
  apply List.ext_getElem
  · simp
  · intro i h1 h2
    simp at h1
    simp [h1]
theorem partU_part {t W x : Nat} (ht : t < 18446744073709551616) (h : x ≤ W) : (partU t W x).1 = partN t W x := by
  have h1 := partN_le (t := t) h
  show (if 0 < W then quoV (t * x) W else 0) = partN t W x
  unfold partN at h1 ⊢
  split
  · rename_i hW
    rw [if_neg (by omega)] at h1 ⊢
    unfold quoV
    rw [if_neg (by omega)]
    exact fit_le (by omega)
  · rw [if_pos (by omega)]
theorem parts_map {t : Nat} {xs : List Nat} (ht : t < 18446744073709551616) : (uptoP (partAt t (total xs) xs) xs.length).map (fun x => x.2.1) = partsN t xs := by
  unfold uptoP partsN
  rw [List.map_map]
  have h1 := map_range_getD xs (fun x => (partU t (total xs) x).1)
  refine Eq.trans h1 ?_
  exact List.map_congr_left fun x hx => partU_part ht (le_total hx)
theorem wholeE_cases (xs : List Nat) : wholeE xs = 0 ∨ wholeE xs = 40 := by unfold wholeE; split; right; rfl; split; left; rfl; right; rfl
theorem wholeE_zero {xs : List Nat} (h : wholeE xs = 0) : xs.length ≤ 256 ∧ total xs ≤ 18446744073709551615 ∧ wholeT xs = total xs := by
  unfold wholeE at h
  split at h
  · cases h
  · split at h
    · rename_i h1 h2
      exact ⟨by omega, h2, by unfold wholeT; rw [if_neg h1, fit_le h2]⟩
    · cases h
def partsV (t : Nat) (xs : List Nat) : List Nat := if wholeE xs = 0 then partsN t xs else []
def leftV (t : Nat) (xs : List Nat) : Nat := if wholeE xs = 0 then t - total (partsN t xs) else 0
/-! ### Lists that a call owns -/
def OwnL (W : World) (B : Nat) (v : Value) (l : List Nat) : Prop := W.ownsRow B 22 1 v l.length (l.map fun x : Nat => Value.int .u64 ((x : Nat) : Int))
theorem OwnL.nil (W : World) (B : Nat) : OwnL W B (.slice none 0 0) [] := World.ownsRow_nil _ _ _ _
theorem OwnL.base {W : World} {b b' : Nat} {v : Value} {l : List Nat} (h : OwnL W b v l) (hb : b' ≤ b) : OwnL W b' v l := ownsRow_base h hb
theorem OwnL.stay {W W' : World} {B : Nat} {v : Value} {l : List Nat} (h : OwnL W B v l) (hb : Below W.heap.size W W') : OwnL W' B v l := h.kept (grown_of_below hb) (by cases v.ownBlock <;> simp)
theorem OwnL.form {W : World} {B : Nat} {v : Value} {l : List Nat} (h : OwnL W B v l) : ∃ A c, v = .slice A l.length c ∧ U64s W A l ∧ (∀ x, A = some x → B ≤ x.block ∧ x.block < W.heap.size) ∧ l.length ≤ 9223372036854775807 := by
  rcases h.2 with ⟨rfl, h0⟩ | ⟨g, cap, cur, rfl, hg, hb, hn, hm, hs, ht⟩
  · exact ⟨none, 0, by rw [h0], fun hp => by omega, (fun x hx => by cases hx), by omega⟩
  · have hlt := (Array.getElem?_eq_some_iff.1 hb).1
    refine ⟨some ⟨g, 0, none⟩, cap, rfl, fun _ => ⟨g, 0, rfl, hlt, fun i hi => ?_⟩, (fun x hx => by cases hx; exact ⟨hg, hlt⟩), by unfold maxLen at hm; omega⟩
    have hc := cell_of_row W g (0 + i) cur 22 (0, 0) hb
    rw [hc]
    have h1 : (cur.toList.take (l.length * 1))[i]? = (l.map fun x : Nat => Value.int .u64 ((x : Nat) : Int))[i]? := by rw [ht]
    rw [List.getElem?_take_of_lt (by omega), List.getElem?_map, List.getElem?_eq_getElem hi] at h1
    rw [Nat.zero_add, ← Array.getElem?_toList, h1, List.getD_eq_getElem?_getD, List.getElem?_eq_getElem hi]
    rfl
set_option maxRecDepth 100000 in
set_option maxHeartbeats 1000000 in
theorem split_no (t n c : Nat) (A : Option Addr) (xs : List Nat) (hx : ∀ i, xs.getD i 0 < 18446744073709551616) (hn : xs.length = n) (hm : n ≤ 9223372036854775807) (he : wholeE xs = 40) (w : World) (hU : U64s w A xs) :
    Calls Try.prog 55 #[.int .u64 t, .slice A n c] w fun e W' => e = .returned (.tuple #[.slice none 0 0, .int .u64 0, .int .i64 40]) ∧ Below w.heap.size w W' := by
  have HW := Lib.hid (fun W h => swhole_any A xs n c hn hx hm W h)
  rw [he] at HW
  generalize wholeT xs = wt at *
  have HU := Lib.hid hU
  clear he hU hx hn
  refine (callsIn_wide (n := 4)).1 ?_
  refine callsIn_of_wp_marks Try.func55 rfl trivial ?_ rfl
  simp only [Try.ntmps55, List.size_toArray, List.length_cons, List.length_nil, Nat.reduceAdd, Nat.reduceSub, Array.replicate_succ, Array.replicate_zero, List.push_toArray, List.append_toArray, List.nil_append, List.cons_append]
  gi_wp2
  refine ⟨trivial, (callsIn_wide.2 (HW.out _ ((HU.out.below ((Below.refl _ w).alloc (Nat.le_refl _) _) (Nat.le_refl _)).below ((Below.refl _ _).alloc (Nat.le_refl _) _) (Nat.le_refl _)))).mono ?_⟩
  rintro e w1 ⟨rfl, rfl⟩
  gi_wp2
  have k1 : ((w.alloc (.cells #[.slice none 0 0] 43)).alloc (.cells #[.int .u64 0] 22)).cell? ⟨w.heap.size, 0, none⟩ = some (.slice none 0 0) := row_cell (cs := #[.slice none 0 0]) ((row_past _ _ _ (by simp)).trans (row_at _ _ _ _ rfl)) 0
  have k2 : ((w.alloc (.cells #[.slice none 0 0] 43)).alloc (.cells #[.int .u64 0] 22)).cell? ⟨w.heap.size + 1, 0, none⟩ = some (.int .u64 0) := row_cell (cs := #[.int .u64 0]) (row_at _ _ _ _ (by simp)) 0
  exact ⟨_, results_two_cells rfl _ _ ⟨w.heap.size, 0, none⟩ ⟨w.heap.size + 1, 0, none⟩ _ _ rfl rfl (run_load1 Try.underlying43 rfl k1) (run_load1 Try.underlying22 rfl k2), rfl, (by (repeat (first | exact Below.refl _ _ | assumption | (refine Below.allocT ?_ _) | refine Below.drew ?_ | refine below_drewN ?_ _ | (refine Below.then ?_ (by assumption)) | (refine Below.setRow ?_ ?_ _; rotate_left; (focus (first | exact Nat.lt_succ_self _ | ((repeat rw [World.size_alloc]); omega) | (simp; done) | (simp; omega) | omega))) | (refine Below.setCell ?_ ?_ _; rotate_left; (focus (first | exact Nat.lt_succ_self _ | ((repeat rw [World.size_alloc]); omega) | (simp; done) | (simp; omega) | omega))) | (refine Below.then' ?_ (by assumption) ?_; rotate_left; (focus (first | exact Nat.lt_succ_self _ | ((repeat rw [World.size_alloc]); omega) | (simp; done) | (simp; omega) | omega))) | fail)); (first | done | fail))⟩
/-- What share.Split answers: a list of its own, and what is left. -/
def SplitPost (w : World) (t : Nat) (xs : List Nat) (e : Ending) (W' : World) : Prop := ∃ v, e = .returned (.tuple #[v, .int .u64 ((leftV t xs : Nat) : Int), .int .i64 (wholeE xs)]) ∧ OwnL W' w.heap.size v (partsV t xs) ∧ Below w.heap.size w W'
theorem splitl_any (t n c : Nat) (A : Option Addr) (xs : List Nat) (ht : t < 18446744073709551616) (hx : ∀ i, xs.getD i 0 < 18446744073709551616) (hn : xs.length = n) (hm : n ≤ 9223372036854775807) (w : World) (hU : U64s w A xs) (hA : 0 < n → ∀ x, A = some x → x.block < w.heap.size) :
    Calls Try.prog 55 #[.int .u64 t, .slice A n c] w (SplitPost w t xs) := by
  rcases wholeE_cases xs with he | he
  · obtain ⟨h1, h2, h3⟩ := wholeE_zero he
    refine (split_any t n c (total xs) A xs ht (by omega) hx hn (by omega) h3 he w hU hA).mono ?_
    rintro e W' ⟨v, rfl, hown, _, hb⟩
    have hpm := parts_map (xs := xs) ht
    rw [hn] at hpm
    have hrest : restF t (uptoP (partAt t (total xs) xs) n) = t - total (partsN t xs) := by
      unfold restF
      rw [restM_sub _ t ht (by rw [hpm]; exact partsN_le t xs), hpm]
    refine ⟨v, by rw [hrest, he]; simp [leftV, he], ?_, hb⟩
    have hl : (partsV t xs).length = n := by simp [partsV, he, partsN, hn]
    unfold OwnL
    rw [hl, show partsV t xs = partsN t xs by simp [partsV, he], ← hpm, List.map_map]
    exact hown
  · refine (split_no t n c A xs hx hn hm he w hU).mono ?_
    rintro e W' ⟨rfl, hb⟩
    refine ⟨.slice none 0 0, by rw [he]; simp [leftV, he], ?_, hb⟩
    rw [show partsV t xs = [] by simp [partsV, he]]
    exact OwnL.nil _ _
def sameB (xs ys : List Nat) : Bool := decide (xs = ys)
theorem take_eq_of {xs ys : List Nat} {i : Nat} (h : xs.take i = ys.take i) (h1 : i < xs.length) (h2 : i < ys.length) (he : xs.getD i 0 = ys.getD i 0) : xs.take (i + 1) = ys.take (i + 1) := by
  rw [List.take_succ_eq_append_getElem h1, List.take_succ_eq_append_getElem h2, h]
  congr 2
  simpa [List.getD_eq_getElem?_getD, h1, h2] using he
set_option maxHeartbeats 2000000 in
theorem same_any (A1 A2 : Option Addr) (xs ys : List Nat) (n c m d : Nat) (hn : xs.length = n) (hm : ys.length = m) (h1 : n ≤ 9223372036854775807) (h2 : m ≤ 9223372036854775807) (w : World) (hU : U64s w A1 xs) (hV : U64s w A2 ys) :
    Calls Try.prog 27 #[.slice A1 n c, .slice A2 m d] w fun e w' => e = .returned (.bool (sameB xs ys)) ∧ Below w.heap.size w w' := by
  by_cases hnm : n = m
  · subst hnm
    have HN := Lib.hid hn
    have HM := Lib.hid hm
    clear hn hm
    go_enter Try.func27, Try.ntmps27
    go_wp2_with fail
    go_loopw [5] (fun x wr => ∃ i : Nat, x = .int .i64 i ∧ i ≤ n ∧ Hid (xs.take i = ys.take i) ∧ Below w.heap.size w wr) (fun x _ => n - (intOf x).toNat)
    case atStart => exact ⟨0, rfl, by omega, Lib.hid rfl, Below.refl _ _⟩
    case round =>
      obtain ⟨i, rfl, hi, hT, hB⟩ := hrel
      by_cases hlt : i < n
      · obtain ⟨b1, o1, rfl, g1, c1⟩ := (hU.below hB (Nat.le_refl _)) (by rw [HN.out]; omega)
        obtain ⟨b2, o2, rfl, g2, c2⟩ := (hV.below hB (Nat.le_refl _)) (by rw [HM.out]; omega)
        have k1 := c1 i (by rw [HN.out]; omega)
        have k2 := c2 i (by rw [HM.out]; omega)
        have HS : Hid (xs.getD i 0 = ys.getD i 0 → xs.take (i + 1) = ys.take (i + 1)) := Lib.hid (take_eq_of hT.out (by rw [HN.out]; exact hlt) (by rw [HM.out]; exact hlt))
        have HX : Hid (xs.getD i 0 ≠ ys.getD i 0 → sameB xs ys = false) := Lib.hid fun hne => by
          unfold sameB
          exact decide_eq_false (fun h => hne (by rw [h]))
        generalize xs.getD i 0 = x at *
        generalize ys.getD i 0 = y at *
        have z1 : (0 : Int) ≤ (i : Int) := by omega
        have z2 : (i : Int) < (n : Int) := by omega
        clear c1 c2 hU hV
        by_cases hxy : x = y
        · subst hxy
          have HS2 := Lib.hid (HS.out rfl)
          clear HS HX
          go_wp2_with fail
          go_quiet (fail)
          go_wp2_with fail
          exact ⟨⟨i + 1, by go_num, by omega, HS2, (by (repeat (first | exact Below.refl _ _ | assumption | (refine Below.allocT ?_ _) | refine Below.drew ?_ | refine below_drewN ?_ _ | (refine Below.then ?_ (by assumption)) | (refine Below.setRow ?_ ?_ _; rotate_left; (focus (first | exact Nat.lt_succ_self _ | ((repeat rw [World.size_alloc]); omega) | (simp; done) | (simp; omega) | omega))) | (refine Below.setCell ?_ ?_ _; rotate_left; (focus (first | exact Nat.lt_succ_self _ | ((repeat rw [World.size_alloc]); omega) | (simp; done) | (simp; omega) | omega))) | (refine Below.then' ?_ (by assumption) ?_; rotate_left; (focus (first | exact Nat.lt_succ_self _ | ((repeat rw [World.size_alloc]); omega) | (simp; done) | (simp; omega) | omega))) | fail)); (first | done | fail))⟩, by simp [intOf]; omega⟩
        · have HX2 := Lib.hid (HX.out hxy)
          have hb : ((x : Int) != (y : Int)) = true := bne_iff_ne.2 (by omega)
          clear HS HX hxy
          go_wp2_with fail
          go_quiet (fail)
          go_wp2_with fail
          go_ret
          exact ⟨by rw [HX2.out]; rfl, (by (repeat (first | exact Below.refl _ _ | assumption | (refine Below.allocT ?_ _) | refine Below.drew ?_ | refine below_drewN ?_ _ | (refine Below.then ?_ (by assumption)) | (refine Below.setRow ?_ ?_ _; rotate_left; (focus (first | exact Nat.lt_succ_self _ | ((repeat rw [World.size_alloc]); omega) | (simp; done) | (simp; omega) | omega))) | (refine Below.setCell ?_ ?_ _; rotate_left; (focus (first | exact Nat.lt_succ_self _ | ((repeat rw [World.size_alloc]); omega) | (simp; done) | (simp; omega) | omega))) | (refine Below.then' ?_ (by assumption) ?_; rotate_left; (focus (first | exact Nat.lt_succ_self _ | ((repeat rw [World.size_alloc]); omega) | (simp; done) | (simp; omega) | omega))) | fail)); (first | done | fail))⟩
      · obtain rfl : i = n := by omega
        have HR : Hid (sameB xs ys = true) := Lib.hid (by
          have h := hT.out
          rw [List.take_of_length_le (by rw [HN.out]; exact Nat.le_refl _), List.take_of_length_le (by rw [HM.out]; exact Nat.le_refl _)] at h
          exact decide_eq_true h)
        clear hU hV
        go_wp2_with fail
        go_ret
        exact ⟨by rw [HR.out]; rfl, hB⟩
  · have HR : Hid (sameB xs ys = false) := Lib.hid (decide_eq_false (fun h => hnm (by rw [← hn, ← hm, h])))
    have hb : ((n : Int) != (m : Int)) = true := bne_iff_ne.2 (by omega)
    clear hU hV hn hm hnm
    go_enter Try.func27, Try.ntmps27
    go_wp2_with fail
    go_ret
    exact ⟨by rw [HR.out]; rfl, Below.refl _ _⟩
end Go.Proofs.Ytkfbnaafpikgfaa

/-
  Motions opened: the first that is over; moot.Open.
-/
import Derived.Test.YtnakkjgnjffkpaaMoot3
import Derived.Test.YtnakkjgnjffkpaaDed2
namespace Go.Proofs.Ytnakkjgnjffkpaa
open Go.RowKit
set_option linter.unusedVariables false

def overM (m : Mot) : Bool := decide (m.state = 3 ∨ m.state = 4)
/-- The place of the first motion that is over; behind the last one, if none is. -/
def placeL : List Mot → Nat
  | [] => 0
  | m :: r => if overM m then 0 else placeL r + 1
theorem placeL_le : ∀ L : List Mot, placeL L ≤ L.length
  | [] => Nat.le_refl _
  | m :: r => by
    rw [placeL]
    have := placeL_le r
    split
    · exact Nat.zero_le _
    · rw [List.length_cons]; omega
theorem placeL_here : ∀ (L : List Mot) (j : Nat) (m : Mot), (∀ x ∈ L.take j, overM x = false) → L[j]? = some m → overM m = true → placeL L = j
  | [], j, m, _, h, _ => by simp at h
  | y :: r, 0, m, _, h, ho => by
    simp at h; subst h
    rw [placeL, if_pos ho]
  | y :: r, j + 1, m, hf, h, ho => by
    have hy : overM y = false := hf y (by simp)
    rw [placeL, hy]
    simp only [Bool.false_eq_true, if_false]
    rw [placeL_here r j m (fun x hx => hf x (by simp [hx])) (by simpa using h) ho]
theorem placeL_none : ∀ (L : List Mot), (∀ x ∈ L, overM x = false) → placeL L = L.length
  | [], _ => rfl
  | y :: r, hf => by
    rw [placeL, hf y (by simp)]
    simp only [Bool.false_eq_true, if_false]
    rw [placeL_none r (fun x hx => hf x (by simp [hx])), List.length_cons]
theorem over_any (m : Mot) (a : MotA) (w : World) : Calls Try.prog 85 #[.agg (motC (m, a))] w fun e w' => e = .returned (.bool (overM m)) ∧ Below w.heap.size w w' := by
  have r0 : row (w.alloc (.cells (motC (m, a)) 103)) w.heap.size = some (motC (m, a)) := (by (repeat (first | assumption | (refine row_at _ _ _ _ ?_; first | rfl | (simp only [World.size_alloc]; done) | (simp only [World.size_alloc]; omega)) | (refine (row_past _ _ _ ?_).trans ?_; (focus (first | exact Nat.lt_succ_self _ | ((repeat rw [World.size_alloc]); omega) | (simp; done) | (simp; omega) | omega))) | rw [row_drewN] | rw [row_drew])); (first | done | fail))
  have hB0 : Below w.heap.size w (w.alloc (.cells (motC (m, a)) 103)) := (by (repeat (first | exact Below.refl _ _ | assumption | (refine Below.allocT ?_ _) | refine Below.drew ?_ | refine below_drewN ?_ _ | (refine Below.then ?_ (by assumption)) | (refine Below.setRow ?_ ?_ _; rotate_left; (focus (first | exact Nat.lt_succ_self _ | ((repeat rw [World.size_alloc]); omega) | (simp; done) | (simp; omega) | omega))) | (refine Below.setCell ?_ ?_ _; rotate_left; (focus (first | exact Nat.lt_succ_self _ | ((repeat rw [World.size_alloc]); omega) | (simp; done) | (simp; omega) | omega))) | (refine Below.then' ?_ (by assumption) ?_; rotate_left; (focus (first | exact Nat.lt_succ_self _ | ((repeat rw [World.size_alloc]); omega) | (simp; done) | (simp; omega) | omega))) | fail)); (first | done | fail))
  have c0 : (w.alloc (.cells (motC (m, a)) 103)).cell? ⟨w.heap.size, 30, none⟩ = some (.int .i64 m.state) := row_cell r0 30
  have HB := Lib.hid hB0
  clear r0 hB0
  by_cases h3 : m.state = 3
  · have HV : Hid (overM m = true) := Lib.hid (decide_eq_true (.inl h3))
    rw [h3] at c0
    go_enter Try.func85, Try.ntmps85
    go_wp2_with fail
    go_ret
    exact ⟨by rw [HV.out]; rfl, HB.out⟩
  by_cases h4 : m.state = 4
  · have HV : Hid (overM m = true) := Lib.hid (decide_eq_true (.inr h4))
    rw [h4] at c0
    go_enter Try.func85, Try.ntmps85
    go_wp2_with fail
    go_ret
    exact ⟨by rw [HV.out]; rfl, HB.out⟩
  have HV : Hid (overM m = false) := Lib.hid (decide_eq_false (fun h => h.elim h3 h4))
  have e3 : (m.state == 3) = false := beq_eq_false_iff_ne.2 h3
  have e4 : (m.state == 4) = false := beq_eq_false_iff_ne.2 h4
  clear h3 h4
  go_enter Try.func85, Try.ntmps85
  go_wp2_with fail
  go_ret
  exact ⟨by rw [HV.out]; rfl, HB.out⟩
def idxI (L : List Mot) : Int := if placeL L < L.length then (placeL L : Int) else -1
set_option maxRecDepth 100000 in
set_option maxHeartbeats 4000000 in
theorem index_any (A : Option Addr) (n c : Nat) (xs : List (Mot × MotA)) (hn : xs.length = n) (hm : n ≤ 90000) (w : World) (hX : SliceOf 33 motC w A xs) : Calls Try.prog 84 #[.slice A n c, .func (.func 85) #[] #[]] w fun e w' => e = .returned (.int .i64 (idxI (xs.map (·.1)))) ∧ Below w.heap.size w w' := by
  have HX := Lib.hid hX
  have HN := Lib.hid hn
  clear hX hn
  go_enter Try.func84, Try.ntmps84
  go_wp2_with fail
  go_loopw [8] (fun i wr => ∃ j : Nat, i = .int .i64 j ∧ j ≤ n ∧ Hid ((∀ x ∈ (xs.map (·.1)).take j, overM x = false) ∧ Below w.heap.size w wr)) (fun i _ => n - (intOf i).toNat)
  case atStart => exact ⟨0, rfl, by omega, Lib.hid ⟨by simp, Below.refl _ _⟩⟩
  case round =>
    obtain ⟨j, rfl, hj, hH⟩ := hrel
    by_cases hlt : j < n
    · obtain ⟨b, off, rfl, hbb, hcell⟩ := HX.out (by rw [HN.out]; omega)
      obtain ⟨⟨m, a⟩, hx⟩ : ∃ x, xs[j]? = some x := ⟨_, List.getElem?_eq_getElem (by rw [HN.out]; exact hlt)⟩
      have hr := range_below (hcell j _ hx) hH.out.2 hbb
      have hi : (Try.prog.info? 103).map (·.size) = some (motC (m, a)).toList.length := by rw [mot_info]; rfl
      have HXj : Hid ((xs.map (·.1))[j]? = some m) := Lib.hid (by rw [List.getElem?_map, hx]; rfl)
      have z1 : (0 : Int) ≤ (j : Int) := by omega
      have z2 : (j : Int) < (n : Int) := by omega
      have HO := Lib.hid (fun W => over_any m a W)
      generalize ho : overM m = o at *
      have HOv := Lib.hid ho
      clear hcell hx ho
      go_wp2_with (refine wpList_load_mid rfl 103 _ (by rfl) b (off + j * 33) (by rfl) (motC (m, a)).toList _ hr mot_under rfl hi ?_)
      refine (HO.out _).mono ?_
      rintro e w2 ⟨rfl, hb2⟩
      have HB2 := Lib.hid (Below.then hH.out.2 hb2)
      clear hb2 hr hi
      cases o
      · have HI : Hid ((∀ x ∈ (xs.map (·.1)).take (j + 1), overM x = false) ∧ Below w.heap.size w w2) := Lib.hid ⟨fun y hy => by
          obtain ⟨hjl, hjz⟩ := List.getElem?_eq_some_iff.1 HXj.out
          rw [List.take_succ_eq_append_getElem hjl, hjz] at hy
          rcases List.mem_append.1 hy with hy | hy
          · exact hH.out.1 y hy
          · rw [List.mem_singleton] at hy; subst hy; exact HOv.out, HB2.out⟩
        go_wp2_with fail
        exact ⟨⟨j + 1, by go_num, by omega, HI⟩, by simp [intOf]; omega⟩
      · have HV : Hid (idxI (xs.map (·.1)) = (j : Int)) := Lib.hid (by
          have h := placeL_here _ j m hH.out.1 HXj.out HOv.out
          unfold idxI
          rw [h, if_pos (by rw [List.length_map, HN.out]; exact hlt)])
        go_wp2_with fail
        go_ret
        exact ⟨by rw [HV.out]; rfl, HB2.out⟩
    · obtain rfl : j = n := by omega
      have HV : Hid (idxI (xs.map (·.1)) = -1) := Lib.hid (by
        have hall := hH.out.1
        rw [List.take_of_length_le (by rw [List.length_map, HN.out]; exact Nat.le_refl _)] at hall
        unfold idxI
        rw [placeL_none _ hall, if_neg (Nat.lt_irrefl _)])
      go_wp2_with fail
      go_ret
      exact ⟨by rw [HV.out]; rfl, hH.out.2⟩
end Go.Proofs.Ytnakkjgnjffkpaa

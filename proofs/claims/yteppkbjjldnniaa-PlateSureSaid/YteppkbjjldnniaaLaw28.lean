/-
  Layer 28: a sector of one byte; few; the chapter's example.
-/
import Derived.Test.YteppkbjjldnniaaPlate8
import Derived.Test.YteppkbjjldnniaaOpenP
import Derived.Test.YteppkbjjldnniaaRef05
namespace Go.Proofs.Yteppkbjjldnniaa
open Go.RowKit
set_option linter.unusedVariables false

def fullS (b : Nat) : Sec := ⟨List.replicate 64 b, by simp⟩
def fillA (b j : Nat) : Array Value := (List.replicate j (Value.int .u8 (b : Int)) ++ List.replicate (64 - j) (Value.int .u8 0)).toArray
theorem fillA_end (b : Nat) : fillA b 64 = (secC (fullS b)).toArray := by
  unfold fillA secC fullS
  simp
theorem fillA_get (b j k : Nat) (h : j ≤ 64) : (fillA b j)[k]? = if k < 64 then some (if k < j then .int .u8 (b : Int) else .int .u8 0) else none := by
  unfold fillA
  rw [List.getElem?_toArray, List.getElem?_append, List.length_replicate]
  by_cases h1 : k < j
  · rw [if_pos h1, List.getElem?_replicate, if_pos h1, if_pos (by omega), if_pos h1]
  · rw [if_neg h1, List.getElem?_replicate]
    by_cases h2 : k < 64
    · rw [if_pos (by omega), if_pos h2, if_neg h1]
    · rw [if_neg (by omega), if_neg h2]
theorem fillA_set (b j : Nat) (h : j < 64) : (fillA b j).setIfInBounds j (.int .u8 (b : Int)) = fillA b (j + 1) := by
  apply Array.ext_getElem?
  intro k
  have hsz : (fillA b j).size = 64 := by unfold fillA; simp; omega
  rw [Array.getElem?_setIfInBounds, fillA_get b j k (by omega), fillA_get b (j + 1) k (by omega), hsz]
  by_cases h1 : j = k
  · subst h1
    rw [if_pos rfl, if_pos h, if_pos h, if_pos (by omega)]
  · rw [if_neg h1]
    by_cases h3 : k < 64
    · rw [if_pos h3, if_pos h3]
      by_cases h2 : k < j
      · rw [if_pos h2, if_pos (by omega)]
      · rw [if_neg h2, if_neg (by omega)]
    · rw [if_neg h3, if_neg h3]
def FullPost (b : Nat) (w : World) (e : Ending) (w' : World) : Prop := ∃ g, e = .returned (.slice (some ⟨g, 0, none⟩) 64 64) ∧ w.heap.size ≤ g ∧ row w' g = some (secC (fullS b)).toArray ∧ Below w.heap.size w w'
set_option maxRecDepth 100000 in
set_option maxHeartbeats 2000000 in
theorem full_any (b : Nat) (w : World) : Calls Try.prog 44 #[.int .u8 (b : Int)] w (FullPost b w) := by
  obtain ⟨i0, hi, hz0, hz1, hz2⟩ := info_parts u8_info
  go_enter Try.func44, Try.ntmps44
  go_wp2_with (at_make; refine wpList_make_full w rfl _ _ 22 rfl 0 5 i0 (.int .u8 0) 1 u8s_under hi hz0 hz1 .i64 .i64 64 64 64 (by rfl) (by rfl) rfl rfl (by rw [hz2]; omega) (by unfold maxLen; omega) (Nat.zero_le _) ?_; intro w1 hown hg; have HO := Lib.hid hown; have HG := Lib.hid hg; clear hown hg)
  have hb1 : Below w.heap.size w w1 := (Below.refl _ w).grown HG.out (Nat.le_refl _) (fun k hk => by cases hk)
  have hr0 : row w1 w.heap.size = some (fillA b 0) := by
    rcases HO.out.2 with ⟨_, h0⟩ | ⟨gs, cap, cur, hv, _, hheap, _, _, hsz, htake⟩
    · omega
    · simp only [Value.slice.injEq, Option.some.injEq, Addr.mk.injEq, true_and, and_true] at hv
      obtain ⟨e1, e2⟩ := hv
      have h3 : cur.toList = List.replicate 64 (Value.int .u8 0) := by
        rw [List.take_of_length_le (by rw [Array.length_toList, hsz]; omega)] at htake
        rw [htake]
        exact toList_madeCells_one _ _
      rw [e1]
      unfold Go.Proofs.Yteppkbjjldnniaa.row
      rw [hheap]
      show some cur = _
      congr 1
      rw [← Array.toArray_toList (xs := cur), h3]
      unfold fillA
      simp
  clear HO HG
  go_loopw [8] (fun i wr => ∃ j : Nat, i = .int .i64 j ∧ j ≤ 64 ∧ Hid (row wr w.heap.size = some (fillA b j) ∧ Below w.heap.size w wr)) (fun i _ => 64 - (intOf i).toNat)
  case atStart => exact ⟨0, rfl, by omega, Lib.hid ⟨hr0, hb1⟩⟩
  case round =>
    obtain ⟨j, rfl, hj, hH⟩ := hrel
    by_cases hlt : j < 64
    · have hfs := fillA_set b j hlt
      have hsz : (fillA b j).size = 64 := by unfold fillA; simp; omega
      obtain ⟨v, hv⟩ : ∃ v, (fillA b j)[j]? = some v := ⟨_, Array.getElem?_eq_getElem (by rw [hsz]; exact hlt)⟩
      have k1 := (row_cell hH.out.1 j).trans hv
      have f1 := row_frozen hH.out.1 j
      have HN := Lib.hid ((row_set hH.out.1 j (.int .u8 (b : Int))).trans (by rw [hfs]))
      have HB := Lib.hid (Below.setCell hH.out.2 (p := ⟨w.heap.size, j, none⟩) (Nat.le_refl _) (.int .u8 (b : Int)))
      have z1 : (0 : Int) ≤ (j : Int) := by omega
      have z2 : (j : Int) < 64 := by omega
      clear hfs hsz hv hH hr0 hb1
      go_wp2_with fail
      exact ⟨⟨j + 1, by go_num, by omega, Lib.hid ⟨HN.out, HB.out⟩⟩, by simp [intOf]; omega⟩
    · obtain rfl : j = 64 := by omega
      go_wp2_with fail
      go_ret
      exact ⟨w.heap.size, rfl, Nat.le_refl _, by rw [← fillA_end]; exact hH.out.1, hH.out.2⟩
def fewP (xs : List Op28) (most : Int) : Bool := decide ((∀ o ∈ xs, o.keep.length ≤ 100) ∧ (xs.length : Int) ≤ most)
set_option maxHeartbeats 2000000 in
theorem few28_any (A : Option Addr) (n c : Nat) (xs : List Op28) (most : Int) (hn : xs.length = n) (hm : n ≤ 9223372036854775807) (hl : ∀ x ∈ xs, x.keep.length ≤ 9223372036854775807) (w : World) (hU : SliceOf 5 Op28.cells w A xs) :
    Calls Try.prog 39 #[.slice A n c, .int .i64 most] w fun e w' => e = .returned (.bool (fewP xs most)) ∧ Below w.heap.size w w' := by
  have HN := Lib.hid hn
  have HU := Lib.hid hU
  have HLen := Lib.hid hl
  clear hn hU hl
  go_enter Try.func39, Try.ntmps39
  go_wp2_with fail
  go_loopw [9] (fun i wr => ∃ j : Nat, i = .int .i64 j ∧ j ≤ n ∧ Hid (∀ k, k < j → ∀ o, xs[k]? = some o → o.keep.length ≤ 100) ∧ Below w.heap.size w wr) (fun i _ => n - (intOf i).toNat)
  case atStart => exact ⟨0, rfl, by omega, Lib.hid (fun k hk => by omega), Below.refl _ _⟩
  case round =>
    obtain ⟨j, rfl, hj, hI, hB⟩ := hrel
    by_cases hlt : j < n
    · obtain ⟨b, off, rfl, hbb, hcell⟩ := HU.out (by rw [HN.out]; omega)
      obtain ⟨o, hxj⟩ : ∃ o, xs[j]? = some o := ⟨_, List.getElem?_eq_getElem (by rw [HN.out]; omega)⟩
      have hrg := range_below (hcell j _ hxj) hB hbb
      obtain ⟨k0, k1, k2, k3, k4⟩ := op28_cells hrg
      have hlen := HLen.out o (List.mem_of_getElem? hxj)
      have HXJ := Lib.hid hxj
      have HK : Hid (∃ m, m = o.keep.length) := Lib.hid ⟨_, rfl⟩
      obtain ⟨m, hmk⟩ := HK.out
      rw [← hmk] at k4 hlen
      have HMk := Lib.hid hmk
      have z1 : (0 : Int) ≤ (j : Int) := by omega
      have z2 : (j : Int) < (n : Int) := by omega
      clear hcell hrg hxj HK hmk
      by_cases hs : (100 : Int) < (m : Int)
      · have HF : Hid (fewP xs most = false) := Lib.hid (decide_eq_false fun h => by
          have h1 := h.1 o (List.mem_of_getElem? HXJ.out)
          have h2 := HMk.out
          omega)
        go_wp2_with fail
        go_ret
        exact ⟨by rw [HF.out]; rfl, (hB.alloc hB.size _)⟩
      · have HI2 : Hid (∀ k, k < j + 1 → ∀ o, xs[k]? = some o → o.keep.length ≤ 100) := Lib.hid fun k hk o' ho' => by
          rcases Nat.lt_or_ge k j with h | h
          · exact hI.out k h o' ho'
          · obtain rfl : k = j := by omega
            rw [HXJ.out] at ho'
            cases ho'
            have h2 := HMk.out
            omega
        go_wp2_with fail
        exact ⟨⟨j + 1, by go_num, by omega, HI2, (hB.alloc hB.size _)⟩, by simp [intOf]; omega⟩
    · obtain rfl : j = n := by omega
      have HAll : Hid (∀ o ∈ xs, o.keep.length ≤ 100) := Lib.hid fun o ho => by
        obtain ⟨k, hk, rfl⟩ := List.mem_iff_getElem.1 ho
        exact hI.out k (by rw [← HN.out]; exact hk) _ (List.getElem?_eq_getElem hk)
      clear HU
      by_cases h60 : (j : Int) ≤ most
      · have HF : Hid (fewP xs most = true) := Lib.hid (decide_eq_true ⟨HAll.out, by rw [HN.out]; exact h60⟩)
        go_wp2_with fail
        go_ret
        exact ⟨by rw [HF.out]; rfl, hB⟩
      · have HF : Hid (fewP xs most = false) := Lib.hid (decide_eq_false fun h => by have := h.2; rw [HN.out] at this; omega)
        go_wp2_with fail
        go_ret
        exact ⟨by rw [HF.out]; rfl, hB⟩
def SlicePost (w : World) (e : Ending) (w' : World) : Prop := ∃ A n c, e = .returned (.slice A n c) ∧ Below w.heap.size w w'
set_option maxHeartbeats 2000000 in
theorem data28_any (o : Op28) (w : World) : Calls Try.prog 48 #[.agg o.cells] w (SlicePost w) := by
  have r0 : row (w.alloc (.cells o.cells 73)) w.heap.size = some o.cells := row_at _ _ _ _ rfl
  have hB0 : Below w.heap.size w (w.alloc (.cells o.cells 73)) := (by (repeat (first | exact Below.refl _ _ | assumption | (refine Below.allocT ?_ _) | refine Below.drew ?_ | refine below_drewN ?_ _ | (refine Below.then ?_ (by assumption)) | (refine Below.setRow ?_ ?_ _; rotate_left; (focus (first | exact Nat.lt_succ_self _ | ((repeat rw [World.size_alloc]); omega) | (simp; done) | (simp; omega) | omega))) | (refine Below.setCell ?_ ?_ _; rotate_left; (focus (first | exact Nat.lt_succ_self _ | ((repeat rw [World.size_alloc]); omega) | (simp; done) | (simp; omega) | omega))) | (refine Below.then' ?_ (by assumption) ?_; rotate_left; (focus (first | exact Nat.lt_succ_self _ | ((repeat rw [World.size_alloc]); omega) | (simp; done) | (simp; omega) | omega))) | fail)); (first | done | fail))
  have k2 : (w.alloc (.cells o.cells 73)).cell? ⟨w.heap.size, 2, none⟩ = some (.int .u8 o.b) := row_cell r0 2
  have k3 : (w.alloc (.cells o.cells 73)).cell? ⟨w.heap.size, 3, none⟩ = some (.bool o.short) := row_cell r0 3
  clear r0
  cases hs : o.short
  all_goals
    rw [hs] at k3
    go_enter Try.func48, Try.ntmps48
    go_upto_region 1 with fail
    generalize w.alloc (.cells o.cells 73) = w0 at *
    go_wp2_with fail
    refine (full_any o.b _).mono ?_
    rintro e w1 ⟨g, rfl, hg, hr, hb⟩
    have B1 := Lib.hid (Below.then hB0 hb)
    clear hr hb hg
    go_wp2_with fail
    go_ret
    exact ⟨_, _, _, rfl, B1.out⟩
end Go.Proofs.Yteppkbjjldnniaa

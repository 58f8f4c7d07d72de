/-
  A plate is made; what a plate that is none does.
-/
import Derived.Test.YtkkncijbedfdfaaPlate7
namespace Go.Proofs.Ytkkncijbedfdfaa
open Go.RowKit
set_option linter.unusedVariables false

def zSec : Sec := ⟨List.replicate 64 0, by simp⟩
def zSecA : Array Value := (List.replicate 64 (Value.int .u8 0)).toArray
theorem zSec_c : secC zSec = List.replicate 64 (Value.int .u8 0) := by unfold secC zSec; simp
theorem sec_info3 : (Try.prog.info? 79).map (fun i => (i.zero, i.size, i.bytes)) = some (some (.agg zSecA), 64, 64) := by kernel_rfl
theorem secs_under : Try.prog.underlying 34 = some (.slice 79) := by kernel_rfl
theorem made_zero (n k : Nat) (h : k < n) : (madeCells zSecA n)[k]? = some (.int .u8 0) := by
  have hs : zSecA.size = 64 := by simp [zSecA]
  have hk : k % 64 < zSecA.size := by rw [hs]; omega
  unfold madeCells
  rw [Array.getElem?_map, Array.getElem?_range, if_pos h]
  show some (zSecA[k % zSecA.size]!) = _
  rw [hs, getElem!_pos zSecA (k % 64) hk]
  congr 1
  have : zSecA.toList = List.replicate 64 (Value.int .u8 0) := rfl
  have h2 : zSecA[k % 64] ∈ zSecA.toList := Array.getElem_mem_toList ..
  rw [this] at h2
  exact List.eq_of_mem_replicate h2
def newPs (N : Nat) : Ps := ⟨List.replicate N zSec, [], false, 0, [], false⟩
def NewPost (N : Nat) (w : World) (e : Ending) (w' : World) : Prop := ∃ g gs, e = .returned (.tuple #[.pointer (some ⟨g, 0, none⟩), .int .i64 0]) ∧ w.heap.size ≤ g ∧ w.heap.size ≤ gs ∧ PlAt w' g gs (.slice none 0 0) none 0 (newPs N) ∧ Below w.heap.size w w'
set_option maxRecDepth 100000 in
set_option maxHeartbeats 2000000 in
theorem new_any (N : Nat) (h1 : 1 ≤ N) (h2 : N ≤ 16384) (w : World) : Calls Try.prog 16 #[.int .i64 N] w (NewPost N w) := by
  obtain ⟨i0, hi, hz0, hz1, hz2⟩ := info_parts sec_info3
  have y1 : ¬ (N : Int) < 1 := by omega
  have y2 : ¬ (16384 : Int) < (N : Int) := by omega
  go_enter Try.func16, Try.ntmps16
  go_wp2_with (at_make; refine wpList_make_full w rfl _ _ 34 rfl 0 79 i0 (.agg zSecA) 64 secs_under hi hz0 hz1 .i64 .i64 N N N (by rfl) (by rfl) rfl rfl (by rw [hz2]; omega) (by unfold maxLen; omega) (Nat.zero_le _) ?_; intro w1 hown hg)
  go_ret2
  have hb1 : Below w.heap.size w w1 := (Below.refl _ w).grown hg (Nat.le_refl _) (fun k hk => by cases hk)
  rcases hown.2 with ⟨_, h0⟩ | ⟨gs, cap, cur, hv, _, hheap, _, _, _, htake⟩
  · omega
  · simp only [Value.slice.injEq, Option.some.injEq, Addr.mk.injEq, true_and, and_true] at hv
    obtain ⟨e1, e2⟩ := hv
    have hrow : row w1 w.heap.size = some cur := by rw [e1]; unfold Go.Proofs.Ytkkncijbedfdfaa.row; rw [hheap]; rfl
    have hcell : ∀ k, k < N * 64 → w1.cell? ⟨w.heap.size, k, none⟩ = some (.int .u8 0) := fun k hk => by
      rw [row_cell hrow k]
      have h3 : (cur.toList.take (N * 64))[k]? = ((madeCells zSecA (N * 64)).toList)[k]? := by rw [htake]; rfl
      rw [List.getElem?_take_of_lt hk, Array.getElem?_toList, Array.getElem?_toList, made_zero _ _ hk] at h3
      exact h3
    have hlt := row_lt hrow
    have hb2 : Below w1.heap.size w1 (w1.alloc (.cells #[.slice (some ⟨w.heap.size, 0, none⟩) N N, .slice none 0 0, .bool false, .int .i64 0, .slice none 0 0, .bool false] 37)) := (by (repeat (first | exact Below.refl _ _ | assumption | (refine Below.allocT ?_ _) | refine Below.drew ?_ | refine below_drewN ?_ _ | (refine Below.then ?_ (by assumption)) | (refine Below.setRow ?_ ?_ _; rotate_left; (focus (first | exact Nat.lt_succ_self _ | ((repeat rw [World.size_alloc]); omega) | (simp; done) | (simp; omega) | omega))) | (refine Below.setCell ?_ ?_ _; rotate_left; (focus (first | exact Nat.lt_succ_self _ | ((repeat rw [World.size_alloc]); omega) | (simp; done) | (simp; omega) | omega))) | (refine Below.then' ?_ (by assumption) ?_; rotate_left; (focus (first | exact Nat.lt_succ_self _ | ((repeat rw [World.size_alloc]); omega) | (simp; done) | (simp; omega) | omega))) | fail)); (first | done | fail))
    refine ⟨w1.heap.size, w.heap.size, rfl, Nat.le_of_lt hlt, Nat.le_refl _, ⟨?_, ?_, ?_, OwnC.nil _ _, SliceOf.nil _ _, Nat.lt_of_lt_of_le hlt hb2.size, (fun a ha => by cases ha), by omega, (by simp [Value.ownBlock]), (by simp [Value.ownBlock]), (fun a ha => by cases ha), ⟨by simp [newPs], by simp [newPs]; omega, by show i64ok 0; unfold i64ok; omega⟩, by simp [newPs], by simp [newPs], by simp [newPs]; exact h2⟩, Below.then hb1 hb2⟩
    · refine (row_at _ _ _ _ rfl).trans ?_
      unfold PlS newPs
      simp
    · intro i d hd j v hv
      have hil : i < N := by have := (List.getElem?_eq_some_iff.1 hd).1; simpa [newPs] using this
      have hdz : d = zSec := by
        have := List.mem_of_getElem? hd
        exact List.eq_of_mem_replicate this
      subst hdz
      have hj := (List.getElem?_eq_some_iff.1 hv).1
      rw [secC_len] at hj
      rw [hb2.cell (p := ⟨w.heap.size, i * 64 + j, none⟩) hlt, hcell _ (by omega)]
      rw [zSec_c] at hv
      have := List.eq_of_mem_replicate (List.mem_of_getElem? hv)
      rw [this]
    · intro j hj
      have hj' : j < N * 64 := by simpa [newPs] using hj
      refine ⟨?_, row_frozen (g := w.heap.size) (cs := cur) ((row_past _ _ _ hlt).trans hrow) _⟩
      rw [Nat.zero_add, hb2.cell (p := ⟨w.heap.size, j, none⟩) hlt, hcell _ hj']; rfl
/-! ### A plate that is none -/
def zPl : Array Value := #[.slice none 0 0, .slice none 0 0, .bool false, .int .i64 0, .slice none 0 0, .bool false]
def NoPl (w : World) (v : Value) : Prop := v = .pointer none ∨ ∃ g, v = .pointer (some ⟨g, 0, none⟩) ∧ row w g = some zPl
theorem NoPl.below {w w' : World} {v : Value} (h : NoPl w v) (hb : Below w.heap.size w w') : NoPl w' v := by
  rcases h with h | ⟨g, h1, h2⟩
  · exact .inl h
  · exact .inr ⟨g, h1, (row_below hb (row_lt h2)).trans h2⟩
theorem is_no (v : Value) (w : World) (h : NoPl w v) : Calls Try.prog 31 #[v] w fun e w' => e = .returned (.bool false) ∧ w = w' := by
  rcases h with rfl | ⟨g, rfl, hr⟩
  · exact is_nil w
  · exact is_zero g w (row_cell hr 0)
theorem read_no (v : Value) (i : Int) (w : World) (h : NoPl w v) : Calls Try.prog 35 #[v, .int .i64 i] w fun e w' => e = .returned (.tuple #[.slice none 0 0, .int .i64 1]) ∧ w = w' := by
  have HI := Lib.hid (is_no v w h)
  clear h
  go_enter Try.func35, Try.ntmps35
  go_wp2_with fail
  refine (HI.out).mono ?_
  rintro e w1 ⟨rfl, rfl⟩
  go_wp2_with fail
  go_ret2
  exact ⟨rfl, rfl⟩
theorem arm_no (v : Value) (i : Int) (u : Value) (w : World) (h : NoPl w v) : Calls Try.prog 17 #[v, .int .i64 i, u] w fun e w' => e = .returned (.tuple #[]) ∧ w = w' := by
  have HI := Lib.hid (is_no v w h)
  clear h
  go_enter Try.func17, Try.ntmps17
  go_wp2_with fail
  refine (HI.out).mono ?_
  rintro e w1 ⟨rfl, rfl⟩
  go_wp2_with fail
  first | go_end0 | refine bodyPost_ret (results_none rfl _ _ _) rfl ?_
  exact ⟨rfl, rfl⟩
theorem up_no (v : Value)  (w : World) (h : NoPl w v) : Calls Try.prog 18 #[v] w fun e w' => e = .returned (.tuple #[]) ∧ w = w' := by
  have HI := Lib.hid (is_no v w h)
  clear h
  go_enter Try.func18, Try.ntmps18
  go_wp2_with fail
  refine (HI.out).mono ?_
  rintro e w1 ⟨rfl, rfl⟩
  go_wp2_with fail
  first | go_end0 | refine bodyPost_ret (results_none rfl _ _ _) rfl ?_
  exact ⟨rfl, rfl⟩
theorem write_no (v : Value) (i : Int) (u : Value) (w : World) (h : NoPl w v) : Calls Try.prog 50 #[v, .int .i64 i, u] w fun e w' => e = .returned (.int .i64 1) ∧ w = w' := by
  have HI := Lib.hid (is_no v w h)
  clear h
  go_enter Try.func50, Try.ntmps50
  go_wp2_with fail
  refine (HI.out).mono ?_
  rintro e w1 ⟨rfl, rfl⟩
  go_wp2_with fail
  go_ret
  exact ⟨rfl, rfl⟩
theorem sync_no (v : Value)  (w : World) (h : NoPl w v) : Calls Try.prog 51 #[v] w fun e w' => e = .returned (.int .i64 1) ∧ w = w' := by
  have HI := Lib.hid (is_no v w h)
  clear h
  go_enter Try.func51, Try.ntmps51
  go_wp2_with fail
  refine (HI.out).mono ?_
  rintro e w1 ⟨rfl, rfl⟩
  go_wp2_with fail
  go_ret
  exact ⟨rfl, rfl⟩
theorem len_no (v : Value)  (w : World) (h : NoPl w v) : Calls Try.prog 22 #[v] w fun e w' => e = .returned (.int .i64 0) ∧ w = w' := by
  have HI := Lib.hid (is_no v w h)
  clear h
  go_enter Try.func22, Try.ntmps22
  go_wp2_with fail
  refine (HI.out).mono ?_
  rintro e w1 ⟨rfl, rfl⟩
  go_wp2_with fail
  go_ret
  exact ⟨rfl, rfl⟩
theorem down_no (v : Value)  (w : World) (h : NoPl w v) : Calls Try.prog 20 #[v] w fun e w' => e = .returned (.bool false) ∧ w = w' := by
  have HI := Lib.hid (is_no v w h)
  clear h
  go_enter Try.func20, Try.ntmps20
  go_wp2_with fail
  refine (HI.out).mono ?_
  rintro e w1 ⟨rfl, rfl⟩
  go_wp2_with fail
  go_ret
  exact ⟨rfl, rfl⟩
end Go.Proofs.Ytkkncijbedfdfaa

/-
  What share.Whole and share.Split answer: a range over a function of the program's own.
-/
import Derived.RangeFuncNested
import Derived.RangeFuncBound
import Derived.RangeFuncCalls
import Derived.RangeFuncLeaves
import Derived.RangeFuncBox
import Derived.Shelf.Abstract
import Derived.Shelf.RegionOpen
import Derived.OwnWalkIn
import Derived.TacticsInMore
import Derived.LoopNIn
import Derived.LoopIn
import Derived.Maps.AppendAt
import Derived.Test.YtkfbnaafpikgfaaMoney
import Derived.Test.YtkfbnaafpikgfaaRatio2
namespace Go.Proofs.Ytkfbnaafpikgfaa
open Go.RowKit Go.Shelf
set_option linter.unusedVariables false
attribute [local go_sem] Oper.semAt_some

def wholeT (xs : List Nat) : Nat := if 256 < xs.length then 0 else fit (total xs)
def wholeE (xs : List Nat) : Int := if 256 < xs.length then 40 else if total xs ≤ 18446744073709551615 then 0 else 40
theorem swhole_any (A : Option Addr) (xs : List Nat) (n c : Nat) (hn : xs.length = n) (hx : ∀ i, xs.getD i 0 < 18446744073709551616) (hm : n ≤ 9223372036854775807) (w : World) (hU : U64s w A xs) :
    Calls Try.prog 83 #[.slice A n c] w fun e w' => e = .returned (.tuple #[.int .u64 ((wholeT xs : Nat) : Int), .int .i64 (wholeE xs)]) ∧ w = w' := by
  have HS := Lib.hid (fun W h => msum_any A xs n c hn hx hm W h)
  by_cases h1 : 256 < n
  · have e1 : wholeT xs = 0 := by unfold wholeT; rw [if_pos (by omega)]
    have e2 : wholeE xs = 40 := by unfold wholeE; rw [if_pos (by omega)]
    rw [e1, e2]
    clear e1 e2 hn hx hm hU HS
    go_enter Try.func83, Try.ntmps83
    go_wp2_with fail
    go_ret2
    exact ⟨rfl, rfl⟩
  · have e1 : wholeT xs = fit (total xs) := by unfold wholeT; rw [if_neg (by omega)]
    have e2 : wholeE xs = if total xs ≤ 18446744073709551615 then 0 else 40 := by unfold wholeE; rw [if_neg (by omega)]
    have HU := Lib.hid hU
    by_cases h2 : total xs ≤ 18446744073709551615
    · rw [if_pos h2] at e2
      rw [told_le h2] at HS
      rw [e1, e2]
      generalize fit (total xs) = t at *
      clear e1 e2 hn hx hm hU h2
      go_enter Try.func83, Try.ntmps83
      go_wp2_with fail
      refine (HS.out _ HU.out).mono ?_
      rintro e w' ⟨rfl, rfl⟩
      go_wp2_with fail
      go_ret2
      exact ⟨rfl, rfl⟩
    · rw [if_neg h2] at e2
      rw [fit_gt h2] at e1 HS
      rw [told_gt h2] at HS
      rw [e1, e2]
      clear e1 e2 hn hx hm hU h2
      go_enter Try.func83, Try.ntmps83
      go_wp2_with fail
      refine (HS.out _ HU.out).mono ?_
      rintro e w' ⟨rfl, rfl⟩
      go_wp2_with fail
      go_ret2
      exact ⟨rfl, rfl⟩
/-- A number of 64 bits. -/
abbrev U64n := { n : Nat // n < 18446744073709551616 }
theorem quoV_lt (n c : Nat) : quoV n c < 18446744073709551616 := by
  unfold quoV fit
  split
  · omega
  · split
    · rename_i h; rw [mostN_eq] at h; omega
    · omega
/-- A weight's part; of a whole of 0 nothing. -/
def partU (t wh x : Nat) : U64n := ⟨if 0 < wh then quoV (t * x) wh else 0, by split; exact quoV_lt _ _; omega⟩
def partAt (t wh : Nat) (xs : List Nat) (j : Nat) : Nat × U64n := (j, partU t wh (xs.getD j 0))
def uptoP {α : Type} (f : Nat → α) (k : Nat) : List α := (List.range k).map f
theorem uptoP_length {α : Type} (f : Nat → α) (k : Nat) : (uptoP f k).length = k := by simp [uptoP]
theorem uptoP_succ {α : Type} (f : Nat → α) (k : Nat) : uptoP f (k + 1) = uptoP f k ++ [f k] := by simp [uptoP, List.range_succ]
theorem grown_of_below {W W' : World} (h : Below W.heap.size W W') : W.grownBy W' none := ⟨h.os, h.tape, h.output, h.size, fun k hk _ => h.block k hk⟩
theorem AbidesFrom.below {β : Type} {B : Nat} {J : β → World → Prop} (hJ : AbidesFrom B J) {s : β} {W W' : World} (hs : J s W) (h : Below W.heap.size W W') : J s W' :=
  hJ s W W' none hs (grown_of_below h) (fun r e => by cases e)
/-- What a round that goes on keeps: what lay ahead of all, and the two boxes that the iterator reads again. -/
def KpP (n₀ Bw Bt : Nat) (W W' : World) : Prop := Below n₀ W W' ∧ W'.cell? ⟨Bw, 0, none⟩ = W.cell? ⟨Bw, 0, none⟩ ∧ W'.cell? ⟨Bt, 0, none⟩ = W.cell? ⟨Bt, 0, none⟩
theorem kpP_t {n₀ Bw Bt : Nat} {A B C : World} (h : KpP n₀ Bw Bt A B) (k : KpP n₀ Bw Bt B C) : KpP n₀ Bw Bt A C := ⟨h.1.trans k.1, k.2.1.trans h.2.1, k.2.2.trans h.2.2⟩
theorem kpP_b {n₀ Bw Bt : Nat} {w : World} (h0 : n₀ ≤ w.heap.size) (hw : Bw < w.heap.size) (ht : Bt < w.heap.size) (W : World) (l : Nat) (o o' : Obj) (hl : w.heap.size ≤ l) (hW : W.heap[l]? = some o) (ho : o.isCells = false) (ho' : o.isWalk = false) : KpP n₀ Bw Bt W (W.putObj l o') := by
  have hlt := (Array.getElem?_eq_some_iff.1 hW).1
  refine ⟨belowK_b h0 W l o o' hl hW ho ho', ?_, ?_⟩
  · exact World.cell?_of_block (a := ⟨Bw, 0, none⟩) ((grownBy_putObj' W l o').block Bw (by omega) (fun e => by cases e; omega))
  · exact World.cell?_of_block (a := ⟨Bt, 0, none⟩) ((grownBy_putObj' W l o').block Bt (by omega) (fun e => by cases e; omega))
set_option maxRecDepth 100000 in
set_option maxHeartbeats 4000000 in
theorem parts1_in (l Bs Bw Bt n₀ b off len cap t wh : Nat) (xs : List Nat) (ht : t < 18446744073709551616) (hwh : wh < 18446744073709551616) (hx : ∀ i, xs.getD i 0 < 18446744073709551616) (hreach : len ≤ 256) (hb : b < n₀) (J Jx : List (Nat × U64n) → World → Prop)
    (W : World) (hn₀ : n₀ ≤ W.heap.size) (hJ : AbidesFrom W.heap.size J)
    (hY : ∀ pre x W, J pre W → pre.length < len → YieldAt Fence.wide 2 Try.prog l #[.int .i64 (x.1 : Int), .int .u64 (x.2.1 : Int)] W fun e W' =>
      (e = .returned (.bool true) ∧ J (pre ++ [x]) W' ∧ KpP n₀ Bw Bt W W') ∨ (e = .returned (.bool false) ∧ Jx (pre ++ [x]) W'))
    (hBw : Bw < W.heap.size) (hBt : Bt < W.heap.size)
    (hcs : W.cell? ⟨Bs, 0, none⟩ = some (.slice (some ⟨b, off, none⟩) len cap)) (hcw : W.cell? ⟨Bw, 0, none⟩ = some (.int .u64 (wh : Int))) (hct : W.cell? ⟨Bt, 0, none⟩ = some (.int .u64 (t : Int))) (hc : ∀ j, j < len → W.cell? ⟨b, off + j, none⟩ = some (.int .u64 ((xs.getD j 0 : Nat) : Int))) (h0 : J [] W) :
    CallsIn Fence.wide 3 Try.prog 102 #[.func (.yield l) #[] #[], .pointer (some ⟨Bs, 0, none⟩), .pointer (some ⟨Bw, 0, none⟩), .pointer (some ⟨Bt, 0, none⟩)] W fun e W' => (∃ v, e = .returned v) ∧
      ((∃ ys, ys = uptoP (partAt t wh xs) len ∧ J ys W') ∨ (∃ pre, (∃ k, k ≤ len ∧ pre = uptoP (partAt t wh xs) k) ∧ Jx pre W')) := by
  refine callsIn_of_wp Try.func102 rfl trivial ?_ rfl
  simp only [Try.ntmps102, List.size_toArray, List.length_cons, List.length_nil, Nat.reduceAdd, Nat.reduceSub, Array.replicate_succ, Array.replicate_zero, List.push_toArray, List.append_toArray, List.nil_append, List.cons_append]
  gi_wp2
  gi_loopw [10] (fun i wr => ∃ k : Nat, k ≤ len ∧ i = .int .i64 k ∧ J (uptoP (partAt t wh xs) k) wr ∧ Below n₀ W wr ∧ W.heap.size ≤ wr.heap.size ∧ wr.cell? ⟨Bw, 0, none⟩ = some (.int .u64 (wh : Int)) ∧ wr.cell? ⟨Bt, 0, none⟩ = some (.int .u64 (t : Int))) (fun i _ => len - (intOf i).toNat)
  case atStart => exact ⟨0, Nat.zero_le _, rfl, h0, Below.refl _ _, Nat.le_refl _, hcw, hct⟩
  case round =>
    obtain ⟨k, hk, rfl, hJs, hnx, hsz, hcw', hct'⟩ := hrel
    clear hcw hct
    by_cases hlt : k < len
    · obtain ⟨x, hxe⟩ : ∃ x, x = xs.getD k 0 := ⟨_, rfl⟩
      have hcx := (hnx.cell (p := ⟨b, off + k, none⟩) hb).trans (hc k hlt)
      have hx1 := hx k
      have hU : partAt t wh xs k = (k, partU t wh x) := by rw [hxe]; rfl
      rw [← hxe] at hcx hx1
      have HS : Hid (uptoP (partAt t wh xs) (k + 1) = uptoP (partAt t wh xs) k ++ [(k, partU t wh x)]) := Lib.hid (by rw [uptoP_succ, hU])
      have HL : Hid ((uptoP (partAt t wh xs) k).length < len) := Lib.hid (by rw [uptoP_length]; exact hlt)
      clear hxe hU hc hx
      by_cases hw : 0 < wh
      · have HP : Hid ((partU t wh x).1 = quoV (t * x) wh) := Lib.hid (if_pos hw)
        have HD := Lib.hid (fun W => down_any t x wh ht hx1 hwh W)
        generalize partU t wh x = u at *
        generalize quoV (t * x) wh = q at *
        generalize quoE (t * x) wh = qe at *
        gi_wp2
        refine ⟨trivial, (callsIn_wide.2 (HD.out _)).mono ?_⟩
        rintro e w1 ⟨rfl, hb1⟩
        have hn1 : n₀ ≤ wr.heap.size := by omega
        have hJ1 : J (uptoP (partAt t wh xs) k) w1 := hJ _ _ _ none hJs (grown_of_below hb1) (fun r e => by cases e)
        have hnx1 := hnx.trans (hb1.mono hn1)
        have hsz1 : W.heap.size ≤ w1.heap.size := Nat.le_trans hsz hb1.size
        have hcw1 := Lib.hid ((hb1.cell (p := ⟨Bw, 0, none⟩) (by show Bw < _; omega)).trans hcw')
        have hct1 := Lib.hid ((hb1.cell (p := ⟨Bt, 0, none⟩) (by show Bt < _; omega)).trans hct')
        obtain ⟨fn, tmps, assign, body, hy, hR⟩ := hY _ (k, u) w1 hJ1 HL.out
        dsimp only at hy
        rw [HP.out] at hy
        clear hJs hnx hb1 hcw' hct' hcx HD HL hsz
        gi_wp2
        refine hR.mono ?_
        rintro e W3 (⟨rfl, hJ3, hk3⟩ | ⟨rfl, hJx3⟩)
        · gi_wp2
          go_roundw
          case rel => exact ⟨k + 1, by omega, by simp, by rw [HS.out]; exact hJ3, hnx1.trans hk3.1, Nat.le_trans hsz1 hk3.1.size, hk3.2.1.trans hcw1.out, hk3.2.2.trans hct1.out⟩
          case measure => simp [intOf]; omega
        · gi_wp2
          refine bodyPost_ret (results_none rfl _ _ _) rfl ?_
          exact ⟨⟨_, rfl⟩, .inr ⟨_, ⟨k + 1, by omega, HS.out.symm⟩, hJx3⟩⟩
      · obtain rfl : wh = 0 := by omega
        have HP : Hid ((partU t 0 x).1 = 0) := Lib.hid rfl
        generalize partU t 0 x = u at *
        obtain ⟨fn, tmps, assign, body, hy, hR⟩ := hY _ (k, u) wr hJs HL.out
        dsimp only at hy
        rw [HP.out, show ((0 : Nat) : Int) = 0 from rfl] at hy
        clear HL
        gi_wp2
        refine hR.mono ?_
        rintro e W3 (⟨rfl, hJ3, hk3⟩ | ⟨rfl, hJx3⟩)
        · gi_wp2
          go_roundw
          case rel => exact ⟨k + 1, by omega, by simp, by rw [HS.out]; exact hJ3, hnx.trans hk3.1, Nat.le_trans hsz hk3.1.size, hk3.2.1.trans hcw', hk3.2.2.trans hct'⟩
          case measure => simp [intOf]; omega
        · gi_wp2
          refine bodyPost_ret (results_none rfl _ _ _) rfl ?_
          exact ⟨⟨_, rfl⟩, .inr ⟨_, ⟨k + 1, by omega, HS.out.symm⟩, hJx3⟩⟩
    · obtain rfl : k = len := by omega
      gi_wp2
      go_end0
      exact ⟨⟨_, rfl⟩, .inl ⟨_, rfl, hJs⟩⟩
set_option maxRecDepth 100000 in
set_option maxHeartbeats 1000000 in
/-- .. of no weights: no round. -/
theorem parts1_nil_in (l Bs Bw Bt : Nat) (J : List (Nat × U64n) → World → Prop) (W : World) (A : Option Addr) (c : Nat) (hcs : W.cell? ⟨Bs, 0, none⟩ = some (.slice A 0 c)) (h0 : J [] W) :
    CallsIn Fence.wide 3 Try.prog 102 #[.func (.yield l) #[] #[], .pointer (some ⟨Bs, 0, none⟩), .pointer (some ⟨Bw, 0, none⟩), .pointer (some ⟨Bt, 0, none⟩)] W fun e W' => (∃ v, e = .returned v) ∧ J [] W' := by
  refine callsIn_of_wp Try.func102 rfl trivial ?_ rfl
  simp only [Try.ntmps102, List.size_toArray, List.length_cons, List.length_nil, Nat.reduceAdd, Nat.reduceSub, Array.replicate_succ, Array.replicate_zero, List.push_toArray, List.append_toArray, List.nil_append, List.cons_append]
  gi_wp2
  gi_loopw [10] (fun i wr => i = .int .i64 0 ∧ J [] wr) (fun _ _ => 0)
  case atStart => exact ⟨rfl, h0⟩
  case round =>
    obtain ⟨rfl, hJs⟩ := hrel
    gi_wp2
    go_end0
    exact ⟨⟨_, rfl⟩, hJs⟩
theorem parts_in (t wh : Nat) (A : Option Addr) (n c : Nat) (w : World) : CallsIn Fence.wide 3 Try.prog 84 #[.int .u64 t, .int .u64 wh, .slice A n c] w fun e w' =>
    e = .returned (.func (.func 102) #[] #[.pointer (some ⟨w.heap.size + 2, 0, none⟩), .pointer (some ⟨w.heap.size + 1, 0, none⟩), .pointer (some ⟨w.heap.size, 0, none⟩)]) ∧ w' = ((w.alloc (.cells #[.int .u64 t] 22)).alloc (.cells #[.int .u64 wh] 22)).alloc (.cells #[.slice A n c] 43) := by
  refine callsIn_of_wp Try.func84 rfl trivial ?_ rfl
  simp only [Try.ntmps84, List.size_toArray, List.length_cons, List.length_nil, Nat.reduceAdd, Nat.reduceSub, Array.replicate_succ, Array.replicate_zero, List.push_toArray, List.append_toArray, List.nil_append, List.cons_append]
  gi_wp2
  go_ret
  exact ⟨rfl, rfl⟩
/-- The iterator's contract: each weight's part in its order. -/
theorem parts_stops (Bs Bw Bt n₀ t wh n c : Nat) (A : Option Addr) (xs : List Nat) (ht : t < 18446744073709551616) (hwh : wh < 18446744073709551616) (hx : ∀ i, xs.getD i 0 < 18446744073709551616) (hn : xs.length = n) (hreach : n ≤ 256) (w : World) (hn₀ : n₀ ≤ w.heap.size)
    (hBs : Bs < w.heap.size) (hBw : Bw < w.heap.size) (hBt : Bt < w.heap.size) (hcs : w.cell? ⟨Bs, 0, none⟩ = some (.slice A n c)) (hcw : w.cell? ⟨Bw, 0, none⟩ = some (.int .u64 (wh : Int))) (hct : w.cell? ⟨Bt, 0, none⟩ = some (.int .u64 (t : Int))) (hU : U64s w A xs) (hb : 0 < n → ∀ x, A = some x → x.block < n₀) :
    SeqStopsK Fence.wide 3 Try.prog 102 #[.pointer (some ⟨Bs, 0, none⟩), .pointer (some ⟨Bw, 0, none⟩), .pointer (some ⟨Bt, 0, none⟩)] (fun x : Nat × U64n => #[Value.int .i64 (x.1 : Int), Value.int .u64 (x.2.1 : Int)]) (KpP n₀ Bw Bt) (fun ys => ys = uptoP (partAt t wh xs) n) (fun pre => ∃ k, k ≤ n ∧ pre = uptoP (partAt t wh xs) k) n w := fun l J Jx W hW hJ _ hY h0 => by
  have g := fun (B : Nat) (h : B < w.heap.size) => hW.cell (p := ⟨B, 0, none⟩) h
  rcases Nat.eq_zero_or_pos n with rfl | hpos
  · exact (parts1_nil_in l Bs Bw Bt J W A c ((g Bs hBs).trans hcs) h0).mono fun e W' ⟨he, hj⟩ => ⟨he, .inl ⟨_, rfl, hj⟩⟩
  · obtain ⟨b, off, rfl, hbl, hcell⟩ := hU (by omega)
    have hbn := hb hpos _ rfl
    exact parts1_in l Bs Bw Bt n₀ b off n c t wh xs ht hwh hx hreach hbn J Jx W (Nat.le_trans hn₀ hW.size) hJ hY (Nat.lt_of_lt_of_le hBw hW.size) (Nat.lt_of_lt_of_le hBt hW.size) ((g Bs hBs).trans hcs) ((g Bw hBw).trans hcw) ((g Bt hBt).trans hct)
      (fun j hj => (hW.cell (p := ⟨b, off + j, none⟩) (Nat.lt_of_lt_of_le hbn hn₀)).trans (hcell j (by omega))) h0
end Go.Proofs.Ytkfbnaafpikgfaa

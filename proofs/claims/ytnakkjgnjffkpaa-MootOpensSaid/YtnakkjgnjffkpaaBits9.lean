/-
  The reference's Pack: a bit field of bits.
-/
import Derived.Test.YtnakkjgnjffkpaaBits7
import Derived.Test.YtnakkjgnjffkpaaBits8
import Derived.Test.YtnakkjgnjffkpaaOwnC
import Derived.IntWalk
import Derived.OwnWalk
namespace Go.Proofs.Ytnakkjgnjffkpaa
open Go.RowKit
set_option linter.unusedVariables false

def boolC (b : Bool) : Array Value := #[.bool b]
/-- New bytes, in a block of their own. -/
def PackPost (w : World) (bs : List Nat) (e : Ending) (w' : World) : Prop := ∃ g, e = .returned (.slice (some ⟨g, 0, none⟩) bs.length bs.length) ∧ OwnB w' (.slice (some ⟨g, 0, none⟩) bs.length bs.length) bs ∧ w.heap.size ≤ g ∧ Below w.heap.size w w'
theorem zeros_own {w w1 : World} {q : Nat} (h : w1.ownsRow 0 5 1 (.slice (some ⟨w.heap.size, 0, none⟩) q q) q (madeCells (Value.int .u8 0).cells (q * 1)).toList) : OwnB w1 (.slice (some ⟨w.heap.size, 0, none⟩) q q) (List.replicate q 0) := by
  have e : (madeCells (Value.int .u8 0).cells (q * 1)).toList = (List.replicate q 0).map fun x : Nat => Value.int .u8 ((x : Nat) : Int) := by
    rw [show (Value.int .u8 0).cells = #[Value.int .u8 0] from rfl, toList_madeCells_one, List.map_replicate, Nat.mul_one]; rfl
  unfold OwnB
  rw [← e, List.length_replicate]
  exact h
set_option maxRecDepth 100000 in
set_option maxHeartbeats 4000000 in
theorem rpack_any (A : Option Addr) (n c : Nat) (l : List Bool) (hn : l.length = n) (hm : n ≤ 1000) (w : World) (hL : SliceOf 1 boolC w A l) : Calls Try.prog 141 #[.slice A n c] w (PackPost w (packN l ((n + 7) / 8) 0)) := by
  obtain ⟨q, hq⟩ : ∃ q, q = (n + 7) / 8 := ⟨_, rfl⟩
  rw [← hq]
  have hqI : ((n : Int) + 7) / 8 = (q : Int) := by omega
  have E7 : IntKind.i64.wrap ((n : Int) + 7) = (n : Int) + 7 := IntWalk.i64_in _ (by omega)
  have E1 : IntKind.i64.wrap ((n : Int) - 1) = (n : Int) - 1 := IntWalk.i64_in _ (by omega)
  have Eq : IntKind.i64.wrap (q : Int) = (q : Int) := IntWalk.i64_in _ (by omega)
  have hq2 : q ≤ 126 := by omega
  have HQ := Lib.hid hq
  have HL := Lib.hid hL
  have HN := Lib.hid hn
  obtain ⟨i0, hi, hz0, hz1, hz2⟩ := info_parts u8_info
  clear hL hn hq
  go_enter Try.func141, Try.ntmps141
  go_wp2_with (at_make; refine wpList_make_full w rfl _ _ 64 rfl 0 5 i0 (.int .u8 0) 1 u8s_under hi hz0 hz1 .i64 .i64 (q : Int) (q : Int) q (by simp only [hqI]; rfl) (by simp only [hqI]; rfl) rfl rfl (by rw [hz2]; omega) (by unfold maxLen; omega) (Nat.zero_le _) ?_; intro w1 hown hg; have HO := Lib.hid (zeros_own hown); have HG := Lib.hid hg; clear hown hg)
  have HB1 : Hid (Below w.heap.size w w1) := Lib.hid ((Below.refl _ w).grown HG.out (Nat.le_refl _) (fun k hk => by cases hk))
  clear HG hi hz0 hz1 hz2 i0
  go_loopw [4] (fun i wr => ∃ j : Nat, i = .int .i64 ((j : Int) - 1) ∧ j ≤ n ∧ Hid (OwnB wr (.slice (some ⟨w.heap.size, 0, none⟩) q q) (packN l q j) ∧ Below w.heap.size w wr)) (fun i _ => (intOf i + 1).toNat)
  case atStart => exact ⟨n, rfl, Nat.le_refl _, Lib.hid ⟨by have h := packN_zero l q; rw [HN.out] at h; rw [h]; exact HO.out, HB1.out⟩⟩
  case round =>
    obtain ⟨j, rfl, hj, hH⟩ := hrel
    cases j with
    | zero =>
      have HE := Lib.hid hH
      go_wp2_with fail
      go_ret
      refine ⟨_, by rw [packN_len]; rfl, ?_, Nat.le_refl _, HE.out.out.2⟩
      rw [packN_len]; exact HE.out.out.1
    | succ k =>
      rw [show (((k + 1 : Nat) : Int) - 1) = (k : Int) by omega]
      have hkq : k / 8 < q := by have := HQ.out; omega
      obtain ⟨b, hb⟩ : ∃ b, l[k]? = some b := ⟨_, List.getElem?_eq_getElem (by rw [HN.out]; omega)⟩
      have hlow := packAt_low l k
      have hst := packN_step (n := q) hkq hb
      have c1 : wr.cell? ⟨w.heap.size, k / 8, none⟩ = some (.int .u8 ((packAt l (k + 1) (k / 8) : Nat) : Int)) := by
        have h := hH.out.1.cellB (q := k / 8) (by rw [packN_len]; exact hkq)
        rw [packN_at _ _ _ _ hkq] at h; exact h
      have f1 := hH.out.1.freeB (k / 8)
      obtain ⟨bb, off, rfl, hbb, hcell⟩ := HL.out (by rw [HN.out]; omega)
      have c2 : wr.cell? ⟨bb, off + k, none⟩ = some (.bool b) := by
        have h := hcell k b hb 0 (.bool b) rfl
        rw [Nat.mul_one, Nat.add_zero] at h
        exact (hH.out.2.cell (p := ⟨bb, off + k, none⟩) hbb).trans h
      generalize packAt l (k + 1) (k / 8) = x at *
      have z0 : (0 : Int) ≤ (k : Int) := by omega
      have z1 : (k : Int) < (n : Int) := by omega
      have z2 : (0 : Int) ≤ (k : Int) / 8 := by omega
      have z3 : (k : Int) / 8 < (q : Int) := by omega
      have e8 : ((k : Int) / 8).toNat = k / 8 := by omega
      have w1' : IntKind.i64.wrap (2 * (x : Int)) = 2 * (x : Int) := IntWalk.i64_in _ (by omega)
      have w2' : IntKind.i64.wrap (2 * (x : Int) + 1) = 2 * (x : Int) + 1 := IntWalk.i64_in _ (by omega)
      have w3' : IntKind.u8.wrap (2 * (x : Int)) = 2 * (x : Int) := by rw [IntKind.wrap_u8]; omega
      have w4' : IntKind.u8.wrap (2 * (x : Int) + 1) = 2 * (x : Int) + 1 := by rw [IntKind.wrap_u8]; omega
      have w5' : IntKind.i64.wrap ((k : Int) - 1) = (k : Int) - 1 := IntWalk.i64_in _ (by omega)
      have HS := Lib.hid hst
      have HH : Hid (∀ y : Nat, OwnB (wr.setCell ⟨w.heap.size, k / 8, none⟩ (.int .u8 (y : Int))) (.slice (some ⟨w.heap.size, 0, none⟩) q q) ((packN l q (k + 1)).set (k / 8) y) ∧ Below w.heap.size w (wr.setCell ⟨w.heap.size, k / 8, none⟩ (.int .u8 (y : Int)))) := Lib.hid fun y => ⟨hH.out.1.setAt (k / 8) y, Below.setCell hH.out.2 (p := ⟨w.heap.size, k / 8, none⟩) (Nat.le_refl _) _⟩
      clear hst hb hcell hH hbb
      cases b
      · have HI : Hid (OwnB (wr.setCell ⟨w.heap.size, k / 8, none⟩ (.int .u8 (2 * (x : Int)))) (.slice (some ⟨w.heap.size, 0, none⟩) q q) (packN l q k) ∧ Below w.heap.size w (wr.setCell ⟨w.heap.size, k / 8, none⟩ (.int .u8 (2 * (x : Int))))) := Lib.hid (by
          have h := HH.out (2 * x)
          rw [show ((2 * x : Nat) : Int) = 2 * (x : Int) by omega] at h
          rw [HS.out]; exact h)
        clear HH HS
        go_wp2_with fail
        exact ⟨⟨k, rfl, by omega, HI⟩, by simp [intOf]⟩
      · have HI : Hid (OwnB (wr.setCell ⟨w.heap.size, k / 8, none⟩ (.int .u8 (2 * (x : Int) + 1))) (.slice (some ⟨w.heap.size, 0, none⟩) q q) (packN l q k) ∧ Below w.heap.size w (wr.setCell ⟨w.heap.size, k / 8, none⟩ (.int .u8 (2 * (x : Int) + 1)))) := Lib.hid (by
          have h := HH.out (2 * x + 1)
          rw [show ((2 * x + 1 : Nat) : Int) = 2 * (x : Int) + 1 by omega] at h
          rw [HS.out]; exact h)
        clear HH HS
        go_wp2_with fail
        exact ⟨⟨k, rfl, by omega, HI⟩, by simp [intOf]⟩
end Go.Proofs.Ytnakkjgnjffkpaa

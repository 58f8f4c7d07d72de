/-
  What package coder's reader does: strings of bytes, what is left; a reader that is opened.
-/
import Derived.Test.YtnakkjgnjffkpaaCoder4
namespace Go.Proofs.Ytnakkjgnjffkpaa
open Go.RowKit
set_option linter.unusedVariables false

theorem RdAtC.drew {C : Option Addr → Nat → Rd → Array Value} {W : World} {g : Nat} {A : Option Addr} {c : Nat} {s : Rd} (h : RdAtC C W g A c s) : RdAtC C W.drew g A c s := ⟨h.row, h.bys, h.cap, h.top, h.off, h.nil⟩
theorem RdAtC.drewN {C : Option Addr → Nat → Rd → Array Value} {W : World} {g : Nat} {A : Option Addr} {c : Nat} {s : Rd} (h : RdAtC C W g A c s) (k : Nat) : RdAtC C (W.drewN k) g A c s := ⟨h.row, h.bys, h.cap, h.top, h.off, h.nil⟩
/-- The address of a piece 's[lo:hi]' of a slice. -/
def cutA (A : Option Addr) (c lo : Nat) : Option Addr := if c = lo then A else A.map (·.add lo)
theorem run_cutb (A : Option Addr) (n c lo k : Nat) (h : lo + k ≤ c) (w : World) : (Instr.slice 64 (.slice A n c) (some (.int .i64 (lo : Int))) (some (.int .i64 ((lo : Int) + (k : Int)))) none).run Try.prog w = .ok (.slice (cutA A c lo) k (c - lo)) w := by
  obtain ⟨i0, hi, hz0, hz1, hz2⟩ := info_parts u8_info
  have he : Try.prog.elem 64 = 5 := by kernel_rfl
  have hs : (sizeOf 5).run Try.prog w = .ok 1 w := by simp [sizeOf, typeInfo, hi, hz1]
  rw [run_slice_lh (P := Try.prog) w 64 A n c (by rw [he]; exact u8s_under) .i64 .i64 lo (lo + k) (by omega) (by omega) (by omega), he, hs]
  have e1 : ((lo : Int)).toNat = lo := by omega
  have e2 : ((lo : Int) + (k : Int)).toNat = lo + k := by omega
  simp only [Result.andThen, sliced, cutA, e1, e2, Nat.mul_one, Nat.add_sub_cancel_left]
theorem cutA_bys {W : World} {A : Option Addr} {xs : List Nat} {c lo n : Nat} (h : Bys W A xs) (hc : lo + n ≤ xs.length) (hcap : xs.length ≤ c) : Bys W (cutA A c lo) ((xs.drop lo).take n) := by
  unfold cutA
  split
  · rename_i he
    obtain rfl : n = 0 := by omega
    rw [List.take_zero]
    exact Bys.nil _ _
  · intro hp
    have hl : ((xs.drop lo).take n).length = n := by simp; omega
    obtain ⟨b, off, rfl, hb, hcell⟩ := h (by omega)
    have hadd : (⟨b, off, none⟩ : Addr).add lo = ⟨b, off + lo, none⟩ := by unfold Addr.add; split <;> simp_all
    exact Bys.cut (fun _ => ⟨b, off, rfl, hb, hcell⟩) lo n hc |> fun h => by rw [Option.map_some, hadd]; exact h hp
end Go.Proofs.Ytnakkjgnjffkpaa

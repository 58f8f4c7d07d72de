/-
  A member as the document has it (bullionlaw19.Plain).
  Members as the document has them: law22.Plain.
-/
import Derived.Test.YtnakkjgnjffkpaaBallot3
import Derived.Test.YtnakkjgnjffkpaaAgg
import Derived.Deep.CutBlock
namespace Go.Proofs.Ytnakkjgnjffkpaa
open Go.RowKit
set_option linter.unusedVariables false

set_option maxRecDepth 100000 in
theorem built_rmb (m : Mb) : Try.prog.built 200 [(0, .agg m.s.cells), (1, .int .i64 m.owner), (2, .int .i64 m.status)] = some m.cells := by kernel_rfl
set_option maxRecDepth 100000 in
set_option maxHeartbeats 200000 in
theorem plain19_any (m : Mb) (w : World) : Calls Try.prog 110 #[.agg m.cells] w fun e w' => e = .returned (.agg m.cells) ∧ Below w.heap.size w w' := by
  have r0 : row ((w.alloc (.cells m.cells 197)).alloc (.cells #[.int .u64 0, .int .u64 0, .int .u64 0, .int .i64 0, .int .i64 0, .int .i64 0] 200)) w.heap.size = some m.cells := (by (repeat (first | assumption | (refine row_at _ _ _ _ ?_; first | rfl | (simp only [World.size_alloc]; done) | (simp only [World.size_alloc]; omega)) | (refine (row_past _ _ _ ?_).trans ?_; (focus (first | exact Nat.lt_succ_self _ | ((repeat rw [World.size_alloc]); omega) | (simp; done) | (simp; omega) | omega))) | rw [row_drewN] | rw [row_drew])); (first | done | fail))
  have s0 : row ((w.alloc (.cells m.cells 197)).alloc (.cells #[.int .u64 0, .int .u64 0, .int .u64 0, .int .i64 0, .int .i64 0, .int .i64 0] 200)) (w.heap.size + 1) = some #[.int .u64 0, .int .u64 0, .int .u64 0, .int .i64 0, .int .i64 0, .int .i64 0] := (by (repeat (first | assumption | (refine row_at _ _ _ _ ?_; first | rfl | (simp only [World.size_alloc]; done) | (simp only [World.size_alloc]; omega)) | (refine (row_past _ _ _ ?_).trans ?_; (focus (first | exact Nat.lt_succ_self _ | ((repeat rw [World.size_alloc]); omega) | (simp; done) | (simp; omega) | omega))) | rw [row_drewN] | rw [row_drew])); (first | done | fail))
  have hB0 : Below w.heap.size w ((w.alloc (.cells m.cells 197)).alloc (.cells #[.int .u64 0, .int .u64 0, .int .u64 0, .int .i64 0, .int .i64 0, .int .i64 0] 200)) := (by (repeat (first | exact Below.refl _ _ | assumption | (refine Below.allocT ?_ _) | refine Below.drew ?_ | refine below_drewN ?_ _ | (refine Below.then ?_ (by assumption)) | (refine Below.setRow ?_ ?_ _; rotate_left; (focus (first | exact Nat.lt_succ_self _ | ((repeat rw [World.size_alloc]); omega) | (simp; done) | (simp; omega) | omega))) | (refine Below.setCell ?_ ?_ _; rotate_left; (focus (first | exact Nat.lt_succ_self _ | ((repeat rw [World.size_alloc]); omega) | (simp; done) | (simp; omega) | omega))) | (refine Below.then' ?_ (by assumption) ?_; rotate_left; (focus (first | exact Nat.lt_succ_self _ | ((repeat rw [World.size_alloc]); omega) | (simp; done) | (simp; omega) | omega))) | fail)); (first | done | fail))
  go_enter Try.func110, Try.ntmps110
  go_upto_region 1 with fail
  generalize (w.alloc (.cells m.cells 197)).alloc (.cells #[.int .u64 0, .int .u64 0, .int .u64 0, .int .i64 0, .int .i64 0, .int .i64 0] 200) = w0 at *
  have c1 := fun i => row_cell r0 i
  obtain ⟨t3, ht3⟩ := row_heap (row_setRow (new := m.cells) s0)
  have HT3 := Lib.hid ht3
  clear ht3
  go_wp2_with (refine wpList_build_to m.cells rfl 200 _ rfl (by kernel_rfl) ?_)
  exact bodyPost_ret (v := .agg m.cells) (results_cell_row Try.results110 _ _ (w.heap.size + 1) _ m.cells (0, 0) _ rfl HT3.out rmb_under rfl rmb_info) rfl ⟨rfl, Below.setRow hB0 (by omega) _⟩
theorem rmbs_under : Try.prog.underlying 115 = some (.slice 200) := by kernel_rfl
theorem rmb_three : (Try.prog.info? 200).map (fun i => (i.zero, i.size, i.bytes)) = some (some (.agg #[.int .u64 0, .int .u64 0, .int .u64 0, .int .i64 0, .int .i64 0, .int .i64 0]), 6, 48) := by kernel_rfl
abbrev OwnM (W : World) (B : Nat) (v : Value) (l : List Mb) : Prop := OwnC 200 6 Mb.cells W B v l
end Go.Proofs.Ytnakkjgnjffkpaa

namespace Go.Proofs.Ytnakkjgnjffkpaa
open Go.RowKit
set_option linter.unusedVariables false

def RetPl (ms : List Mb) (w : World) (e : Ending) (w' : World) : Prop := ∃ A c, e = .returned (.slice A ms.length c) ∧ SliceOf 6 Mb.cells w' A ms ∧ Below w.heap.size w w'
set_option maxRecDepth 100000 in
set_option maxHeartbeats 4000000 in
theorem plainL_any (A : Option Addr) (n c : Nat) (ms : List Mb) (hn : ms.length = n) (hm : n ≤ 50000) (w : World) (hU : SliceOf 6 Mb.cells w A ms) : Calls Try.prog 46 #[.slice A n c] w (RetPl ms w) := by
  have HU := Lib.hid hU
  have HN := Lib.hid hn
  clear hU hn
  go_enter Try.func46, Try.ntmps46
  go_wp2_with fail
  go_loopw [8, 3] (fun i v wr => ∃ (j : Nat) (u : Value), i = .int .i64 j ∧ u = v ∧ j ≤ n ∧ Hid (OwnM wr w.heap.size u (ms.take j)) ∧ Hid (Below w.heap.size w wr)) (fun i _ _ => n - (intOf i).toNat)
  case atStart => exact ⟨0, _, rfl, rfl, by omega, Lib.hid (OwnC.nil _ _), Lib.hid (Below.refl _ _)⟩
  case round =>
    obtain ⟨j, u, rfl, rfl, hj, hO, hB⟩ := hrel
    by_cases hlt : j < n
    · obtain ⟨b, off, rfl, hbb, hcell⟩ := HU.out (by rw [HN.out]; omega)
      obtain ⟨m, hxj⟩ : ∃ m, ms[j]? = some m := ⟨_, List.getElem?_eq_getElem (by rw [HN.out]; omega)⟩
      obtain ⟨k0, k1, k2, k3, k4, k5⟩ := mb_range (range_below (hcell j _ hxj) hB.out hbb)
      have HS : Hid (ms.take (j + 1) = ms.take j ++ [m]) := Lib.hid (by
        have hj' : j < ms.length := by rw [HN.out]; exact hlt
        have : ms[j] = m := by rw [List.getElem?_eq_getElem hj'] at hxj; exact Option.some.inj hxj
        rw [List.take_succ_eq_append_getElem hj', this])
      have HLen : Hid ((ms.take j).length = j) := Lib.hid (by rw [List.length_take, HN.out]; omega)
      have z1 : (0 : Int) ≤ (j : Int) := by omega
      have z2 : (j : Int) < (n : Int) := by omega
      have HC := Lib.hid (fun W => plain19_any m W)
      have B1 : Hid (Below wr.heap.size wr (wr.alloc (.cells m.cells 197))) := Lib.hid (by (repeat (first | exact Below.refl _ _ | assumption | (refine Below.allocT ?_ _) | refine Below.drew ?_ | refine below_drewN ?_ _ | (refine Below.then ?_ (by assumption)) | (refine Below.setRow ?_ ?_ _; rotate_left; (focus (first | exact Nat.lt_succ_self _ | ((repeat rw [World.size_alloc]); omega) | (simp; done) | (simp; omega) | omega))) | (refine Below.setCell ?_ ?_ _; rotate_left; (focus (first | exact Nat.lt_succ_self _ | ((repeat rw [World.size_alloc]); omega) | (simp; done) | (simp; omega) | omega))) | (refine Below.then' ?_ (by assumption) ?_; rotate_left; (focus (first | exact Nat.lt_succ_self _ | ((repeat rw [World.size_alloc]); omega) | (simp; done) | (simp; omega) | omega))) | fail)); (first | done | fail))
      clear hcell hxj
      go_wp2_with fail
      refine (HC.out _).mono ?_
      rintro e w3 ⟨rfl, hb3⟩
      have B3 := Lib.hid (B1.out.trans (hb3.mono B1.out.size))
      have B3w := Lib.hid (hB.out.trans (B3.out.mono hB.out.size))
      have O3 := Lib.hid (hO.out.stay B3.out)
      clear hb3 B1
      go_wp2_with (at_builtin; refine wpList_append_c rmbs_under rmb_three rfl (by decide) (by decide) Mb.cells_size Mb.cells_one rfl _ _ rfl w.heap.size u (ms.take j) rfl (O3.out.stay ((Below.refl _ _).alloc (Nat.le_refl _) _)) _ 1 m rfl (row_at _ _ _ _ rfl) j HLen.out (by rw [HLen.out]; omega) (by have := B3w.out.size; simp only [World.size_alloc]; omega) ?_; intro A' cap w4 hO4 hg4; have HO4 := Lib.hid hO4; have B4 := Lib.hid (below_grown_c (B3w.out.alloc B3w.out.size _) (Nat.le_refl _) (O3.out.stay ((Below.refl _ _).alloc (Nat.le_refl _) _)) hg4); clear hO4 hg4)
      exact ⟨⟨j + 1, _, by go_num, rfl, by omega, by rw [HS.out]; exact HO4, B4⟩, by simp [intOf]; omega⟩
    · obtain rfl : n = j := by omega
      have hO' := hO.out
      rw [List.take_of_length_le (by rw [HN.out]; exact Nat.le_refl _)] at hO'
      obtain ⟨A', c', rfl, h1, _, _⟩ := hO'.form Mb.cells_size
      have H1 := Lib.hid h1
      clear hO hO' h1 HU
      go_wp2_with fail
      go_ret
      exact ⟨A', c', rfl, H1.out, hB.out⟩
end Go.Proofs.Ytnakkjgnjffkpaa

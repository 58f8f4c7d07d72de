/-
  A member as the document has it (bullionlaw19.Plain).
-/
import Derived.Test.YtfdjmpaikbaepaaBallot3
import Derived.Test.YtfdjmpaikbaepaaAgg
import Derived.Deep.CutBlock
namespace Go.Proofs.Ytfdjmpaikbaepaa
open Go.RowKit
set_option linter.unusedVariables false

set_option maxRecDepth 100000 in
theorem built_rmb (m : Mb) : Try.prog.built 106 [(0, .agg m.s.cells), (1, .int .i64 m.owner), (2, .int .i64 m.status)] = some m.cells := by kernel_rfl
set_option maxRecDepth 100000 in
set_option maxHeartbeats 200000 in
theorem plain19_any (m : Mb) (w : World) : Calls Try.prog 74 #[.agg m.cells] w fun e w' => e = .returned (.agg m.cells) ∧ Below w.heap.size w w' := by
  have r0 : row ((w.alloc (.cells m.cells 73)).alloc (.cells #[.int .u64 0, .int .u64 0, .int .u64 0, .int .i64 0, .int .i64 0, .int .i64 0] 106)) w.heap.size = some m.cells := (by (repeat (first | assumption | (refine row_at _ _ _ _ ?_; first | rfl | (simp only [World.size_alloc]; done) | (simp only [World.size_alloc]; omega)) | (refine (row_past _ _ _ ?_).trans ?_; (focus (first | exact Nat.lt_succ_self _ | ((repeat rw [World.size_alloc]); omega) | (simp; done) | (simp; omega) | omega))) | rw [row_drewN] | rw [row_drew])); (first | done | fail))
  have s0 : row ((w.alloc (.cells m.cells 73)).alloc (.cells #[.int .u64 0, .int .u64 0, .int .u64 0, .int .i64 0, .int .i64 0, .int .i64 0] 106)) (w.heap.size + 1) = some #[.int .u64 0, .int .u64 0, .int .u64 0, .int .i64 0, .int .i64 0, .int .i64 0] := (by (repeat (first | assumption | (refine row_at _ _ _ _ ?_; first | rfl | (simp only [World.size_alloc]; done) | (simp only [World.size_alloc]; omega)) | (refine (row_past _ _ _ ?_).trans ?_; (focus (first | exact Nat.lt_succ_self _ | ((repeat rw [World.size_alloc]); omega) | (simp; done) | (simp; omega) | omega))) | rw [row_drewN] | rw [row_drew])); (first | done | fail))
  have hB0 : Below w.heap.size w ((w.alloc (.cells m.cells 73)).alloc (.cells #[.int .u64 0, .int .u64 0, .int .u64 0, .int .i64 0, .int .i64 0, .int .i64 0] 106)) := (by (repeat (first | exact Below.refl _ _ | assumption | (refine Below.allocT ?_ _) | refine Below.drew ?_ | refine below_drewN ?_ _ | (refine Below.then ?_ (by assumption)) | (refine Below.setRow ?_ ?_ _; rotate_left; (focus (first | exact Nat.lt_succ_self _ | ((repeat rw [World.size_alloc]); omega) | (simp; done) | (simp; omega) | omega))) | (refine Below.setCell ?_ ?_ _; rotate_left; (focus (first | exact Nat.lt_succ_self _ | ((repeat rw [World.size_alloc]); omega) | (simp; done) | (simp; omega) | omega))) | (refine Below.then' ?_ (by assumption) ?_; rotate_left; (focus (first | exact Nat.lt_succ_self _ | ((repeat rw [World.size_alloc]); omega) | (simp; done) | (simp; omega) | omega))) | fail)); (first | done | fail))
  go_enter Try.func74, Try.ntmps74
  go_upto_region 1 with fail
  generalize (w.alloc (.cells m.cells 73)).alloc (.cells #[.int .u64 0, .int .u64 0, .int .u64 0, .int .i64 0, .int .i64 0, .int .i64 0] 106) = w0 at *
  have c1 := fun i => row_cell r0 i
  obtain ⟨t3, ht3⟩ := row_heap (row_setRow (new := m.cells) s0)
  have HT3 := Lib.hid ht3
  clear ht3
  go_wp2_with (refine wpList_build_to m.cells rfl 106 _ rfl (by kernel_rfl) ?_)
  exact bodyPost_ret (v := .agg m.cells) (results_cell_row Try.results74 _ _ (w.heap.size + 1) _ m.cells (0, 0) _ rfl HT3.out rmb_under rfl rmb_info) rfl ⟨rfl, Below.setRow hB0 (by omega) _⟩
theorem rmbs_under : Try.prog.underlying 80 = some (.slice 106) := by kernel_rfl
theorem rmb_three : (Try.prog.info? 106).map (fun i => (i.zero, i.size, i.bytes)) = some (some (.agg #[.int .u64 0, .int .u64 0, .int .u64 0, .int .i64 0, .int .i64 0, .int .i64 0]), 6, 48) := by kernel_rfl
abbrev OwnM (W : World) (B : Nat) (v : Value) (l : List Mb) : Prop := OwnC 106 6 Mb.cells W B v l
end Go.Proofs.Ytfdjmpaikbaepaa

/-
  What package member's functions answer.
-/
import Derived.Test.YtkfbnaafpikgfaaMb
import Derived.Test.YtkfbnaafpikgfaaGrain2
import Derived.Test.YtkfbnaafpikgfaaScore2
namespace Go.Proofs.Ytkfbnaafpikgfaa
open Go.RowKit
set_option linter.unusedVariables false

def endM (m : Mb) (status : Int) : Mb := ⟨⟨0, 0, m.s.score, 0⟩, m.owner, status⟩
def startB (P : Par) (m : Mb) : Bool := rightB P && (decide (m.status = 1) && (decide (P.floor < m.s.bal) && decide (m.s.bal ≤ P.cap)))
def startM (P : Par) (m : Mb) : Mb := if startB P m then ⟨⟨m.s.bal, wholeN P m.s.bal, m.s.score, 0⟩, m.owner, 2⟩ else m
set_option maxHeartbeats 1000000 in
theorem mend_any (m : Mb) (status : Int) (w : World) : Calls Try.prog 36 #[.agg m.cells, .int .i64 status] w fun e w' => e = .returned (.tuple #[.agg (endM m status).cells, .int .u64 m.s.bal]) ∧ Below w.heap.size w w' := by
  have HV : Hid (endM m status = ⟨⟨0, 0, m.s.score, 0⟩, m.owner, status⟩) := Lib.hid rfl
  go_enter Try.func36, Try.ntmps36
  go_wp2_with fail
  exact bodyPost_ret (v := .tuple #[.agg (Mb.cells _), .int .u64 m.s.bal]) (results_cell_tmp Try.results36 _ _ (w.heap.size + 1) _ (Mb.cells _) (0, 0) _ rfl (heap_at _ _ _ (by simp)) mb_under rfl mb_info) rfl ⟨by rw [HV.out], (by (repeat (first | exact Below.refl _ _ | assumption | (refine Below.allocT ?_ _) | refine Below.drew ?_ | refine below_drewN ?_ _ | (refine Below.then ?_ (by assumption)) | (refine Below.setRow ?_ ?_ _; rotate_left; (focus (first | exact Nat.lt_succ_self _ | ((repeat rw [World.size_alloc]); omega) | (simp; done) | (simp; omega) | omega))) | (refine Below.setCell ?_ ?_ _; rotate_left; (focus (first | exact Nat.lt_succ_self _ | ((repeat rw [World.size_alloc]); omega) | (simp; done) | (simp; omega) | omega))) | (refine Below.then' ?_ (by assumption) ?_; rotate_left; (focus (first | exact Nat.lt_succ_self _ | ((repeat rw [World.size_alloc]); omega) | (simp; done) | (simp; omega) | omega))) | fail)); (first | done | fail))⟩
end Go.Proofs.Ytkfbnaafpikgfaa

/-
  The frame of each proof: what came in is opened to numbers, and reads behind the call as it did where nothing old has turned.
-/
import Derived.Test.YtkkncijbedfdfaaMem
import Derived.ProofKit
import Derived.OpenShut
import Derived.ShutString
import Derived.ChangeOld
import Derived.Below
namespace Go.Proofs.Ytkkncijbedfdfaa
open Go.ChangeShapes Go.WideShapes Go.ChangeAt Go.RowKit
set_option linter.unusedVariables false

theorem own_knob : ownKnob Try.prog.godebug = none := by kernel_rfl
theorem laid_out : laidOutB Try.prog = true := by kernel_rfl

section
variable {H : Type} {enc : TypeId × Value → H} {P : Program}
theorem trodAll_stay (hl : laidOutB P = true) {W W' : World} (hb : Below W.heap.size W W') : ∀ {ts : List TypeId} {vs : List Value} {ds : List (DataW H)} {ps : List MemPlace},
    (ts.all fun t => P.readableRec t && decide (t < P.types.size)) = true → DataW.TrodAll enc P W 0 (fun _ => true) true ts vs ds ps → (∀ x ∈ ps, x.block < W.heap.size) →
    DataW.TrodAll enc P W' 0 (fun b => decide (b < W.heap.size)) true ts vs ds ps
  | [], [], [], ps, _, h, _ => h
  | t :: ts, v :: vs, d :: ds, ps, ha, h, hlt => by
    obtain ⟨p, q, h1, h2, rfl⟩ := h
    simp only [List.all_cons, Bool.and_eq_true, decide_eq_true_eq] at ha
    exact ⟨p, q, Below.trod hl ha.1.1 ha.1.2 h1 hb (fun x hx => hlt x (by simp [hx])), trodAll_stay hl hb ha.2 h2 (fun x hx => hlt x (by simp [hx])), rfl⟩
  | [], _ :: _, _, _, _, h, _ => by simp [DataW.TrodAll] at h
  | [], [], _ :: _, _, _, h, _ => by simp [DataW.TrodAll] at h
  | _ :: _, [], _, _, _, h, _ => by simp [DataW.TrodAll] at h
  | _ :: _, _ :: _, [], _, _, h, _ => by simp [DataW.TrodAll] at h

variable {w : World} {base : Nat} {spare : Nat → Bool} {held : Bool}
theorem take_one {l : List Value} {i : Nat} {a : Value} (h : (l.drop i).take 1 = [a]) : l[i]? = some a := by
  have h1 : (l.drop i)[0]? = some a := by
    have : ((l.drop i).take 1)[0]? = some a := by rw [h]; rfl
    rwa [List.getElem?_take_of_lt (by omega)] at this
  simpa using h1
/-- The cells of a struct: field by field. -/
theorem flat_cells {t : TypeId} {cs : List Value} {fuel : Nat} {x : DataW H × List MemPlace} (hs : P.underlying t = some (.struct (P.fieldsOf t))) (h : DataW.trod enc P w base spare held fuel t cs = some x) :
    cs.length = P.cellsOf t ∧ ∀ (j : Nat) (ty off : Nat), ((P.fieldsOf t)[j]?.map fun f => (f.type, f.offset)) = some (ty, off) → ∃ y n, DataW.trod enc P w base spare held n ty ((cs.drop off).take (P.cellsOf ty)) = some y := by
  obtain ⟨xs, n, _, _, hl, hx, hf⟩ := DataW.trod_struct hs h
  refine ⟨hl, fun j ty off hj => ?_⟩
  obtain ⟨f, hfj, he⟩ := Option.map_eq_some_iff.1 hj
  simp only [Prod.mk.injEq] at he
  obtain ⟨rfl, rfl⟩ := he
  have hlt : j < xs.length := by
    have := (Array.getElem?_eq_some_iff.1 hfj).1
    omega
  exact ⟨xs[j], n, by rw [hf j f hfj]; exact List.getElem?_eq_getElem hlt⟩
theorem at_int {cs : List Value} {ty off : Nat} {k : IntKind} (hu : P.underlying ty = some (.int k)) (hc : P.cellsOf ty = 1) (h : ∃ y n, DataW.trod enc P w base spare held n ty ((cs.drop off).take (P.cellsOf ty)) = some y) :
    ∃ z, cs[off]? = some (.int k z) ∧ (Lit.int k z).wf = true := by
  obtain ⟨y, n, h⟩ := h
  rw [hc] at h
  obtain ⟨z, hz, _, hw⟩ := DataW.trod_int hu h
  exact ⟨z, take_one hz, hw⟩
theorem at_u64 {cs : List Value} {ty off : Nat} (hu : P.underlying ty = some (.int .u64)) (hc : P.cellsOf ty = 1) (h : ∃ y n, DataW.trod enc P w base spare held n ty ((cs.drop off).take (P.cellsOf ty)) = some y) :
    ∃ z : Nat, cs[off]? = some (.int .u64 z) ∧ z < 18446744073709551616 := by
  obtain ⟨z, hz, hw⟩ := at_int hu hc h
  have hx : 0 ≤ z ∧ z ≤ 18446744073709551615 := by simpa [Lit.wf, IntKind.min, IntKind.max, IntKind.signed, IntKind.bits] using hw
  obtain ⟨n, rfl⟩ := Int.eq_ofNat_of_zero_le hx.1
  exact ⟨n, hz, by omega⟩
theorem at_i64 {cs : List Value} {ty off : Nat} (hu : P.underlying ty = some (.int .i64)) (hc : P.cellsOf ty = 1) (h : ∃ y n, DataW.trod enc P w base spare held n ty ((cs.drop off).take (P.cellsOf ty)) = some y) :
    ∃ z : Int, cs[off]? = some (.int .i64 z) ∧ i64ok z := by
  obtain ⟨z, hz, hw⟩ := at_int hu hc h
  have hx : -9223372036854775808 ≤ z ∧ z ≤ 9223372036854775807 := by simpa [Lit.wf, IntKind.min, IntKind.max, IntKind.signed, IntKind.bits] using hw
  exact ⟨z, hz, hx⟩
theorem at_bool {cs : List Value} {ty off : Nat} (hu : P.underlying ty = some .bool) (hc : P.cellsOf ty = 1) (h : ∃ y n, DataW.trod enc P w base spare held n ty ((cs.drop off).take (P.cellsOf ty)) = some y) :
    ∃ z : Bool, cs[off]? = some (.bool z) := by
  obtain ⟨y, n, h⟩ := h
  rw [hc] at h
  obtain ⟨z, hz, _⟩ := DataW.trod_bool hu h
  exact ⟨z, take_one hz⟩
theorem list_ext {l m : List Value} (n : Nat) (hl : l.length = n) (hm : m.length = n) (h : ∀ i, i < n → l[i]? = m[i]?) : l = m := by
  apply List.ext_getElem?
  intro i
  by_cases hi : i < n
  · exact h i hi
  · rw [List.getElem?_eq_none (by omega), List.getElem?_eq_none (by omega)]
theorem wf_u64 {z : Int} (hw : (Lit.int .u64 z).wf = true) : ∃ n : Nat, z = (n : Int) ∧ n < 18446744073709551616 := by
  have hx : 0 ≤ z ∧ z ≤ 18446744073709551615 := by simpa [Lit.wf, IntKind.min, IntKind.max, IntKind.signed, IntKind.bits] using hw
  obtain ⟨n, rfl⟩ := Int.eq_ofNat_of_zero_le hx.1
  exact ⟨n, rfl, by omega⟩
theorem wf_i64 {z : Int} (hw : (Lit.int .i64 z).wf = true) : i64ok z := by
  have hx : -9223372036854775808 ≤ z ∧ z ≤ 9223372036854775807 := by simpa [Lit.wf, IntKind.min, IntKind.max, IntKind.signed, IntKind.bits] using hw
  exact hx
end
theorem under_u64 : Try.prog.underlying 38 = some (.int .u64) := by kernel_rfl
theorem cells_u64 : Try.prog.cellsOf 38 = 1 := by kernel_rfl
theorem under_i64 : Try.prog.underlying 3 = some (.int .i64) := by kernel_rfl
theorem cells_i64 : Try.prog.cellsOf 3 = 1 := by kernel_rfl
theorem under_bool : Try.prog.underlying 4 = some .bool := by kernel_rfl
theorem cells_bool : Try.prog.cellsOf 4 = 1 := by kernel_rfl
end Go.Proofs.Ytkkncijbedfdfaa

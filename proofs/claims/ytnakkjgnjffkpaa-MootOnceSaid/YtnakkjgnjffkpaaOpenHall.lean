/-
  Motions and members, and a list of votes, that came in.
-/
import Derived.Test.YtnakkjgnjffkpaaOpenMot
import Derived.Test.YtnakkjgnjffkpaaOpenMb
import Derived.Test.YtnakkjgnjffkpaaOpenS
namespace Go.Proofs.Ytnakkjgnjffkpaa
open Go.ChangeShapes Go.WideShapes Go.ChangeAt Go.RowKit Go.Deep
set_option linter.unusedVariables false

section
variable {H : Type} {enc : TypeId × Value → H} {W : World} {spare : Nat → Bool} {held : Bool}
theorem at_nilcap {t e : TypeId} {cs : List Value} {off : Nat} (hu : Try.prog.underlying t = some (.slice e)) (h1 : Try.prog.cellsOf t = 1)
    (h : ∃ y n, DataW.trod enc Try.prog W 0 spare held n t ((cs.drop off).take (Try.prog.cellsOf t)) = some y) {A : Option Addr} {n c : Nat} (hc : cs[off]? = some (.slice A n c)) : A = none → c = 0 := fun hA => by
  obtain ⟨y, k, h⟩ := h
  rw [h1] at h
  rcases open_slice hu h with ⟨hcs, _⟩ | ⟨a, len, cap, m, fu, D, Pl, hcs, _⟩
  · have := take_one hcs
    rw [hc] at this
    cases this; rfl
  · have := take_one hcs
    rw [hc, hA] at this
    cases this
theorem hall_under0 : Try.prog.underlying 111 = some (.struct (Try.prog.fieldsOf 111)) := by kernel_rfl
theorem mbs_under0 : Try.prog.underlying 109 = some (.slice 197) := by kernel_rfl
set_option maxRecDepth 100000 in
set_option maxHeartbeats 2000000 in
theorem open_hall {r : Reach} {b0 : Nat} {v : Value} {d : DataW H} {p : List MemPlace}
    (hv : Value.okWide Try.prog W r b0 111 v) (h : DataW.Trod enc Try.prog W 0 spare held 111 v d p) :
    ∃ A n c xs A1 n1 c1 ms, v = .agg #[.slice A n c, .slice A1 n1 c1] ∧ xs.length = n ∧ n ≤ 9223372036854775807 ∧ ML W A xs ∧ (A = none → c = 0) ∧ ms.length = n1 ∧ (∀ m ∈ ms, m.Ok) ∧ SliceOf 6 Mb.cells W A1 ms := by
  obtain ⟨⟨l⟩, rfl, _⟩ := okWide_struct hall_under0 hv
  obtain ⟨fuel, hf⟩ := h
  obtain ⟨hlen, hF⟩ := flat_cells hall_under0 hf
  have hlen' : l.length = 2 := hlen.trans (by kernel_rfl)
  have h0 := hF 0 77 0 (by kernel_rfl)
  have h1 := hF 1 109 1 (by kernel_rfl)
  obtain ⟨A, n, c, xs, e0, q0, o0, k0, s0⟩ := at_slice 33 motC (MotIn W) mots_under0 (by kernel_rfl) (by omega) (by kernel_rfl) (fun l fuel x hx => open_mot_cs hx) h0
  obtain ⟨A1, n1, c1, ms, e1, q1, o1, k1, s1⟩ := at_slice 6 Mb.cells Mb.Ok mbs_under0 (by kernel_rfl) (by omega) (by kernel_rfl) (fun l fuel x hx => mb_of hx) h1
  have hz := at_nilcap mots_under0 (by kernel_rfl) h0 e0
  refine ⟨A, n, c, xs, A1, n1, c1, ms, ?_, q0, k0, ML.of_in s0 o0, hz, q1, o1, s1⟩
  have hl : l = [.slice A n c, .slice A1 n1 c1] := list_ext 2 hlen' rfl (fun i hi => by
    match i with
    | 0 => exact e0
    | 1 => exact e1
    | n + 2 => omega)
  rw [hl]
theorem ways_under0 : Try.prog.underlying 123 = some (.slice 97) := by kernel_rfl
set_option maxRecDepth 100000 in
theorem open_ways {r : Reach} {b0 : Nat} {v : Value} {d : DataW H} {p : List MemPlace}
    (hv : Value.okWide Try.prog W r b0 123 v) (h : DataW.Trod enc Try.prog W 0 spare held 123 v d p) :
    ∃ A n c xs, v = .slice A n c ∧ xs.length = n ∧ (∀ x ∈ xs, Way.Ok x) ∧ n ≤ 9223372036854775807 ∧ SliceOf 5 wayC W A xs :=
  open_slice_of 5 wayC Way.Ok ways_under0 (by kernel_rfl) (by omega) (fun l fuel x hx => open_way_cs hx) hv h
end
end Go.Proofs.Ytnakkjgnjffkpaa

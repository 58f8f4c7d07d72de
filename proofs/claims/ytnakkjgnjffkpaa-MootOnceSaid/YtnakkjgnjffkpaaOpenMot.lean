/-
  Motions that came in; a place, a member, a vote, an epoch and a quorum.
-/
import Derived.Test.YtnakkjgnjffkpaaMot
import Derived.Test.YtnakkjgnjffkpaaOpenB
namespace Go.Proofs.Ytnakkjgnjffkpaa
open Go.ChangeShapes Go.WideShapes Go.ChangeAt Go.RowKit Go.Deep
set_option linter.unusedVariables false

section
variable {H : Type} {enc : TypeId × Value → H} {W : World} {spare : Nat → Bool} {held : Bool}
theorem in_part {cs : List Value} {o n k : Nat} {v : Value} (hk : k < n) (h : ((cs.drop o).take n)[k]? = some v) : cs[o + k]? = some v := by
  rw [List.getElem?_take_of_lt hk, List.getElem?_drop] at h
  exact h
/-- A motion as it came in. -/
structure MotIn (W : World) (x : Mot × MotA) : Prop where
  ok : x.1.Ok
  at_ : MotAt W x
theorem mot_under0 : Try.prog.underlying 103 = some (.struct (Try.prog.fieldsOf 103)) := by kernel_rfl
set_option maxRecDepth 100000 in
set_option maxHeartbeats 2000000 in
theorem open_mot_cs {l : List Value} {fuel : Nat} {x : DataW H × List MemPlace} (hx : DataW.trod enc Try.prog W 0 spare held fuel 103 l = some x) : ∃ o : Mot × MotA, l = (motC o).toList ∧ MotIn W o := by
  obtain ⟨hlen, hF⟩ := flat_cells mot_under0 hx
  have hlen' : l.length = 33 := hlen.trans (by kernel_rfl)
  obtain ⟨a0, e0, o0⟩ := at_i64 under_i64 cells_i64 (hF 0 3 0 (by kernel_rfl))
  obtain ⟨a1, e1, o1⟩ := at_i64 under_i64 cells_i64 (hF 1 3 1 (by kernel_rfl))
  obtain ⟨y, n, hs⟩ := hF 2 76 2 (by kernel_rfl)
  obtain ⟨_, hG⟩ := flat_cells par_under hs
  have h24 : Try.prog.cellsOf 76 = 24 := by kernel_rfl
  rw [h24] at hG
  obtain ⟨p0, f0, q0⟩ := at_u64 under_u64 cells_u64 (hG 0 33 0 (by kernel_rfl))
  obtain ⟨p1, f1, q1⟩ := at_u64 under_u64 cells_u64 (hG 1 33 1 (by kernel_rfl))
  obtain ⟨p2, f2, q2⟩ := at_u64 under_u64 cells_u64 (hG 2 33 2 (by kernel_rfl))
  obtain ⟨p3, f3, q3⟩ := at_u64 under_u64 cells_u64 (hG 3 33 3 (by kernel_rfl))
  obtain ⟨p4, f4, q4⟩ := at_u64 under_u64 cells_u64 (hG 4 33 4 (by kernel_rfl))
  obtain ⟨p5, f5, q5⟩ := at_u64 under_u64 cells_u64 (hG 5 33 5 (by kernel_rfl))
  obtain ⟨p6, f6, q6⟩ := at_u64 under_u64 cells_u64 (hG 6 33 6 (by kernel_rfl))
  obtain ⟨p7, f7, q7⟩ := at_u64 under_u64 cells_u64 (hG 7 33 7 (by kernel_rfl))
  obtain ⟨p8, f8, q8⟩ := at_u64 under_u64 cells_u64 (hG 8 33 8 (by kernel_rfl))
  obtain ⟨p9, f9, q9⟩ := at_u64 under_u64 cells_u64 (hG 9 33 9 (by kernel_rfl))
  obtain ⟨p10, f10, q10⟩ := at_u64 under_u64 cells_u64 (hG 10 33 10 (by kernel_rfl))
  obtain ⟨p11, f11, q11⟩ := at_u64 under_u64 cells_u64 (hG 11 33 11 (by kernel_rfl))
  obtain ⟨p12, f12, q12⟩ := at_u64 under_u64 cells_u64 (hG 12 33 12 (by kernel_rfl))
  obtain ⟨p13, f13, q13⟩ := at_u64 under_u64 cells_u64 (hG 13 33 13 (by kernel_rfl))
  obtain ⟨p14, f14, q14⟩ := at_i64 under_i64 cells_i64 (hG 14 3 14 (by kernel_rfl))
  obtain ⟨p15, f15, q15⟩ := at_i64 under_i64 cells_i64 (hG 15 3 15 (by kernel_rfl))
  obtain ⟨p16, f16, q16⟩ := at_i64 under_i64 cells_i64 (hG 16 3 16 (by kernel_rfl))
  obtain ⟨p17, f17, q17⟩ := at_i64 under_i64 cells_i64 (hG 17 3 17 (by kernel_rfl))
  obtain ⟨p18, f18, q18⟩ := at_i64 under_i64 cells_i64 (hG 18 3 18 (by kernel_rfl))
  obtain ⟨p19, f19, q19⟩ := at_i64 under_i64 cells_i64 (hG 19 3 19 (by kernel_rfl))
  obtain ⟨p20, f20, q20⟩ := at_i64 under_i64 cells_i64 (hG 20 3 20 (by kernel_rfl))
  obtain ⟨p21, f21, q21⟩ := at_i64 under_i64 cells_i64 (hG 21 3 21 (by kernel_rfl))
  obtain ⟨p22, f22, q22⟩ := at_i64 under_i64 cells_i64 (hG 22 3 22 (by kernel_rfl))
  obtain ⟨p23, f23, q23⟩ := at_i64 under_i64 cells_i64 (hG 23 3 23 (by kernel_rfl))
  obtain ⟨a26, e26, o26⟩ := at_i64 under_i64 cells_i64 (hF 3 3 26 (by kernel_rfl))
  obtain ⟨a27, e27, o27⟩ := at_u64 under_u64 cells_u64 (hF 4 33 27 (by kernel_rfl))
  obtain ⟨a28, e28, o28⟩ := at_i64 under_i64 cells_i64 (hF 5 3 28 (by kernel_rfl))
  obtain ⟨a29, e29, o29⟩ := at_i64 under_i64 cells_i64 (hF 6 3 29 (by kernel_rfl))
  obtain ⟨a30, e30, o30⟩ := at_i64 under_i64 cells_i64 (hF 7 3 30 (by kernel_rfl))
  obtain ⟨A31, c31, x31, e31, b31⟩ := at_bytes (hF 8 64 31 (by kernel_rfl))
  obtain ⟨A32, c32, x32, e32, b32⟩ := at_bytes (hF 9 64 32 (by kernel_rfl))
  refine ⟨(⟨a0, a1, ⟨p0, p1, p2, p3, p4, p5, p6, p7, p8, p9, p10, p11, p12, p13, p14, p15, p16, p17, p18, p19, p20, p21, p22, p23⟩, a26, a27, a28, a29, a30, x31, x32⟩, ⟨A31, c31, A32, c32⟩), list_ext 33 hlen' rfl (fun i hi => ?_), ⟨o0, o1, o26, o27, o28, o29, o30, ⟨q0, q1, q2, q3, q4, q5, q6, q7, q8, q9, q10, q11, q12, q13, q14, q15, q16, q17, q18, q19, q20, q21, q22, q23⟩, ⟨b31.ok, Nat.le_trans b31.cap b31.top⟩, ⟨b32.ok, Nat.le_trans b32.cap b32.top⟩⟩, ⟨b31.bys, b32.bys, b31.nil, b32.nil⟩⟩
  match i with
  | 0 => exact e0
  | 1 => exact e1
  | 2 => exact in_part (o := 2) (by omega) f0
  | 3 => exact in_part (o := 2) (by omega) f1
  | 4 => exact in_part (o := 2) (by omega) f2
  | 5 => exact in_part (o := 2) (by omega) f3
  | 6 => exact in_part (o := 2) (by omega) f4
  | 7 => exact in_part (o := 2) (by omega) f5
  | 8 => exact in_part (o := 2) (by omega) f6
  | 9 => exact in_part (o := 2) (by omega) f7
  | 10 => exact in_part (o := 2) (by omega) f8
  | 11 => exact in_part (o := 2) (by omega) f9
  | 12 => exact in_part (o := 2) (by omega) f10
  | 13 => exact in_part (o := 2) (by omega) f11
  | 14 => exact in_part (o := 2) (by omega) f12
  | 15 => exact in_part (o := 2) (by omega) f13
  | 16 => exact in_part (o := 2) (by omega) f14
  | 17 => exact in_part (o := 2) (by omega) f15
  | 18 => exact in_part (o := 2) (by omega) f16
  | 19 => exact in_part (o := 2) (by omega) f17
  | 20 => exact in_part (o := 2) (by omega) f18
  | 21 => exact in_part (o := 2) (by omega) f19
  | 22 => exact in_part (o := 2) (by omega) f20
  | 23 => exact in_part (o := 2) (by omega) f21
  | 24 => exact in_part (o := 2) (by omega) f22
  | 25 => exact in_part (o := 2) (by omega) f23
  | 26 => exact e26
  | 27 => exact e27
  | 28 => exact e28
  | 29 => exact e29
  | 30 => exact e30
  | 31 => exact e31
  | 32 => exact e32
  | n + 33 => omega
theorem mots_under0 : Try.prog.underlying 77 = some (.slice 103) := by kernel_rfl
theorem ML.of_in {A : Option Addr} {xs : List (Mot × MotA)} (h : SliceOf 33 motC W A xs) (hi : ∀ x ∈ xs, MotIn W x) : ML W A xs := ⟨h, fun x hx => (hi x hx).at_, fun x hx => (hi x hx).ok⟩
set_option maxRecDepth 100000 in
theorem open_mots {r : Reach} {b0 : Nat} {v : Value} {d : DataW H} {p : List MemPlace}
    (hv : Value.okWide Try.prog W r b0 77 v) (h : DataW.Trod enc Try.prog W 0 spare held 77 v d p) :
    ∃ A n c xs, v = .slice A n c ∧ xs.length = n ∧ n ≤ 9223372036854775807 ∧ ML W A xs ∧ (A = none → c = 0) := by
  obtain ⟨A, n, c, rfl⟩ := okWide_slice mots_under0 hv
  have hz : A = none → c = 0 := fun hA => by
    obtain ⟨fuel, hf⟩ := h
    rcases open_slice mots_under0 hf with ⟨hcs, _⟩ | ⟨a, len, cap, m, fu, D, Pl, hcs, _⟩
    · simp [Value.cells] at hcs
      exact hcs.2.2
    · simp [Value.cells] at hcs
      rw [hA] at hcs; cases hcs.1
  obtain ⟨A', n', c', xs, he, h1, h2, h3, h4⟩ := open_slice_of 33 motC (MotIn W) mots_under0 (by kernel_rfl) (by omega) (fun l fuel x hx => open_mot_cs hx) hv h
  cases he
  exact ⟨A, n, c, xs, rfl, h1, h3, ML.of_in h4 h2, hz⟩
end
structure Way where
  i : Int
  member : Int
  epoch : Int
  yes : Bool
  quorum : Bool
def wayC (x : Way) : Array Value := #[.int .i64 x.i, .int .i64 x.member, .int .i64 x.epoch, .bool x.yes, .bool x.quorum]
structure Way.Ok (x : Way) : Prop where
  i : i64ok x.i
  member : i64ok x.member
  epoch : i64ok x.epoch
theorem way_under0 : Try.prog.underlying 97 = some (.struct (Try.prog.fieldsOf 97)) := by kernel_rfl
section
variable {H : Type} {enc : TypeId × Value → H} {W : World} {spare : Nat → Bool} {held : Bool}
set_option maxRecDepth 100000 in
theorem open_way_cs {l : List Value} {fuel : Nat} {x : DataW H × List MemPlace} (hx : DataW.trod enc Try.prog W 0 spare held fuel 97 l = some x) : ∃ o : Way, l = (wayC o).toList ∧ o.Ok := by
  obtain ⟨hlen, hF⟩ := flat_cells way_under0 hx
  have hlen' : l.length = 5 := hlen.trans (by kernel_rfl)
  obtain ⟨a0, e0, o0⟩ := at_i64 under_i64 cells_i64 (hF 0 3 0 (by kernel_rfl))
  obtain ⟨a1, e1, o1⟩ := at_i64 under_i64 cells_i64 (hF 1 3 1 (by kernel_rfl))
  obtain ⟨a2, e2, o2⟩ := at_i64 under_i64 cells_i64 (hF 2 3 2 (by kernel_rfl))
  obtain ⟨a3, e3⟩ := at_bool under_bool (by kernel_rfl) (hF 3 4 3 (by kernel_rfl))
  obtain ⟨a4, e4⟩ := at_bool under_bool (by kernel_rfl) (hF 4 4 4 (by kernel_rfl))
  refine ⟨⟨a0, a1, a2, a3, a4⟩, list_ext 5 hlen' rfl (fun i hi => ?_), o0, o1, o2⟩
  match i with
  | 0 => exact e0
  | 1 => exact e1
  | 2 => exact e2
  | 3 => exact e3
  | 4 => exact e4
  | n + 5 => omega
set_option maxRecDepth 100000 in
theorem open_way {r : Reach} {b0 : Nat} {v : Value} {d : DataW H} {p : List MemPlace}
    (hv : Value.okWide Try.prog W r b0 97 v) (h : DataW.Trod enc Try.prog W 0 spare held 97 v d p) : ∃ x, v = .agg (wayC x) ∧ x.Ok := by
  obtain ⟨⟨l⟩, rfl, _⟩ := okWide_struct way_under0 hv
  obtain ⟨fuel, hf⟩ := h
  obtain ⟨x, rfl, ho⟩ := open_way_cs hf
  exact ⟨x, rfl, ho⟩
end
end Go.Proofs.Ytnakkjgnjffkpaa

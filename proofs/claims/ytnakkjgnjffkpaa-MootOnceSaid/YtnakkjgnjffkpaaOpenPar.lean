/-
  Parameters that came in are 24 numbers.
-/
import Derived.Test.YtnakkjgnjffkpaaFrame
import Derived.Test.YtnakkjgnjffkpaaPar
namespace Go.Proofs.Ytnakkjgnjffkpaa
open Go.ChangeShapes Go.WideShapes Go.ChangeAt Go.RowKit
set_option linter.unusedVariables false
structure Par.Ok (p : Par) : Prop where
  inc : p.inc < 18446744073709551616
  maxEff : p.maxEff < 18446744073709551616
  floor : p.floor < 18446744073709551616
  cap : p.cap < 18446744073709551616
  up : p.up < 18446744073709551616
  down : p.down < 18446744073709551616
  bias : p.bias < 18446744073709551616
  quot : p.quot < 18446744073709551616
  biasEm : p.biasEm < 18446744073709551616
  quotEm : p.quotEm < 18446744073709551616
  recover : p.recover < 18446744073709551616
  scoreCap : p.scoreCap < 18446744073709551616
  rate : p.rate < 18446744073709551616
  bond : p.bond < 18446744073709551616
  delay : i64ok p.delay
  streak : i64ok p.streak
  boost : i64ok p.boost
  absent : i64ok p.absent
  burn : i64ok p.burn
  churn : i64ok p.churn
  wait : i64ok p.wait
  poll : i64ok p.poll
  enact : i64ok p.enact
  quorum : i64ok p.quorum

set_option maxRecDepth 100000 in
theorem open_par {H : Type} {enc : TypeId × Value → H} {W : World} {base : Nat} {spare : Nat → Bool} {held : Bool} {r : Reach} {b0 : Nat} {v : Value} {d : DataW H} {p : List MemPlace}
    (hv : Value.okWide Try.prog W r b0 76 v) (h : DataW.Trod enc Try.prog W base spare held 76 v d p) : ∃ Q : Par, v = .agg Q.cells ∧ Q.Ok := by
  obtain ⟨⟨l⟩, rfl, _⟩ := okWide_struct par_under hv
  obtain ⟨fuel, hf⟩ := h
  obtain ⟨hlen, hF⟩ := flat_cells par_under hf
  have hlen' : l.length = 24 := hlen.trans (by kernel_rfl)
  obtain ⟨a0, e0, o0⟩ := at_u64 under_u64 cells_u64 (hF 0 33 0 (by kernel_rfl))
  obtain ⟨a1, e1, o1⟩ := at_u64 under_u64 cells_u64 (hF 1 33 1 (by kernel_rfl))
  obtain ⟨a2, e2, o2⟩ := at_u64 under_u64 cells_u64 (hF 2 33 2 (by kernel_rfl))
  obtain ⟨a3, e3, o3⟩ := at_u64 under_u64 cells_u64 (hF 3 33 3 (by kernel_rfl))
  obtain ⟨a4, e4, o4⟩ := at_u64 under_u64 cells_u64 (hF 4 33 4 (by kernel_rfl))
  obtain ⟨a5, e5, o5⟩ := at_u64 under_u64 cells_u64 (hF 5 33 5 (by kernel_rfl))
  obtain ⟨a6, e6, o6⟩ := at_u64 under_u64 cells_u64 (hF 6 33 6 (by kernel_rfl))
  obtain ⟨a7, e7, o7⟩ := at_u64 under_u64 cells_u64 (hF 7 33 7 (by kernel_rfl))
  obtain ⟨a8, e8, o8⟩ := at_u64 under_u64 cells_u64 (hF 8 33 8 (by kernel_rfl))
  obtain ⟨a9, e9, o9⟩ := at_u64 under_u64 cells_u64 (hF 9 33 9 (by kernel_rfl))
  obtain ⟨a10, e10, o10⟩ := at_u64 under_u64 cells_u64 (hF 10 33 10 (by kernel_rfl))
  obtain ⟨a11, e11, o11⟩ := at_u64 under_u64 cells_u64 (hF 11 33 11 (by kernel_rfl))
  obtain ⟨a12, e12, o12⟩ := at_u64 under_u64 cells_u64 (hF 12 33 12 (by kernel_rfl))
  obtain ⟨a13, e13, o13⟩ := at_u64 under_u64 cells_u64 (hF 13 33 13 (by kernel_rfl))
  obtain ⟨a14, e14, o14⟩ := at_i64 under_i64 cells_i64 (hF 14 3 14 (by kernel_rfl))
  obtain ⟨a15, e15, o15⟩ := at_i64 under_i64 cells_i64 (hF 15 3 15 (by kernel_rfl))
  obtain ⟨a16, e16, o16⟩ := at_i64 under_i64 cells_i64 (hF 16 3 16 (by kernel_rfl))
  obtain ⟨a17, e17, o17⟩ := at_i64 under_i64 cells_i64 (hF 17 3 17 (by kernel_rfl))
  obtain ⟨a18, e18, o18⟩ := at_i64 under_i64 cells_i64 (hF 18 3 18 (by kernel_rfl))
  obtain ⟨a19, e19, o19⟩ := at_i64 under_i64 cells_i64 (hF 19 3 19 (by kernel_rfl))
  obtain ⟨a20, e20, o20⟩ := at_i64 under_i64 cells_i64 (hF 20 3 20 (by kernel_rfl))
  obtain ⟨a21, e21, o21⟩ := at_i64 under_i64 cells_i64 (hF 21 3 21 (by kernel_rfl))
  obtain ⟨a22, e22, o22⟩ := at_i64 under_i64 cells_i64 (hF 22 3 22 (by kernel_rfl))
  obtain ⟨a23, e23, o23⟩ := at_i64 under_i64 cells_i64 (hF 23 3 23 (by kernel_rfl))
  have hl : l = [.int .u64 a0, .int .u64 a1, .int .u64 a2, .int .u64 a3, .int .u64 a4, .int .u64 a5, .int .u64 a6, .int .u64 a7, .int .u64 a8, .int .u64 a9, .int .u64 a10, .int .u64 a11, .int .u64 a12, .int .u64 a13, .int .i64 a14, .int .i64 a15, .int .i64 a16, .int .i64 a17, .int .i64 a18, .int .i64 a19, .int .i64 a20, .int .i64 a21, .int .i64 a22, .int .i64 a23] := list_ext 24 hlen' rfl (fun i hi => by
    match i with
    | 0 => exact e0
    | 1 => exact e1
    | 2 => exact e2
    | 3 => exact e3
    | 4 => exact e4
    | 5 => exact e5
    | 6 => exact e6
    | 7 => exact e7
    | 8 => exact e8
    | 9 => exact e9
    | 10 => exact e10
    | 11 => exact e11
    | 12 => exact e12
    | 13 => exact e13
    | 14 => exact e14
    | 15 => exact e15
    | 16 => exact e16
    | 17 => exact e17
    | 18 => exact e18
    | 19 => exact e19
    | 20 => exact e20
    | 21 => exact e21
    | 22 => exact e22
    | 23 => exact e23
    | n + 24 => omega)
  subst hl
  exact ⟨{ inc := a0, maxEff := a1, floor := a2, cap := a3, up := a4, down := a5, bias := a6, quot := a7, biasEm := a8, quotEm := a9, recover := a10, scoreCap := a11, rate := a12, bond := a13, delay := a14, streak := a15, boost := a16, absent := a17, burn := a18, churn := a19, wait := a20, poll := a21, enact := a22, quorum := a23 }, rfl, { inc := o0, maxEff := o1, floor := o2, cap := o3, up := o4, down := o5, bias := o6, quot := o7, biasEm := o8, quotEm := o9, recover := o10, scoreCap := o11, rate := o12, bond := o13, delay := o14, streak := o15, boost := o16, absent := o17, burn := o18, churn := o19, wait := o20, poll := o21, enact := o22, quorum := o23 }⟩
end Go.Proofs.Ytnakkjgnjffkpaa

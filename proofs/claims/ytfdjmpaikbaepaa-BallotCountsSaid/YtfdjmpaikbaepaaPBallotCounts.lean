/-
  What any votes of any members weigh, on both sides, is exact, or refused (bullionlaw22.BallotCounts).
  Its statement holds of every input, without a condition.
-/
import Derived.Test.YtfdjmpaikbaepaaFrame
import Derived.Test.YtfdjmpaikbaepaaOpenMb
import Derived.Test.YtfdjmpaikbaepaaOpenB
import Derived.Test.YtfdjmpaikbaepaaLaw22b
namespace Go.Proofs.Ytfdjmpaikbaepaa.ballotCounts
open Go.ChangeShapes Go.WideShapes Go.ChangeAt Go.RowKit
open Go.ChangeMaps (open_string shut_string)
set_option linter.unusedVariables false

set_option maxRecDepth 100000 in
theorem lifted (os : Os) (started : os.Started) (H : Type) (enc : TypeId × Value → H) :
    ReturnsInHanded {} Try.checked os 14 .any (Rows.ballotCountsSpec.pre6 enc Try.prog Try.f14 Rows.ballotCountsRow.domain false) (Rows.ballotCountsSpec.post enc Try.prog Try.f14 false true false false) := by
  refine returnsInHanded_of_change (C := Try.checked) own_knob started (by kernel_rfl) Try.func14
    (ChangeSpec.witness6 (enc := enc) (C := Try.checked) false ⟨#[], #[.slice none 0 0, .slice none 0 0, .slice none 0 0], []⟩ 8 (by kernel_rfl) (by kernel_rfl) (by kernel_rfl) (by kernel_rfl)) ?_
  intro W base args ds gs before hval0 hW hcnd _
  have hval : ∀ (j : Nat) t v, Try.f14.params[j]? = some t → args[j]? = some v → Value.okWide Try.prog W .any base t v := hval0
  have hW' := hW
  obtain ⟨p, q, hA0, hV, rfl, hfz, hnd⟩ := hW
  have hA : DataW.TrodAll enc Try.prog W 0 (fun _ => true) true Try.f14.params.toList args.toList ds p := hA0
  have hK := hA
  have hlt := DataW.TrodAll.lt hK
  rw [Try.params14] at hA hval
  obtain ⟨v0, vs0, d0, ds0, p0, q0, hargs, rfl, rfl, h0, r0⟩ := trodAll_cons hA
  obtain ⟨v1, vs1, d1, ds1, p1, q1, rfl, rfl, rfl, h1, r1⟩ := trodAll_cons r0
  obtain ⟨v2, vs2, d2, ds2, p2, q2, rfl, rfl, rfl, h2, r2⟩ := trodAll_cons r1
  obtain ⟨rfl, rfl, rfl⟩ := trodAll_nil r2
  obtain rfl : args = #[v0, v1, v2] := by cases args; simp_all
  obtain ⟨rfl, rfl⟩ := trodVars_none hV
  clear hA0 hval0
  obtain ⟨A0, n0, c0, xs0, rfl, e0, k0, m0, u0⟩ := open_mbs (hval 0 _ v0 rfl rfl) h0
  obtain ⟨A1, c1, xs1, rfl, u1⟩ := open_bytes (hval 1 _ v1 rfl rfl) h1
  obtain ⟨A2, c2, xs2, rfl, u2⟩ := open_bytes (hval 2 _ v2 rfl rfl) h2
  refine (ballotCounts_any A0 A1 A2 n0 c0 xs1.length c1 xs2.length c2 xs0 xs1 xs2 e0 k0 rfl u1.ok rfl u2.ok W u0 u1.bys u2.bys).mono fun e W' ⟨he, bel⟩ => ?_
  subst he
  exact ⟨_, rfl, _, _, _, [], _, [], hW', trodAll_mk1 (shut_bool under_bool _), trodAll_stay laid_out bel (by kernel_rfl) hK hlt, rfl, bel.frame _, fun h => by cases h⟩

theorem over : Rows.ballotCountsRow.holds Try.pinned (OpenSpec.ofChange Rows.ballotCountsSpec) :=
  OpenClaim.holds_of_wide 14 Try.f14 rfl rfl rfl rfl rfl rfl rfl ⟨rfl, rfl, rfl, rfl, rfl⟩ rfl rfl rfl rfl rfl (by kernel_rfl) Try.func14 (by kernel_rfl)
    (of_decide_eq_true (by kernel_rfl)) (by unfold Func.isWrapper; first | (rw [if_pos (by decide +kernel)]; kernel_rfl) | (rw [if_neg (by decide +kernel)]; exact ⟨rfl, rfl⟩))
    (fun os started H enc _ => lifted os started H enc)
theorem proved : Rows.BallotCountsSaid := over
end Go.Proofs.Ytfdjmpaikbaepaa.ballotCounts

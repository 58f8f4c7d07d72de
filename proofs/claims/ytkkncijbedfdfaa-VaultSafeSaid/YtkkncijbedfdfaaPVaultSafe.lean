/-
  Wherever the power goes, a vault has what it had behind the last answer, or what the one under way would have made (bullionlaw29.VaultSafe).
  Its statement holds of every input, without a condition.
-/
import Derived.Test.YtkkncijbedfdfaaFrame
import Derived.Test.YtkkncijbedfdfaaOpenV
import Derived.Test.YtkkncijbedfdfaaOpenB
import Derived.Test.YtkkncijbedfdfaaLaw29s
namespace Go.Proofs.Ytkkncijbedfdfaa.vaultSafe
open Go.ChangeShapes Go.WideShapes Go.ChangeAt Go.RowKit
open Go.ChangeMaps (open_string shut_string)
set_option linter.unusedVariables false

set_option maxRecDepth 100000 in
theorem lifted (os : Os) (started : os.Started) (H : Type) (enc : TypeId × Value → H) :
    ReturnsInHanded {} Try.checked os 6 .any (Rows.vaultSafeSpec.pre6 enc Try.prog Try.f6 Rows.vaultSafeRow.domain false) (Rows.vaultSafeSpec.post enc Try.prog Try.f6 false true false false) := by
  refine returnsInHanded_of_change (C := Try.checked) own_knob started (by kernel_rfl) Try.func6
    (ChangeSpec.witness6 (enc := enc) (C := Try.checked) false ⟨#[], #[.int .i64 0, .slice none 0 0, .slice none 0 0], []⟩ 8 (by kernel_rfl) (by kernel_rfl) (by kernel_rfl) (by kernel_rfl)) ?_
  intro W base args ds gs before hval0 hW hcnd _
  have hval : ∀ (j : Nat) t v, Try.f6.params[j]? = some t → args[j]? = some v → Value.okWide Try.prog W .any base t v := hval0
  have hW' := hW
  obtain ⟨p, q, hA0, hV, rfl, hfz, hnd⟩ := hW
  have hA : DataW.TrodAll enc Try.prog W 0 (fun _ => true) true Try.f6.params.toList args.toList ds p := hA0
  have hK := hA
  have hlt := DataW.TrodAll.lt hK
  rw [Try.params6] at hA hval
  obtain ⟨v0, vs0, d0, ds0, p0, q0, hargs, rfl, rfl, h0, r0⟩ := trodAll_cons hA
  obtain ⟨v1, vs1, d1, ds1, p1, q1, rfl, rfl, rfl, h1, r1⟩ := trodAll_cons r0
  obtain ⟨v2, vs2, d2, ds2, p2, q2, rfl, rfl, rfl, h2, r2⟩ := trodAll_cons r1
  obtain ⟨rfl, rfl, rfl⟩ := trodAll_nil r2
  obtain rfl : args = #[v0, v1, v2] := by cases args; simp_all
  obtain ⟨rfl, rfl⟩ := trodVars_none hV
  clear hA0 hval0
  obtain ⟨a0, rfl, _, _, w0⟩ := open_int under_i64 (hval 0 _ v0 rfl rfl) h0
  have o0 := wf_i64 w0
  obtain ⟨A1, c1, xs1, rfl, u1⟩ := open_bytes (hval 1 _ v1 rfl rfl) h1
  obtain ⟨A2, n2, c2, xs2, rfl, e2, k2, m2, u2⟩ := open_op29s (hval 2 _ v2 rfl rfl) h2
  refine (vaultSafe_any a0 A1 c1 xs1 A2 n2 c2 xs2 e2 m2 W u1 k2 u2).mono fun e W' ⟨he, bel⟩ => ?_
  subst he
  exact ⟨_, rfl, _, _, _, [], _, [], hW', trodAll_mk1 (shut_bool under_bool _), trodAll_stay laid_out bel (by kernel_rfl) hK hlt, rfl, bel.frame _, fun h => by cases h⟩

theorem over : Rows.vaultSafeRow.holds Try.pinned (OpenSpec.ofChange Rows.vaultSafeSpec) :=
  OpenClaim.holds_of_wide 6 Try.f6 rfl rfl rfl rfl rfl rfl rfl ⟨rfl, rfl, rfl, rfl, rfl⟩ rfl rfl rfl rfl rfl (by kernel_rfl) Try.func6 (by kernel_rfl)
    (of_decide_eq_true (by kernel_rfl)) (by unfold Func.isWrapper; first | (rw [if_pos (by decide +kernel)]; kernel_rfl) | (rw [if_neg (by decide +kernel)]; exact ⟨rfl, rfl⟩))
    (fun os started H enc _ => lifted os started H enc)
theorem proved : Rows.VaultSafeSaid := over
end Go.Proofs.Ytkkncijbedfdfaa.vaultSafe

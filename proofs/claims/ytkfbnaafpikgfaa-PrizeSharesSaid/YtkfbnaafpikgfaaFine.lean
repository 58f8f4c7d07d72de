/-
  What share.Cut and package fine's functions answer.
-/
import Derived.Test.YtkfbnaafpikgfaaSt
import Derived.Test.YtkfbnaafpikgfaaRatio2
import Derived.Test.YtkfbnaafpikgfaaCheck
namespace Go.Proofs.Ytkfbnaafpikgfaa
open Go.RowKit
set_option linter.unusedVariables false

def cutN (total : Nat) (rate : Int) : Nat := total * rate.toNat / 10000
theorem cutN_le (total : Nat) (rate : Int) (h : rate ≤ 10000) : cutN total rate ≤ total := by
  unfold cutN
  have : total * rate.toNat ≤ total * 10000 := Nat.mul_le_mul_left _ (by omega)
  rw [Nat.div_le_iff_le_mul_add_pred (by omega)]
  omega
def absC (s : St) (P : Par) (mode : Int) : Array Value := #[.int .u64 s.bal, .int .u64 s.eff, .int .u64 s.score, .int .i64 s.streak, .int .u64 P.inc, .int .u64 P.maxEff, .int .u64 P.floor, .int .u64 P.cap, .int .u64 P.up, .int .u64 P.down, .int .u64 P.bias, .int .u64 P.quot, .int .u64 P.biasEm, .int .u64 P.quotEm, .int .u64 P.recover, .int .u64 P.scoreCap, .int .u64 P.rate, .int .u64 P.bond, .int .i64 P.delay, .int .i64 P.streak, .int .i64 P.boost, .int .i64 P.absent, .int .i64 P.burn, .int .i64 P.churn, .int .i64 P.wait, .int .i64 P.poll, .int .i64 P.enact, .int .i64 P.quorum, .int .i64 mode]
theorem absC_bal (s : St) (P : Par) (m : Int) : (absC s P m)[0]? = some (.int .u64 s.bal) := rfl
theorem absC_eff (s : St) (P : Par) (m : Int) : (absC s P m)[1]? = some (.int .u64 s.eff) := rfl
theorem absC_score (s : St) (P : Par) (m : Int) : (absC s P m)[2]? = some (.int .u64 s.score) := rfl
theorem absC_quot (s : St) (P : Par) (m : Int) : (absC s P m)[11]? = some (.int .u64 P.quot) := rfl
theorem absC_quotEm (s : St) (P : Par) (m : Int) : (absC s P m)[13]? = some (.int .u64 P.quotEm) := rfl
theorem absC_absent (s : St) (P : Par) (m : Int) : (absC s P m)[21]? = some (.int .i64 P.absent) := rfl
theorem absC_mode (s : St) (P : Par) (m : Int) : (absC s P m)[28]? = some (.int .i64 m) := rfl
attribute [go_sem] absC_bal absC_eff absC_score absC_quot absC_quotEm absC_absent absC_mode
/-- What is lost, of all that there is; more than 64 bits: all. -/
def lossQ (P : Par) (s : St) (m : Int) : Nat := if m = 3 then upQ (s.eff * s.score) P.quot else if m = 4 then upQ (s.eff * s.score) P.quotEm else s.eff * P.absent.toNat / 10000
def fineN (P : Par) (s : St) (m : Int) : Nat := min (lossQ P s m) s.bal
def fineV (P : Par) (s : St) (m : Int) : Nat := if rightB P then fineN P s m else 0
def burnV (P : Par) (n : Nat) : Nat := if rightB P then cutN n P.burn else 0
def treasV (P : Par) (n : Nat) : Nat := if rightB P then n - cutN n P.burn else 0
theorem fineV_le (P : Par) (s : St) (m : Int) : fineV P s m ≤ s.bal := by unfold fineV fineN; split <;> omega
structure FineOk (P : Par) : Prop where
  q : 1 ≤ P.quot
  q' : P.quot < 18446744073709551616
  e : 1 ≤ P.quotEm
  e' : P.quotEm < 18446744073709551616
  a : 0 ≤ P.absent
  a' : P.absent ≤ 10000
  b : 0 ≤ P.burn
  b' : P.burn ≤ 10000
theorem right_fine {P : Par} (h : rightB P = true) : FineOk P := by
  have h1 := scores_facts (right_facts h).2.1
  have h2 := others_facts (right_facts h).2.2.1
  constructor <;> omega
end Go.Proofs.Ytkfbnaafpikgfaa

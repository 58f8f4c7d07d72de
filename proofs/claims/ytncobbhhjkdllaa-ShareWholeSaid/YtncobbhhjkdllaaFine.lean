/-
  What share.Cut and package fine's functions answer.
-/
import Derived.Test.YtncobbhhjkdllaaSt
import Derived.Test.YtncobbhhjkdllaaRatio2
import Derived.Test.YtncobbhhjkdllaaCheck
namespace Go.Proofs.Ytncobbhhjkdllaa
open Go.RowKit
set_option linter.unusedVariables false

def cutN (total : Nat) (rate : Int) : Nat := total * rate.toNat / 10000
theorem cutN_le (total : Nat) (rate : Int) (h : rate ≤ 10000) : cutN total rate ≤ total := by
  unfold cutN
  have : total * rate.toNat ≤ total * 10000 := Nat.mul_le_mul_left _ (by omega)
  rw [Nat.div_le_iff_le_mul_add_pred (by omega)]
  omega
set_option maxHeartbeats 1000000 in
theorem cut_any (total : Nat) (rate : Int) (ht : total < 18446744073709551616) (h0 : 0 ≤ rate) (h1 : rate ≤ 10000) (w : World) :
    Calls Try.prog 40 #[.int .u64 total, .int .i64 rate] w fun e w' => e = .returned (.tuple #[.int .u64 ((cutN total rate : Nat) : Int), .int .u64 ((total - cutN total rate : Nat) : Int), .int .i64 0]) ∧ Below w.heap.size w w' := by
  have hle := cutN_le total rate h1
  obtain ⟨r, rfl⟩ := Int.eq_ofNat_of_zero_le h0
  have E0 : IntKind.u64.wrap ((r : Int)) = (r : Int) := Bits.wrapN _ (by omega)
  have HD := Lib.hid (fun W => down_any total r 10000 ht (by omega) (by omega) W)
  rw [show quoV (total * r) 10000 = cutN total (r : Int) by unfold quoV; rw [if_neg (by omega)]; show fit (cutN total (r : Int)) = _; exact fit_le (by omega), show quoE (total * r) 10000 = 0 by unfold quoE; rw [if_neg (by omega)]; show toldE (cutN total (r : Int)) = 0; exact told_le (by omega)] at HD
  generalize cutN total (r : Int) = n at *
  obtain ⟨d, hd⟩ : ∃ d, d = total - n := ⟨_, rfl⟩
  have E1 : IntKind.u64.wrap ((total : Int) - (n : Int)) = (d : Int) := by rw [show (total : Int) - (n : Int) = ((d : Nat) : Int) by omega]; exact Bits.wrapN _ (by omega)
  rw [← hd]
  clear hd hle
  go_enter Try.func40, Try.ntmps40
  go_wp2_with fail
  refine (HD.out _).mono ?_
  rintro e w1 ⟨rfl, hb1⟩
  go_wp2_with fail
  go_ret3
  exact ⟨rfl, hb1⟩
theorem cut_no (total : Nat) (rate : Int) (h : rate < 0 ∨ 10000 < rate) (w : World) :
    Calls Try.prog 40 #[.int .u64 total, .int .i64 rate] w fun e w' => e = .returned (.tuple #[.int .u64 0, .int .u64 0, .int .i64 2]) ∧ w = w' := by
  rcases h with h | h
  · go_enter Try.func40, Try.ntmps40
    go_wp2_with fail
    go_ret3
    exact ⟨rfl, rfl⟩
  · have h' : ¬ rate < 0 := by omega
    go_enter Try.func40, Try.ntmps40
    go_wp2_with fail
    go_ret3
    exact ⟨rfl, rfl⟩
def absC (s : St) (P : Par) (mode : Int) : Array Value := #[.int .u64 s.bal, .int .u64 s.eff, .int .u64 s.score, .int .i64 s.streak, .int .u64 P.inc, .int .u64 P.maxEff, .int .u64 P.floor, .int .u64 P.cap, .int .u64 P.up, .int .u64 P.down, .int .u64 P.bias, .int .u64 P.quot, .int .u64 P.biasEm, .int .u64 P.quotEm, .int .u64 P.recover, .int .u64 P.scoreCap, .int .u64 P.rate, .int .u64 P.bond, .int .i64 P.delay, .int .i64 P.streak, .int .i64 P.boost, .int .i64 P.absent, .int .i64 P.burn, .int .i64 P.churn, .int .i64 P.wait, .int .i64 P.poll, .int .i64 P.enact, .int .i64 P.quorum, .int .i64 mode]
theorem absC_bal (s : St) (P : Par) (m : Int) : (absC s P m)[0]? = some (.int .u64 s.bal) := rfl
theorem absC_eff (s : St) (P : Par) (m : Int) : (absC s P m)[1]? = some (.int .u64 s.eff) := rfl
theorem absC_score (s : St) (P : Par) (m : Int) : (absC s P m)[2]? = some (.int .u64 s.score) := rfl
theorem absC_quot (s : St) (P : Par) (m : Int) : (absC s P m)[11]? = some (.int .u64 P.quot) := rfl
theorem absC_quotEm (s : St) (P : Par) (m : Int) : (absC s P m)[13]? = some (.int .u64 P.quotEm) := rfl
theorem absC_absent (s : St) (P : Par) (m : Int) : (absC s P m)[21]? = some (.int .i64 P.absent) := rfl
theorem absC_mode (s : St) (P : Par) (m : Int) : (absC s P m)[28]? = some (.int .i64 m) := rfl
attribute [go_sem] absC_bal absC_eff absC_score absC_quot absC_quotEm absC_absent absC_mode
/-- What is lost, of all that there is; more than 64 bits: all. -/
def lossQ (P : Par) (s : St) (m : Int) : Nat := if m = 3 then upQ (s.eff * s.score) P.quot else if m = 4 then upQ (s.eff * s.score) P.quotEm else s.eff * P.absent.toNat / 10000
def fineN (P : Par) (s : St) (m : Int) : Nat := min (lossQ P s m) s.bal
def fineV (P : Par) (s : St) (m : Int) : Nat := if rightB P then fineN P s m else 0
def burnV (P : Par) (n : Nat) : Nat := if rightB P then cutN n P.burn else 0
def treasV (P : Par) (n : Nat) : Nat := if rightB P then n - cutN n P.burn else 0
theorem fineV_le (P : Par) (s : St) (m : Int) : fineV P s m ≤ s.bal := by unfold fineV fineN; split <;> omega
structure FineOk (P : Par) : Prop where
  q : 1 ≤ P.quot
  q' : P.quot < 18446744073709551616
  e : 1 ≤ P.quotEm
  e' : P.quotEm < 18446744073709551616
  a : 0 ≤ P.absent
  a' : P.absent ≤ 10000
  b : 0 ≤ P.burn
  b' : P.burn ≤ 10000
theorem right_fine {P : Par} (h : rightB P = true) : FineOk P := by
  have h1 := scores_facts (right_facts h).2.1
  have h2 := others_facts (right_facts h).2.2.1
  constructor <;> omega
end Go.Proofs.Ytncobbhhjkdllaa

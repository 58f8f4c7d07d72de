/-
  Parameters as 24 numbers; the parameters of the chapters' examples.
-/
import Derived.Test.YtkkncijbedfdfaaMem
namespace Go.Proofs.Ytkkncijbedfdfaa
open Go.RowKit
set_option linter.unusedVariables false

structure Par where
  inc : Nat
  maxEff : Nat
  floor : Nat
  cap : Nat
  up : Nat
  down : Nat
  bias : Nat
  quot : Nat
  biasEm : Nat
  quotEm : Nat
  recover : Nat
  scoreCap : Nat
  rate : Nat
  bond : Nat
  delay : Int
  streak : Int
  boost : Int
  absent : Int
  burn : Int
  churn : Int
  wait : Int
  poll : Int
  enact : Int
  quorum : Int

def Par.cells (p : Par) : Array Value := #[.int .u64 p.inc, .int .u64 p.maxEff, .int .u64 p.floor, .int .u64 p.cap, .int .u64 p.up, .int .u64 p.down, .int .u64 p.bias, .int .u64 p.quot, .int .u64 p.biasEm, .int .u64 p.quotEm, .int .u64 p.recover, .int .u64 p.scoreCap, .int .u64 p.rate, .int .u64 p.bond, .int .i64 p.delay, .int .i64 p.streak, .int .i64 p.boost, .int .i64 p.absent, .int .i64 p.burn, .int .i64 p.churn, .int .i64 p.wait, .int .i64 p.poll, .int .i64 p.enact, .int .i64 p.quorum]
theorem Par.cells_size (p : Par) : p.cells.size = 24 := rfl
theorem Par.cells_one (p : Par) : allOne p.cells = true := by unfold allOne Par.cells; simp [Value.oneCell']
theorem Par.at_inc (p : Par) : p.cells[0]? = some (.int .u64 p.inc) := rfl
theorem Par.at_maxEff (p : Par) : p.cells[1]? = some (.int .u64 p.maxEff) := rfl
theorem Par.at_floor (p : Par) : p.cells[2]? = some (.int .u64 p.floor) := rfl
theorem Par.at_cap (p : Par) : p.cells[3]? = some (.int .u64 p.cap) := rfl
theorem Par.at_up (p : Par) : p.cells[4]? = some (.int .u64 p.up) := rfl
theorem Par.at_down (p : Par) : p.cells[5]? = some (.int .u64 p.down) := rfl
theorem Par.at_bias (p : Par) : p.cells[6]? = some (.int .u64 p.bias) := rfl
theorem Par.at_quot (p : Par) : p.cells[7]? = some (.int .u64 p.quot) := rfl
theorem Par.at_biasEm (p : Par) : p.cells[8]? = some (.int .u64 p.biasEm) := rfl
theorem Par.at_quotEm (p : Par) : p.cells[9]? = some (.int .u64 p.quotEm) := rfl
theorem Par.at_recover (p : Par) : p.cells[10]? = some (.int .u64 p.recover) := rfl
theorem Par.at_scoreCap (p : Par) : p.cells[11]? = some (.int .u64 p.scoreCap) := rfl
theorem Par.at_rate (p : Par) : p.cells[12]? = some (.int .u64 p.rate) := rfl
theorem Par.at_bond (p : Par) : p.cells[13]? = some (.int .u64 p.bond) := rfl
theorem Par.at_delay (p : Par) : p.cells[14]? = some (.int .i64 p.delay) := rfl
theorem Par.at_streak (p : Par) : p.cells[15]? = some (.int .i64 p.streak) := rfl
theorem Par.at_boost (p : Par) : p.cells[16]? = some (.int .i64 p.boost) := rfl
theorem Par.at_absent (p : Par) : p.cells[17]? = some (.int .i64 p.absent) := rfl
theorem Par.at_burn (p : Par) : p.cells[18]? = some (.int .i64 p.burn) := rfl
theorem Par.at_churn (p : Par) : p.cells[19]? = some (.int .i64 p.churn) := rfl
theorem Par.at_wait (p : Par) : p.cells[20]? = some (.int .i64 p.wait) := rfl
theorem Par.at_poll (p : Par) : p.cells[21]? = some (.int .i64 p.poll) := rfl
theorem Par.at_enact (p : Par) : p.cells[22]? = some (.int .i64 p.enact) := rfl
theorem Par.at_quorum (p : Par) : p.cells[23]? = some (.int .i64 p.quorum) := rfl
attribute [go_sem] Par.cells_size Par.cells_one Par.at_inc Par.at_maxEff Par.at_floor Par.at_cap Par.at_up Par.at_down Par.at_bias Par.at_quot Par.at_biasEm Par.at_quotEm Par.at_recover Par.at_scoreCap Par.at_rate Par.at_bond Par.at_delay Par.at_streak Par.at_boost Par.at_absent Par.at_burn Par.at_churn Par.at_wait Par.at_poll Par.at_enact Par.at_quorum
def simpleP : Par := { inc := 10, maxEff := 30, floor := 10, cap := 40, up := 10, down := 5, bias := 4, quot := 100, biasEm := 8, quotEm := 50, recover := 2, scoreCap := 100, rate := 1048576, bond := 1, delay := 2, streak := 4, boost := 100, absent := 100, burn := 5000, churn := 2, wait := 2, poll := 2, enact := 1, quorum := 3000 }

end Go.Proofs.Ytkkncijbedfdfaa

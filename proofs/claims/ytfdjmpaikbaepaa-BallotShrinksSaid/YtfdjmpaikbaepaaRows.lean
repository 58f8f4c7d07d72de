/-
  No cell of these rows narrows 'for every input' (looked for: loops, veiled, ifaces, maps, wideKeys, modest, calm, conditions, laid).
  DERIVED. THE GIVEN ROWS OF THIS SEAT. 12 by the template 'for every input the law returns true; each argument reads behind the call as it read before'; 0 by the template 'total and deterministic' (their statements: YtfdjmpaikbaepaaTotals.lean).
  GIVEN WITH THE SEED: the statements are not yours to turn. If you find one false, say at which input.
  Laid BY PROGRAM, IN A SANDBOX (cutbox-rows.mjs): the forced cells as the released guide's own fill.sh prints them over the translation dba97bdf02eca681… (all of the seat's roots in one cut). By AI agents, Wed Nov 11 2026. No macro, syntax, notation, axiom, sorry.
-/
import Derived.Test.YtfdjmpaikbaepaaChecked
import GoSem.Claim
import GoSem.ClaimJoined
import GoSem.ClaimMapViews
import Derived.JoinedTies
import Derived.KernelRfl
namespace Go.Proofs.Ytfdjmpaikbaepaa
/- THE CELL 'sum', in the pinned program and in every row, IS THE sha256 OF THE DUMP (.gsa) THAT YtfdjmpaikbaepaaProg.lean LOADS. Nothing in Lean hashes anything: it is a label: what it is worth is what the hold of that sum in a sandbox is worth. -/
noncomputable def Try.pinned : Pinned := { name := "ytfdjmpaikbaepaa", sum := "dba97bdf02eca68102460a0b95dd6855d1a57ff8a250b1c2be14a5ec350d26bd", checked := Try.checked }
namespace Rows
def none {H : Type} : Left H := { results := [], args := [] }

/-- 'bullionlaw12.ModeLeaks': WHATEVER THE INPUT: true; the input reads as it did. -/
def modeLeaksSpec : ChangeSpec := { name := "modeLeaks", fn := fun _ => fun
  | [d1, d2, d3] => { results := [.lit (.bool true)], args := [d1, d2, d3] }
  | _ => none }
def modeLeaksRow : OpenClaim := { program := "ytfdjmpaikbaepaa", sum := "dba97bdf02eca68102460a0b95dd6855d1a57ff8a250b1c2be14a5ec350d26bd", func := "bullion/bullionlaw12.ModeLeaks", spec := "modeLeaks", apart := false }
def ModeLeaksSaid : Prop := modeLeaksRow.holds Try.pinned (OpenSpec.ofChange modeLeaksSpec)

/-- ITS FALSE NEIGHBOUR: 'it returns false'. Refute it at one input. -/
def modeLeaksWrong : ChangeSpec := { name := "modeLeaks", fn := fun _ => fun
  | [d1, d2, d3] => { results := [.lit (.bool false)], args := [d1, d2, d3] }
  | _ => none }
def ModeLeaksWrongFalsely : Prop := modeLeaksRow.holds Try.pinned (OpenSpec.ofChange modeLeaksWrong)

/-- 'bullionlaw12.ModeSteps': WHATEVER THE INPUT: true; the input reads as it did. -/
def modeStepsSpec : ChangeSpec := { name := "modeSteps", fn := fun _ => fun
  | [d1, d2, d3] => { results := [.lit (.bool true)], args := [d1, d2, d3] }
  | _ => none }
def modeStepsRow : OpenClaim := { program := "ytfdjmpaikbaepaa", sum := "dba97bdf02eca68102460a0b95dd6855d1a57ff8a250b1c2be14a5ec350d26bd", func := "bullion/bullionlaw12.ModeSteps", spec := "modeSteps", apart := false }
def ModeStepsSaid : Prop := modeStepsRow.holds Try.pinned (OpenSpec.ofChange modeStepsSpec)

/-- ITS FALSE NEIGHBOUR: 'it returns false'. Refute it at one input. -/
def modeStepsWrong : ChangeSpec := { name := "modeSteps", fn := fun _ => fun
  | [d1, d2, d3] => { results := [.lit (.bool false)], args := [d1, d2, d3] }
  | _ => none }
def ModeStepsWrongFalsely : Prop := modeStepsRow.holds Try.pinned (OpenSpec.ofChange modeStepsWrong)

/-- 'bullionlaw01.MoneyTotals': WHATEVER THE INPUT: true; the input reads as it did. -/
def moneyTotalsSpec : ChangeSpec := { name := "moneyTotals", fn := fun _ => fun
  | [d] => { results := [.lit (.bool true)], args := [d] }
  | _ => none }
def moneyTotalsRow : OpenClaim := { program := "ytfdjmpaikbaepaa", sum := "dba97bdf02eca68102460a0b95dd6855d1a57ff8a250b1c2be14a5ec350d26bd", func := "bullion/bullionlaw01.MoneyTotals", spec := "moneyTotals", inPlace := ["math/bits.Add64", "math/bits.Sub64"], apart := false }
def MoneyTotalsSaid : Prop := moneyTotalsRow.holds Try.pinned (OpenSpec.ofChange moneyTotalsSpec)

/-- ITS FALSE NEIGHBOUR: 'it returns false'. Refute it at one input. -/
def moneyTotalsWrong : ChangeSpec := { name := "moneyTotals", fn := fun _ => fun
  | [d] => { results := [.lit (.bool false)], args := [d] }
  | _ => none }
def MoneyTotalsWrongFalsely : Prop := moneyTotalsRow.holds Try.pinned (OpenSpec.ofChange moneyTotalsWrong)

/-- 'bullionlaw01.MoneyStops': WHATEVER THE INPUT: true; the input reads as it did. -/
def moneyStopsSpec : ChangeSpec := { name := "moneyStops", fn := fun _ => fun
  | [d1, d2, d3] => { results := [.lit (.bool true)], args := [d1, d2, d3] }
  | _ => none }
def moneyStopsRow : OpenClaim := { program := "ytfdjmpaikbaepaa", sum := "dba97bdf02eca68102460a0b95dd6855d1a57ff8a250b1c2be14a5ec350d26bd", func := "bullion/bullionlaw01.MoneyStops", spec := "moneyStops", inPlace := ["math/bits.Add64", "math/bits.Sub64"], apart := false }
def MoneyStopsSaid : Prop := moneyStopsRow.holds Try.pinned (OpenSpec.ofChange moneyStopsSpec)

/-- ITS FALSE NEIGHBOUR: 'it returns false'. Refute it at one input. -/
def moneyStopsWrong : ChangeSpec := { name := "moneyStops", fn := fun _ => fun
  | [d1, d2, d3] => { results := [.lit (.bool false)], args := [d1, d2, d3] }
  | _ => none }
def MoneyStopsWrongFalsely : Prop := moneyStopsRow.holds Try.pinned (OpenSpec.ofChange moneyStopsWrong)

/-- 'bullionlaw01.MoneyTakes': WHATEVER THE INPUT: true; the input reads as it did. -/
def moneyTakesSpec : ChangeSpec := { name := "moneyTakes", fn := fun _ => fun
  | [d1, d2] => { results := [.lit (.bool true)], args := [d1, d2] }
  | _ => none }
def moneyTakesRow : OpenClaim := { program := "ytfdjmpaikbaepaa", sum := "dba97bdf02eca68102460a0b95dd6855d1a57ff8a250b1c2be14a5ec350d26bd", func := "bullion/bullionlaw01.MoneyTakes", spec := "moneyTakes", inPlace := ["math/bits.Add64", "math/bits.Sub64"], apart := false }
def MoneyTakesSaid : Prop := moneyTakesRow.holds Try.pinned (OpenSpec.ofChange moneyTakesSpec)

/-- ITS FALSE NEIGHBOUR: 'it returns false'. Refute it at one input. -/
def moneyTakesWrong : ChangeSpec := { name := "moneyTakes", fn := fun _ => fun
  | [d1, d2] => { results := [.lit (.bool false)], args := [d1, d2] }
  | _ => none }
def MoneyTakesWrongFalsely : Prop := moneyTakesRow.holds Try.pinned (OpenSpec.ofChange moneyTakesWrong)

/-- 'bullionlaw01.MoneySums': WHATEVER THE INPUT: true; the input reads as it did. -/
def moneySumsSpec : ChangeSpec := { name := "moneySums", fn := fun _ => fun
  | [d1, d2] => { results := [.lit (.bool true)], args := [d1, d2] }
  | _ => none }
def moneySumsRow : OpenClaim := { program := "ytfdjmpaikbaepaa", sum := "dba97bdf02eca68102460a0b95dd6855d1a57ff8a250b1c2be14a5ec350d26bd", func := "bullion/bullionlaw01.MoneySums", spec := "moneySums", inPlace := ["math/bits.Add64", "math/bits.Sub64"], apart := false }
def MoneySumsSaid : Prop := moneySumsRow.holds Try.pinned (OpenSpec.ofChange moneySumsSpec)

/-- ITS FALSE NEIGHBOUR: 'it returns false'. Refute it at one input. -/
def moneySumsWrong : ChangeSpec := { name := "moneySums", fn := fun _ => fun
  | [d1, d2] => { results := [.lit (.bool false)], args := [d1, d2] }
  | _ => none }
def MoneySumsWrongFalsely : Prop := moneySumsRow.holds Try.pinned (OpenSpec.ofChange moneySumsWrong)

/-- 'bullionlaw02.RatioParts': WHATEVER THE INPUT: true; the input reads as it did. -/
def ratioPartsSpec : ChangeSpec := { name := "ratioParts", fn := fun _ => fun
  | [d1, d2, d3] => { results := [.lit (.bool true)], args := [d1, d2, d3] }
  | _ => none }
def ratioPartsRow : OpenClaim := { program := "ytfdjmpaikbaepaa", sum := "dba97bdf02eca68102460a0b95dd6855d1a57ff8a250b1c2be14a5ec350d26bd", func := "bullion/bullionlaw02.RatioParts", spec := "ratioParts", named := ["math/bits.divideError", "math/bits.overflowError"], apart := false }
def RatioPartsSaid : Prop := ratioPartsRow.holds Try.pinned (OpenSpec.ofChange ratioPartsSpec)

/-- ITS FALSE NEIGHBOUR: 'it returns false'. Refute it at one input. -/
def ratioPartsWrong : ChangeSpec := { name := "ratioParts", fn := fun _ => fun
  | [d1, d2, d3] => { results := [.lit (.bool false)], args := [d1, d2, d3] }
  | _ => none }
def RatioPartsWrongFalsely : Prop := ratioPartsRow.holds Try.pinned (OpenSpec.ofChange ratioPartsWrong)

/-- 'bullionlaw02.RatioLess': WHATEVER THE INPUT: true; the input reads as it did. -/
def ratioLessSpec : ChangeSpec := { name := "ratioLess", fn := fun _ => fun
  | [d] => { results := [.lit (.bool true)], args := [d] }
  | _ => none }
def ratioLessRow : OpenClaim := { program := "ytfdjmpaikbaepaa", sum := "dba97bdf02eca68102460a0b95dd6855d1a57ff8a250b1c2be14a5ec350d26bd", func := "bullion/bullionlaw02.RatioLess", spec := "ratioLess", named := ["math/bits.divideError", "math/bits.overflowError"], apart := false }
def RatioLessSaid : Prop := ratioLessRow.holds Try.pinned (OpenSpec.ofChange ratioLessSpec)

/-- ITS FALSE NEIGHBOUR: 'it returns false'. Refute it at one input. -/
def ratioLessWrong : ChangeSpec := { name := "ratioLess", fn := fun _ => fun
  | [d] => { results := [.lit (.bool false)], args := [d] }
  | _ => none }
def RatioLessWrongFalsely : Prop := ratioLessRow.holds Try.pinned (OpenSpec.ofChange ratioLessWrong)

/-- 'bullionlaw02.RatioRises': WHATEVER THE INPUT: true; the input reads as it did. -/
def ratioRisesSpec : ChangeSpec := { name := "ratioRises", fn := fun _ => fun
  | [d1, d2, d3] => { results := [.lit (.bool true)], args := [d1, d2, d3] }
  | _ => none }
def ratioRisesRow : OpenClaim := { program := "ytfdjmpaikbaepaa", sum := "dba97bdf02eca68102460a0b95dd6855d1a57ff8a250b1c2be14a5ec350d26bd", func := "bullion/bullionlaw02.RatioRises", spec := "ratioRises", named := ["math/bits.divideError", "math/bits.overflowError"], apart := false }
def RatioRisesSaid : Prop := ratioRisesRow.holds Try.pinned (OpenSpec.ofChange ratioRisesSpec)

/-- ITS FALSE NEIGHBOUR: 'it returns false'. Refute it at one input. -/
def ratioRisesWrong : ChangeSpec := { name := "ratioRises", fn := fun _ => fun
  | [d1, d2, d3] => { results := [.lit (.bool false)], args := [d1, d2, d3] }
  | _ => none }
def RatioRisesWrongFalsely : Prop := ratioRisesRow.holds Try.pinned (OpenSpec.ofChange ratioRisesWrong)

/-- 'bullionlaw02.RatioThirds': WHATEVER THE INPUT: true; the input reads as it did. -/
def ratioThirdsSpec : ChangeSpec := { name := "ratioThirds", fn := fun _ => fun
  | [d1, d2] => { results := [.lit (.bool true)], args := [d1, d2] }
  | _ => none }
def ratioThirdsRow : OpenClaim := { program := "ytfdjmpaikbaepaa", sum := "dba97bdf02eca68102460a0b95dd6855d1a57ff8a250b1c2be14a5ec350d26bd", func := "bullion/bullionlaw02.RatioThirds", spec := "ratioThirds", named := ["math/bits.divideError", "math/bits.overflowError"], apart := false }
def RatioThirdsSaid : Prop := ratioThirdsRow.holds Try.pinned (OpenSpec.ofChange ratioThirdsSpec)

/-- ITS FALSE NEIGHBOUR: 'it returns false'. Refute it at one input. -/
def ratioThirdsWrong : ChangeSpec := { name := "ratioThirds", fn := fun _ => fun
  | [d1, d2] => { results := [.lit (.bool false)], args := [d1, d2] }
  | _ => none }
def RatioThirdsWrongFalsely : Prop := ratioThirdsRow.holds Try.pinned (OpenSpec.ofChange ratioThirdsWrong)

/-- 'bullionlaw22.BallotShrinks': WHATEVER THE INPUT: true; the input reads as it did. -/
def ballotShrinksSpec : ChangeSpec := { name := "ballotShrinks", fn := fun _ => fun
  | [d1, d2, d3] => { results := [.lit (.bool true)], args := [d1, d2, d3] }
  | _ => none }
def ballotShrinksRow : OpenClaim := { program := "ytfdjmpaikbaepaa", sum := "dba97bdf02eca68102460a0b95dd6855d1a57ff8a250b1c2be14a5ec350d26bd", func := "bullion/bullionlaw22.BallotShrinks", spec := "ballotShrinks", inPlace := ["math/bits.Add64"], unfollowed := true, recurses := true, apart := false }
def BallotShrinksSaid : Prop := ballotShrinksRow.holds Try.pinned (OpenSpec.ofChange ballotShrinksSpec)

/-- ITS FALSE NEIGHBOUR: 'it returns false'. Refute it at one input. -/
def ballotShrinksWrong : ChangeSpec := { name := "ballotShrinks", fn := fun _ => fun
  | [d1, d2, d3] => { results := [.lit (.bool false)], args := [d1, d2, d3] }
  | _ => none }
def BallotShrinksWrongFalsely : Prop := ballotShrinksRow.holds Try.pinned (OpenSpec.ofChange ballotShrinksWrong)

/-- 'bullionlaw22.BallotCounts': WHATEVER THE INPUT: true; the input reads as it did. -/
def ballotCountsSpec : ChangeSpec := { name := "ballotCounts", fn := fun _ => fun
  | [d1, d2, d3] => { results := [.lit (.bool true)], args := [d1, d2, d3] }
  | _ => none }
def ballotCountsRow : OpenClaim := { program := "ytfdjmpaikbaepaa", sum := "dba97bdf02eca68102460a0b95dd6855d1a57ff8a250b1c2be14a5ec350d26bd", func := "bullion/bullionlaw22.BallotCounts", spec := "ballotCounts", inPlace := ["math/bits.Add64"], unfollowed := true, recurses := true, apart := false }
def BallotCountsSaid : Prop := ballotCountsRow.holds Try.pinned (OpenSpec.ofChange ballotCountsSpec)

/-- ITS FALSE NEIGHBOUR: 'it returns false'. Refute it at one input. -/
def ballotCountsWrong : ChangeSpec := { name := "ballotCounts", fn := fun _ => fun
  | [d1, d2, d3] => { results := [.lit (.bool false)], args := [d1, d2, d3] }
  | _ => none }
def BallotCountsWrongFalsely : Prop := ballotCountsRow.holds Try.pinned (OpenSpec.ofChange ballotCountsWrong)

/- THE SECOND FORM. 'bulk': how many values and letters a reading holds, each counted each time it is reached (what is shared counts as often as it is met; a slice's spare places count too). A statement '..UptoSaid' is the law's where the arguments, and the package variables that the reading takes, are together of bulk at most 1048576: NARROWER than '..Said'. Prove '..Said' where nothing that the law and all that it calls make is longer than what came in: it says more and counts as full. Else prove '..UptoSaid'. A law counts once. -/
mutual
def uptoBulk {H : Type} : DataW H → Nat
  | .lit (.string bytes) => bytes.length + 1
  | .lit _ => 1
  | .nil => 1
  | .ptr d => uptoBulk d + 1
  | .slice elems spare => uptoBulkAll elems + uptoBulkAll spare + 1
  | .agg parts => uptoBulkAll parts + 1
  | .iface _ d => uptoBulk d + 1
  | .map entries => uptoBulkEntries entries + 1
  | .held _ => 1
def uptoBulkAll {H : Type} : List (DataW H) → Nat
  | [] => 0
  | d :: r => uptoBulk d + uptoBulkAll r
def uptoBulkEntries {H : Type} : List (Lit × DataW H) → Nat
  | [] => 0
  | x :: r => uptoBulkEntry x + uptoBulkEntries r
def uptoBulkEntry {H : Type} : Lit × DataW H → Nat
  | (.string bytes, d) => bytes.length + uptoBulk d + 1
  | (_, d) => uptoBulk d + 1
 end
def uptoSmall : (H : Type) → List (DataW H) → Bool := fun _ ds => decide (uptoBulkAll ds ≤ 1048576)
def OpenSpec.upto (s : _root_.Go.ChangeSpec) : _root_.Go.OpenSpec := { _root_.Go.OpenSpec.ofChange s with cond := some uptoSmall }

/-- 'bullionlaw12.ModeLeaks', WHERE WHAT IT READS IS OF BULK AT MOST 1048576: true; the input reads as it did. -/
def modeLeaksUptoRow : OpenClaim := { program := "ytfdjmpaikbaepaa", sum := "dba97bdf02eca68102460a0b95dd6855d1a57ff8a250b1c2be14a5ec350d26bd", func := "bullion/bullionlaw12.ModeLeaks", spec := "modeLeaks", apart := false, narrowed := true }
def ModeLeaksUptoSaid : Prop := modeLeaksUptoRow.holds Try.pinned (OpenSpec.upto modeLeaksSpec)

/-- 'bullionlaw12.ModeSteps', WHERE WHAT IT READS IS OF BULK AT MOST 1048576: true; the input reads as it did. -/
def modeStepsUptoRow : OpenClaim := { program := "ytfdjmpaikbaepaa", sum := "dba97bdf02eca68102460a0b95dd6855d1a57ff8a250b1c2be14a5ec350d26bd", func := "bullion/bullionlaw12.ModeSteps", spec := "modeSteps", apart := false, narrowed := true }
def ModeStepsUptoSaid : Prop := modeStepsUptoRow.holds Try.pinned (OpenSpec.upto modeStepsSpec)

/-- 'bullionlaw01.MoneyTotals', WHERE WHAT IT READS IS OF BULK AT MOST 1048576: true; the input reads as it did. -/
def moneyTotalsUptoRow : OpenClaim := { program := "ytfdjmpaikbaepaa", sum := "dba97bdf02eca68102460a0b95dd6855d1a57ff8a250b1c2be14a5ec350d26bd", func := "bullion/bullionlaw01.MoneyTotals", spec := "moneyTotals", inPlace := ["math/bits.Add64", "math/bits.Sub64"], apart := false, narrowed := true }
def MoneyTotalsUptoSaid : Prop := moneyTotalsUptoRow.holds Try.pinned (OpenSpec.upto moneyTotalsSpec)

/-- 'bullionlaw01.MoneyStops', WHERE WHAT IT READS IS OF BULK AT MOST 1048576: true; the input reads as it did. -/
def moneyStopsUptoRow : OpenClaim := { program := "ytfdjmpaikbaepaa", sum := "dba97bdf02eca68102460a0b95dd6855d1a57ff8a250b1c2be14a5ec350d26bd", func := "bullion/bullionlaw01.MoneyStops", spec := "moneyStops", inPlace := ["math/bits.Add64", "math/bits.Sub64"], apart := false, narrowed := true }
def MoneyStopsUptoSaid : Prop := moneyStopsUptoRow.holds Try.pinned (OpenSpec.upto moneyStopsSpec)

/-- 'bullionlaw01.MoneyTakes', WHERE WHAT IT READS IS OF BULK AT MOST 1048576: true; the input reads as it did. -/
def moneyTakesUptoRow : OpenClaim := { program := "ytfdjmpaikbaepaa", sum := "dba97bdf02eca68102460a0b95dd6855d1a57ff8a250b1c2be14a5ec350d26bd", func := "bullion/bullionlaw01.MoneyTakes", spec := "moneyTakes", inPlace := ["math/bits.Add64", "math/bits.Sub64"], apart := false, narrowed := true }
def MoneyTakesUptoSaid : Prop := moneyTakesUptoRow.holds Try.pinned (OpenSpec.upto moneyTakesSpec)

/-- 'bullionlaw01.MoneySums', WHERE WHAT IT READS IS OF BULK AT MOST 1048576: true; the input reads as it did. -/
def moneySumsUptoRow : OpenClaim := { program := "ytfdjmpaikbaepaa", sum := "dba97bdf02eca68102460a0b95dd6855d1a57ff8a250b1c2be14a5ec350d26bd", func := "bullion/bullionlaw01.MoneySums", spec := "moneySums", inPlace := ["math/bits.Add64", "math/bits.Sub64"], apart := false, narrowed := true }
def MoneySumsUptoSaid : Prop := moneySumsUptoRow.holds Try.pinned (OpenSpec.upto moneySumsSpec)

/-- 'bullionlaw02.RatioParts', WHERE WHAT IT READS IS OF BULK AT MOST 1048576: true; the input reads as it did. -/
def ratioPartsUptoRow : OpenClaim := { program := "ytfdjmpaikbaepaa", sum := "dba97bdf02eca68102460a0b95dd6855d1a57ff8a250b1c2be14a5ec350d26bd", func := "bullion/bullionlaw02.RatioParts", spec := "ratioParts", named := ["math/bits.divideError", "math/bits.overflowError"], apart := false, narrowed := true }
def RatioPartsUptoSaid : Prop := ratioPartsUptoRow.holds Try.pinned (OpenSpec.upto ratioPartsSpec)

/-- 'bullionlaw02.RatioLess', WHERE WHAT IT READS IS OF BULK AT MOST 1048576: true; the input reads as it did. -/
def ratioLessUptoRow : OpenClaim := { program := "ytfdjmpaikbaepaa", sum := "dba97bdf02eca68102460a0b95dd6855d1a57ff8a250b1c2be14a5ec350d26bd", func := "bullion/bullionlaw02.RatioLess", spec := "ratioLess", named := ["math/bits.divideError", "math/bits.overflowError"], apart := false, narrowed := true }
def RatioLessUptoSaid : Prop := ratioLessUptoRow.holds Try.pinned (OpenSpec.upto ratioLessSpec)

/-- 'bullionlaw02.RatioRises', WHERE WHAT IT READS IS OF BULK AT MOST 1048576: true; the input reads as it did. -/
def ratioRisesUptoRow : OpenClaim := { program := "ytfdjmpaikbaepaa", sum := "dba97bdf02eca68102460a0b95dd6855d1a57ff8a250b1c2be14a5ec350d26bd", func := "bullion/bullionlaw02.RatioRises", spec := "ratioRises", named := ["math/bits.divideError", "math/bits.overflowError"], apart := false, narrowed := true }
def RatioRisesUptoSaid : Prop := ratioRisesUptoRow.holds Try.pinned (OpenSpec.upto ratioRisesSpec)

/-- 'bullionlaw02.RatioThirds', WHERE WHAT IT READS IS OF BULK AT MOST 1048576: true; the input reads as it did. -/
def ratioThirdsUptoRow : OpenClaim := { program := "ytfdjmpaikbaepaa", sum := "dba97bdf02eca68102460a0b95dd6855d1a57ff8a250b1c2be14a5ec350d26bd", func := "bullion/bullionlaw02.RatioThirds", spec := "ratioThirds", named := ["math/bits.divideError", "math/bits.overflowError"], apart := false, narrowed := true }
def RatioThirdsUptoSaid : Prop := ratioThirdsUptoRow.holds Try.pinned (OpenSpec.upto ratioThirdsSpec)

/-- 'bullionlaw22.BallotShrinks', WHERE WHAT IT READS IS OF BULK AT MOST 1048576: true; the input reads as it did. -/
def ballotShrinksUptoRow : OpenClaim := { program := "ytfdjmpaikbaepaa", sum := "dba97bdf02eca68102460a0b95dd6855d1a57ff8a250b1c2be14a5ec350d26bd", func := "bullion/bullionlaw22.BallotShrinks", spec := "ballotShrinks", inPlace := ["math/bits.Add64"], unfollowed := true, recurses := true, apart := false, narrowed := true }
def BallotShrinksUptoSaid : Prop := ballotShrinksUptoRow.holds Try.pinned (OpenSpec.upto ballotShrinksSpec)

/-- 'bullionlaw22.BallotCounts', WHERE WHAT IT READS IS OF BULK AT MOST 1048576: true; the input reads as it did. -/
def ballotCountsUptoRow : OpenClaim := { program := "ytfdjmpaikbaepaa", sum := "dba97bdf02eca68102460a0b95dd6855d1a57ff8a250b1c2be14a5ec350d26bd", func := "bullion/bullionlaw22.BallotCounts", spec := "ballotCounts", inPlace := ["math/bits.Add64"], unfollowed := true, recurses := true, apart := false, narrowed := true }
def BallotCountsUptoSaid : Prop := ballotCountsUptoRow.holds Try.pinned (OpenSpec.upto ballotCountsSpec)

end Rows
end Go.Proofs.Ytfdjmpaikbaepaa

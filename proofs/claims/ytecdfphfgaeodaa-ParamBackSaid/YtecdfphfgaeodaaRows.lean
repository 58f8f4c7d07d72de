/-
  No cell of these rows narrows 'for every input' (looked for: loops, veiled, ifaces, maps, wideKeys, modest, calm, conditions, laid).
  DERIVED. THE GIVEN ROWS OF THIS SEAT. 9 by the template 'for every input the law returns true; each argument reads behind the call as it read before'; 0 by the template 'total and deterministic' (their statements: YtecdfphfgaeodaaTotals.lean).
  GIVEN WITH THE SEED: the statements are not yours to turn. If you find one false, say at which input.
  Laid BY PROGRAM, IN A SANDBOX (cutbox-rows.mjs): the forced cells as the released guide's own fill.sh prints them over the translation ca3e03aa6c55fc5c… (all of the seat's roots in one cut). By AI agents, Wed Nov 11 2026. No macro, syntax, notation, axiom, sorry.
-/
import Derived.Test.YtecdfphfgaeodaaChecked
import GoSem.Claim
import GoSem.ClaimJoined
import GoSem.ClaimMapViews
import Derived.JoinedTies
import Derived.KernelRfl
namespace Go.Proofs.Ytecdfphfgaeodaa
/- THE CELL 'sum', in the pinned program and in every row, IS THE sha256 OF THE DUMP (.gsa) THAT YtecdfphfgaeodaaProg.lean LOADS. Nothing in Lean hashes anything: it is a label: what it is worth is what the hold of that sum in a sandbox is worth. -/
noncomputable def Try.pinned : Pinned := { name := "ytecdfphfgaeodaa", sum := "ca3e03aa6c55fc5cbf29f379899ab8f8fa612097625ea79cad2f9e710f16053b", checked := Try.checked }
namespace Rows
def none {H : Type} : Left H := { results := [], args := [] }

/-- 'bullionlaw07.ParamChecks': WHATEVER THE INPUT: true; the input reads as it did. -/
def paramChecksSpec : ChangeSpec := { name := "paramChecks", fn := fun _ => fun
  | [d] => { results := [.lit (.bool true)], args := [d] }
  | _ => none }
def paramChecksRow : OpenClaim := { program := "ytecdfphfgaeodaa", sum := "ca3e03aa6c55fc5cbf29f379899ab8f8fa612097625ea79cad2f9e710f16053b", func := "bullion/bullionlaw07.ParamChecks", spec := "paramChecks", unfollowed := true, recurses := true, named := ["math/bits.divideError", "math/bits.overflowError"], apart := false }
def ParamChecksSaid : Prop := paramChecksRow.holds Try.pinned (OpenSpec.ofChange paramChecksSpec)

/-- ITS FALSE NEIGHBOUR: 'it returns false'. Refute it at one input. -/
def paramChecksWrong : ChangeSpec := { name := "paramChecks", fn := fun _ => fun
  | [d] => { results := [.lit (.bool false)], args := [d] }
  | _ => none }
def ParamChecksWrongFalsely : Prop := paramChecksRow.holds Try.pinned (OpenSpec.ofChange paramChecksWrong)

/-- 'bullionlaw07.ParamLeaks': WHATEVER THE INPUT: true; the input reads as it did. -/
def paramLeaksSpec : ChangeSpec := { name := "paramLeaks", fn := fun _ => fun
  | [d] => { results := [.lit (.bool true)], args := [d] }
  | _ => none }
def paramLeaksRow : OpenClaim := { program := "ytecdfphfgaeodaa", sum := "ca3e03aa6c55fc5cbf29f379899ab8f8fa612097625ea79cad2f9e710f16053b", func := "bullion/bullionlaw07.ParamLeaks", spec := "paramLeaks", unfollowed := true, recurses := true, named := ["math/bits.divideError", "math/bits.overflowError"], apart := false }
def ParamLeaksSaid : Prop := paramLeaksRow.holds Try.pinned (OpenSpec.ofChange paramLeaksSpec)

/-- ITS FALSE NEIGHBOUR: 'it returns false'. Refute it at one input. -/
def paramLeaksWrong : ChangeSpec := { name := "paramLeaks", fn := fun _ => fun
  | [d] => { results := [.lit (.bool false)], args := [d] }
  | _ => none }
def ParamLeaksWrongFalsely : Prop := paramLeaksRow.holds Try.pinned (OpenSpec.ofChange paramLeaksWrong)

/-- 'bullionlaw07.ParamBounds': WHATEVER THE INPUT: true; the input reads as it did. -/
def paramBoundsSpec : ChangeSpec := { name := "paramBounds", fn := fun _ => fun
  | [d1, d2] => { results := [.lit (.bool true)], args := [d1, d2] }
  | _ => none }
def paramBoundsRow : OpenClaim := { program := "ytecdfphfgaeodaa", sum := "ca3e03aa6c55fc5cbf29f379899ab8f8fa612097625ea79cad2f9e710f16053b", func := "bullion/bullionlaw07.ParamBounds", spec := "paramBounds", inPlace := ["math/bits.Add64"], unfollowed := true, recurses := true, named := ["math/bits.divideError", "math/bits.overflowError"], apart := false }
def ParamBoundsSaid : Prop := paramBoundsRow.holds Try.pinned (OpenSpec.ofChange paramBoundsSpec)

/-- ITS FALSE NEIGHBOUR: 'it returns false'. Refute it at one input. -/
def paramBoundsWrong : ChangeSpec := { name := "paramBounds", fn := fun _ => fun
  | [d1, d2] => { results := [.lit (.bool false)], args := [d1, d2] }
  | _ => none }
def ParamBoundsWrongFalsely : Prop := paramBoundsRow.holds Try.pinned (OpenSpec.ofChange paramBoundsWrong)

/-- 'bullionlaw07.ParamBytes': WHATEVER THE INPUT: true; the input reads as it did. -/
def paramBytesSpec : ChangeSpec := { name := "paramBytes", fn := fun _ => fun
  | [d1, d2] => { results := [.lit (.bool true)], args := [d1, d2] }
  | _ => none }
def paramBytesRow : OpenClaim := { program := "ytecdfphfgaeodaa", sum := "ca3e03aa6c55fc5cbf29f379899ab8f8fa612097625ea79cad2f9e710f16053b", func := "bullion/bullionlaw07.ParamBytes", spec := "paramBytes", unfollowed := true, recurses := true, named := ["math/bits.divideError", "math/bits.overflowError"], apart := false }
def ParamBytesSaid : Prop := paramBytesRow.holds Try.pinned (OpenSpec.ofChange paramBytesSpec)

/-- ITS FALSE NEIGHBOUR: 'it returns false'. Refute it at one input. -/
def paramBytesWrong : ChangeSpec := { name := "paramBytes", fn := fun _ => fun
  | [d1, d2] => { results := [.lit (.bool false)], args := [d1, d2] }
  | _ => none }
def ParamBytesWrongFalsely : Prop := paramBytesRow.holds Try.pinned (OpenSpec.ofChange paramBytesWrong)

/-- 'bullionlaw07.ParamBack': WHATEVER THE INPUT: true; the input reads as it did. -/
def paramBackSpec : ChangeSpec := { name := "paramBack", fn := fun _ => fun
  | [d1, d2] => { results := [.lit (.bool true)], args := [d1, d2] }
  | _ => none }
def paramBackRow : OpenClaim := { program := "ytecdfphfgaeodaa", sum := "ca3e03aa6c55fc5cbf29f379899ab8f8fa612097625ea79cad2f9e710f16053b", func := "bullion/bullionlaw07.ParamBack", spec := "paramBack", unfollowed := true, recurses := true, named := ["math/bits.divideError", "math/bits.overflowError"], apart := false }
def ParamBackSaid : Prop := paramBackRow.holds Try.pinned (OpenSpec.ofChange paramBackSpec)

/-- ITS FALSE NEIGHBOUR: 'it returns false'. Refute it at one input. -/
def paramBackWrong : ChangeSpec := { name := "paramBack", fn := fun _ => fun
  | [d1, d2] => { results := [.lit (.bool false)], args := [d1, d2] }
  | _ => none }
def ParamBackWrongFalsely : Prop := paramBackRow.holds Try.pinned (OpenSpec.ofChange paramBackWrong)

/-- 'bullionlaw15.FineSplits': WHATEVER THE INPUT: true; the input reads as it did. -/
def fineSplitsSpec : ChangeSpec := { name := "fineSplits", fn := fun _ => fun
  | [d1, d2] => { results := [.lit (.bool true)], args := [d1, d2] }
  | _ => none }
def fineSplitsRow : OpenClaim := { program := "ytecdfphfgaeodaa", sum := "ca3e03aa6c55fc5cbf29f379899ab8f8fa612097625ea79cad2f9e710f16053b", func := "bullion/bullionlaw15.FineSplits", spec := "fineSplits", unfollowed := true, recurses := true, named := ["math/bits.divideError", "math/bits.overflowError"], apart := false }
def FineSplitsSaid : Prop := fineSplitsRow.holds Try.pinned (OpenSpec.ofChange fineSplitsSpec)

/-- ITS FALSE NEIGHBOUR: 'it returns false'. Refute it at one input. -/
def fineSplitsWrong : ChangeSpec := { name := "fineSplits", fn := fun _ => fun
  | [d1, d2] => { results := [.lit (.bool false)], args := [d1, d2] }
  | _ => none }
def FineSplitsWrongFalsely : Prop := fineSplitsRow.holds Try.pinned (OpenSpec.ofChange fineSplitsWrong)

/-- 'bullionlaw15.FineTakes': WHATEVER THE INPUT: true; the input reads as it did. -/
def fineTakesSpec : ChangeSpec := { name := "fineTakes", fn := fun _ => fun
  | [d1, d2, d3] => { results := [.lit (.bool true)], args := [d1, d2, d3] }
  | _ => none }
def fineTakesRow : OpenClaim := { program := "ytecdfphfgaeodaa", sum := "ca3e03aa6c55fc5cbf29f379899ab8f8fa612097625ea79cad2f9e710f16053b", func := "bullion/bullionlaw15.FineTakes", spec := "fineTakes", unfollowed := true, recurses := true, named := ["math/bits.divideError", "math/bits.overflowError"], apart := false }
def FineTakesSaid : Prop := fineTakesRow.holds Try.pinned (OpenSpec.ofChange fineTakesSpec)

/-- ITS FALSE NEIGHBOUR: 'it returns false'. Refute it at one input. -/
def fineTakesWrong : ChangeSpec := { name := "fineTakes", fn := fun _ => fun
  | [d1, d2, d3] => { results := [.lit (.bool false)], args := [d1, d2, d3] }
  | _ => none }
def FineTakesWrongFalsely : Prop := fineTakesRow.holds Try.pinned (OpenSpec.ofChange fineTakesWrong)

/-- 'bullionlaw15.FineLeast': WHATEVER THE INPUT: true; the input reads as it did. -/
def fineLeastSpec : ChangeSpec := { name := "fineLeast", fn := fun _ => fun
  | [d1, d2, d3] => { results := [.lit (.bool true)], args := [d1, d2, d3] }
  | _ => none }
def fineLeastRow : OpenClaim := { program := "ytecdfphfgaeodaa", sum := "ca3e03aa6c55fc5cbf29f379899ab8f8fa612097625ea79cad2f9e710f16053b", func := "bullion/bullionlaw15.FineLeast", spec := "fineLeast", unfollowed := true, recurses := true, named := ["math/bits.divideError", "math/bits.overflowError"], apart := false }
def FineLeastSaid : Prop := fineLeastRow.holds Try.pinned (OpenSpec.ofChange fineLeastSpec)

/-- ITS FALSE NEIGHBOUR: 'it returns false'. Refute it at one input. -/
def fineLeastWrong : ChangeSpec := { name := "fineLeast", fn := fun _ => fun
  | [d1, d2, d3] => { results := [.lit (.bool false)], args := [d1, d2, d3] }
  | _ => none }
def FineLeastWrongFalsely : Prop := fineLeastRow.holds Try.pinned (OpenSpec.ofChange fineLeastWrong)

/-- 'bullionlaw15.FineDrains': WHATEVER THE INPUT: true; the input reads as it did. -/
def fineDrainsSpec : ChangeSpec := { name := "fineDrains", fn := fun _ => fun
  | [d1, d2] => { results := [.lit (.bool true)], args := [d1, d2] }
  | _ => none }
def fineDrainsRow : OpenClaim := { program := "ytecdfphfgaeodaa", sum := "ca3e03aa6c55fc5cbf29f379899ab8f8fa612097625ea79cad2f9e710f16053b", func := "bullion/bullionlaw15.FineDrains", spec := "fineDrains", unfollowed := true, recurses := true, named := ["math/bits.divideError", "math/bits.overflowError"], apart := false }
def FineDrainsSaid : Prop := fineDrainsRow.holds Try.pinned (OpenSpec.ofChange fineDrainsSpec)

/-- ITS FALSE NEIGHBOUR: 'it returns false'. Refute it at one input. -/
def fineDrainsWrong : ChangeSpec := { name := "fineDrains", fn := fun _ => fun
  | [d1, d2] => { results := [.lit (.bool false)], args := [d1, d2] }
  | _ => none }
def FineDrainsWrongFalsely : Prop := fineDrainsRow.holds Try.pinned (OpenSpec.ofChange fineDrainsWrong)

/- THE SECOND FORM. 'bulk': how many values and letters a reading holds, each counted each time it is reached (what is shared counts as often as it is met; a slice's spare places count too). A statement '..UptoSaid' is the law's where the arguments, and the package variables that the reading takes, are together of bulk at most 1048576: NARROWER than '..Said'. Prove '..Said' where nothing that the law and all that it calls make is longer than what came in: it says more and counts as full. Else prove '..UptoSaid'. A law counts once. -/
mutual
def uptoBulk {H : Type} : DataW H → Nat
  | .lit (.string bytes) => bytes.length + 1
  | .lit _ => 1
  | .nil => 1
  | .ptr d => uptoBulk d + 1
  | .slice elems spare => uptoBulkAll elems + uptoBulkAll spare + 1
  | .agg parts => uptoBulkAll parts + 1
  | .iface _ d => uptoBulk d + 1
  | .map entries => uptoBulkEntries entries + 1
  | .held _ => 1
def uptoBulkAll {H : Type} : List (DataW H) → Nat
  | [] => 0
  | d :: r => uptoBulk d + uptoBulkAll r
def uptoBulkEntries {H : Type} : List (Lit × DataW H) → Nat
  | [] => 0
  | x :: r => uptoBulkEntry x + uptoBulkEntries r
def uptoBulkEntry {H : Type} : Lit × DataW H → Nat
  | (.string bytes, d) => bytes.length + uptoBulk d + 1
  | (_, d) => uptoBulk d + 1
 end
def uptoSmall : (H : Type) → List (DataW H) → Bool := fun _ ds => decide (uptoBulkAll ds ≤ 1048576)
def OpenSpec.upto (s : _root_.Go.ChangeSpec) : _root_.Go.OpenSpec := { _root_.Go.OpenSpec.ofChange s with cond := some uptoSmall }

/-- 'bullionlaw07.ParamChecks', WHERE WHAT IT READS IS OF BULK AT MOST 1048576: true; the input reads as it did. -/
def paramChecksUptoRow : OpenClaim := { program := "ytecdfphfgaeodaa", sum := "ca3e03aa6c55fc5cbf29f379899ab8f8fa612097625ea79cad2f9e710f16053b", func := "bullion/bullionlaw07.ParamChecks", spec := "paramChecks", unfollowed := true, recurses := true, named := ["math/bits.divideError", "math/bits.overflowError"], apart := false, narrowed := true }
def ParamChecksUptoSaid : Prop := paramChecksUptoRow.holds Try.pinned (OpenSpec.upto paramChecksSpec)

/-- 'bullionlaw07.ParamLeaks', WHERE WHAT IT READS IS OF BULK AT MOST 1048576: true; the input reads as it did. -/
def paramLeaksUptoRow : OpenClaim := { program := "ytecdfphfgaeodaa", sum := "ca3e03aa6c55fc5cbf29f379899ab8f8fa612097625ea79cad2f9e710f16053b", func := "bullion/bullionlaw07.ParamLeaks", spec := "paramLeaks", unfollowed := true, recurses := true, named := ["math/bits.divideError", "math/bits.overflowError"], apart := false, narrowed := true }
def ParamLeaksUptoSaid : Prop := paramLeaksUptoRow.holds Try.pinned (OpenSpec.upto paramLeaksSpec)

/-- 'bullionlaw07.ParamBounds', WHERE WHAT IT READS IS OF BULK AT MOST 1048576: true; the input reads as it did. -/
def paramBoundsUptoRow : OpenClaim := { program := "ytecdfphfgaeodaa", sum := "ca3e03aa6c55fc5cbf29f379899ab8f8fa612097625ea79cad2f9e710f16053b", func := "bullion/bullionlaw07.ParamBounds", spec := "paramBounds", inPlace := ["math/bits.Add64"], unfollowed := true, recurses := true, named := ["math/bits.divideError", "math/bits.overflowError"], apart := false, narrowed := true }
def ParamBoundsUptoSaid : Prop := paramBoundsUptoRow.holds Try.pinned (OpenSpec.upto paramBoundsSpec)

/-- 'bullionlaw07.ParamBytes', WHERE WHAT IT READS IS OF BULK AT MOST 1048576: true; the input reads as it did. -/
def paramBytesUptoRow : OpenClaim := { program := "ytecdfphfgaeodaa", sum := "ca3e03aa6c55fc5cbf29f379899ab8f8fa612097625ea79cad2f9e710f16053b", func := "bullion/bullionlaw07.ParamBytes", spec := "paramBytes", unfollowed := true, recurses := true, named := ["math/bits.divideError", "math/bits.overflowError"], apart := false, narrowed := true }
def ParamBytesUptoSaid : Prop := paramBytesUptoRow.holds Try.pinned (OpenSpec.upto paramBytesSpec)

/-- 'bullionlaw07.ParamBack', WHERE WHAT IT READS IS OF BULK AT MOST 1048576: true; the input reads as it did. -/
def paramBackUptoRow : OpenClaim := { program := "ytecdfphfgaeodaa", sum := "ca3e03aa6c55fc5cbf29f379899ab8f8fa612097625ea79cad2f9e710f16053b", func := "bullion/bullionlaw07.ParamBack", spec := "paramBack", unfollowed := true, recurses := true, named := ["math/bits.divideError", "math/bits.overflowError"], apart := false, narrowed := true }
def ParamBackUptoSaid : Prop := paramBackUptoRow.holds Try.pinned (OpenSpec.upto paramBackSpec)

/-- 'bullionlaw15.FineSplits', WHERE WHAT IT READS IS OF BULK AT MOST 1048576: true; the input reads as it did. -/
def fineSplitsUptoRow : OpenClaim := { program := "ytecdfphfgaeodaa", sum := "ca3e03aa6c55fc5cbf29f379899ab8f8fa612097625ea79cad2f9e710f16053b", func := "bullion/bullionlaw15.FineSplits", spec := "fineSplits", unfollowed := true, recurses := true, named := ["math/bits.divideError", "math/bits.overflowError"], apart := false, narrowed := true }
def FineSplitsUptoSaid : Prop := fineSplitsUptoRow.holds Try.pinned (OpenSpec.upto fineSplitsSpec)

/-- 'bullionlaw15.FineTakes', WHERE WHAT IT READS IS OF BULK AT MOST 1048576: true; the input reads as it did. -/
def fineTakesUptoRow : OpenClaim := { program := "ytecdfphfgaeodaa", sum := "ca3e03aa6c55fc5cbf29f379899ab8f8fa612097625ea79cad2f9e710f16053b", func := "bullion/bullionlaw15.FineTakes", spec := "fineTakes", unfollowed := true, recurses := true, named := ["math/bits.divideError", "math/bits.overflowError"], apart := false, narrowed := true }
def FineTakesUptoSaid : Prop := fineTakesUptoRow.holds Try.pinned (OpenSpec.upto fineTakesSpec)

/-- 'bullionlaw15.FineLeast', WHERE WHAT IT READS IS OF BULK AT MOST 1048576: true; the input reads as it did. -/
def fineLeastUptoRow : OpenClaim := { program := "ytecdfphfgaeodaa", sum := "ca3e03aa6c55fc5cbf29f379899ab8f8fa612097625ea79cad2f9e710f16053b", func := "bullion/bullionlaw15.FineLeast", spec := "fineLeast", unfollowed := true, recurses := true, named := ["math/bits.divideError", "math/bits.overflowError"], apart := false, narrowed := true }
def FineLeastUptoSaid : Prop := fineLeastUptoRow.holds Try.pinned (OpenSpec.upto fineLeastSpec)

/-- 'bullionlaw15.FineDrains', WHERE WHAT IT READS IS OF BULK AT MOST 1048576: true; the input reads as it did. -/
def fineDrainsUptoRow : OpenClaim := { program := "ytecdfphfgaeodaa", sum := "ca3e03aa6c55fc5cbf29f379899ab8f8fa612097625ea79cad2f9e710f16053b", func := "bullion/bullionlaw15.FineDrains", spec := "fineDrains", unfollowed := true, recurses := true, named := ["math/bits.divideError", "math/bits.overflowError"], apart := false, narrowed := true }
def FineDrainsUptoSaid : Prop := fineDrainsUptoRow.holds Try.pinned (OpenSpec.upto fineDrainsSpec)

end Rows
end Go.Proofs.Ytecdfphfgaeodaa

/-
  No cell of these rows narrows 'for every input' (looked for: loops, veiled, ifaces, maps, wideKeys, modest, calm, conditions, laid).
  DERIVED. THE GIVEN ROWS OF THIS SEAT. 11 by the template 'for every input the law returns true; each argument reads behind the call as it read before'; 0 by the template 'total and deterministic' (their statements: YtncobbhhjkdllaaTotals.lean).
  GIVEN WITH THE SEED: the statements are not yours to turn. If you find one false, say at which input.
  Laid BY PROGRAM, IN A SANDBOX (cutbox-rows.mjs): the forced cells as the released guide's own fill.sh prints them over the translation 353713b66b51f9a2… (all of the seat's roots in one cut). By AI agents, Wed Nov 11 2026. No macro, syntax, notation, axiom, sorry.
-/
import Derived.Test.YtncobbhhjkdllaaChecked
import GoSem.Claim
import GoSem.ClaimJoined
import GoSem.ClaimMapViews
import Derived.JoinedTies
import Derived.KernelRfl
namespace Go.Proofs.Ytncobbhhjkdllaa
/- THE CELL 'sum', in the pinned program and in every row, IS THE sha256 OF THE DUMP (.gsa) THAT YtncobbhhjkdllaaProg.lean LOADS. Nothing in Lean hashes anything: it is a label: what it is worth is what the hold of that sum in a sandbox is worth. -/
noncomputable def Try.pinned : Pinned := { name := "ytncobbhhjkdllaa", sum := "353713b66b51f9a2b0392a8834fe001a6781ec3b6a495503ce874b8468f13c7d", checked := Try.checked }
namespace Rows
def none {H : Type} : Left H := { results := [], args := [] }

/-- 'bullionlaw10.GrainStays': WHATEVER THE INPUT: true; the input reads as it did. -/
def grainStaysSpec : ChangeSpec := { name := "grainStays", fn := fun _ => fun
  | [d1, d2, d3] => { results := [.lit (.bool true)], args := [d1, d2, d3] }
  | _ => none }
def grainStaysRow : OpenClaim := { program := "ytncobbhhjkdllaa", sum := "353713b66b51f9a2b0392a8834fe001a6781ec3b6a495503ce874b8468f13c7d", func := "bullion/bullionlaw10.GrainStays", spec := "grainStays", inPlace := ["math/bits.Add64"], unfollowed := true, recurses := true, apart := false }
def GrainStaysSaid : Prop := grainStaysRow.holds Try.pinned (OpenSpec.ofChange grainStaysSpec)

/-- ITS FALSE NEIGHBOUR: 'it returns false'. Refute it at one input. -/
def grainStaysWrong : ChangeSpec := { name := "grainStays", fn := fun _ => fun
  | [d1, d2, d3] => { results := [.lit (.bool false)], args := [d1, d2, d3] }
  | _ => none }
def GrainStaysWrongFalsely : Prop := grainStaysRow.holds Try.pinned (OpenSpec.ofChange grainStaysWrong)

/-- 'bullionlaw10.GrainRises': WHATEVER THE INPUT: true; the input reads as it did. -/
def grainRisesSpec : ChangeSpec := { name := "grainRises", fn := fun _ => fun
  | [d1, d2, d3] => { results := [.lit (.bool true)], args := [d1, d2, d3] }
  | _ => none }
def grainRisesRow : OpenClaim := { program := "ytncobbhhjkdllaa", sum := "353713b66b51f9a2b0392a8834fe001a6781ec3b6a495503ce874b8468f13c7d", func := "bullion/bullionlaw10.GrainRises", spec := "grainRises", inPlace := ["math/bits.Add64"], unfollowed := true, recurses := true, apart := false }
def GrainRisesSaid : Prop := grainRisesRow.holds Try.pinned (OpenSpec.ofChange grainRisesSpec)

/-- ITS FALSE NEIGHBOUR: 'it returns false'. Refute it at one input. -/
def grainRisesWrong : ChangeSpec := { name := "grainRises", fn := fun _ => fun
  | [d1, d2, d3] => { results := [.lit (.bool false)], args := [d1, d2, d3] }
  | _ => none }
def GrainRisesWrongFalsely : Prop := grainRisesRow.holds Try.pinned (OpenSpec.ofChange grainRisesWrong)

/-- 'bullionlaw10.GrainNexts': WHATEVER THE INPUT: true; the input reads as it did. -/
def grainNextsSpec : ChangeSpec := { name := "grainNexts", fn := fun _ => fun
  | [d1, d2, d3] => { results := [.lit (.bool true)], args := [d1, d2, d3] }
  | _ => none }
def grainNextsRow : OpenClaim := { program := "ytncobbhhjkdllaa", sum := "353713b66b51f9a2b0392a8834fe001a6781ec3b6a495503ce874b8468f13c7d", func := "bullion/bullionlaw10.GrainNexts", spec := "grainNexts", inPlace := ["math/bits.Add64"], unfollowed := true, recurses := true, apart := false }
def GrainNextsSaid : Prop := grainNextsRow.holds Try.pinned (OpenSpec.ofChange grainNextsSpec)

/-- ITS FALSE NEIGHBOUR: 'it returns false'. Refute it at one input. -/
def grainNextsWrong : ChangeSpec := { name := "grainNexts", fn := fun _ => fun
  | [d1, d2, d3] => { results := [.lit (.bool false)], args := [d1, d2, d3] }
  | _ => none }
def GrainNextsWrongFalsely : Prop := grainNextsRow.holds Try.pinned (OpenSpec.ofChange grainNextsWrong)

/-- 'bullionlaw11.ScoreMounts': WHATEVER THE INPUT: true; the input reads as it did. -/
def scoreMountsSpec : ChangeSpec := { name := "scoreMounts", fn := fun _ => fun
  | [d1, d2, d3] => { results := [.lit (.bool true)], args := [d1, d2, d3] }
  | _ => none }
def scoreMountsRow : OpenClaim := { program := "ytncobbhhjkdllaa", sum := "353713b66b51f9a2b0392a8834fe001a6781ec3b6a495503ce874b8468f13c7d", func := "bullion/bullionlaw11.ScoreMounts", spec := "scoreMounts", inPlace := ["math/bits.Sub64", "math/bits.Add64"], unfollowed := true, recurses := true, apart := false }
def ScoreMountsSaid : Prop := scoreMountsRow.holds Try.pinned (OpenSpec.ofChange scoreMountsSpec)

/-- ITS FALSE NEIGHBOUR: 'it returns false'. Refute it at one input. -/
def scoreMountsWrong : ChangeSpec := { name := "scoreMounts", fn := fun _ => fun
  | [d1, d2, d3] => { results := [.lit (.bool false)], args := [d1, d2, d3] }
  | _ => none }
def ScoreMountsWrongFalsely : Prop := scoreMountsRow.holds Try.pinned (OpenSpec.ofChange scoreMountsWrong)

/-- 'bullionlaw11.ScoreKeeps': WHATEVER THE INPUT: true; the input reads as it did. -/
def scoreKeepsSpec : ChangeSpec := { name := "scoreKeeps", fn := fun _ => fun
  | [d1, d2, d3] => { results := [.lit (.bool true)], args := [d1, d2, d3] }
  | _ => none }
def scoreKeepsRow : OpenClaim := { program := "ytncobbhhjkdllaa", sum := "353713b66b51f9a2b0392a8834fe001a6781ec3b6a495503ce874b8468f13c7d", func := "bullion/bullionlaw11.ScoreKeeps", spec := "scoreKeeps", inPlace := ["math/bits.Sub64", "math/bits.Add64"], unfollowed := true, recurses := true, apart := false }
def ScoreKeepsSaid : Prop := scoreKeepsRow.holds Try.pinned (OpenSpec.ofChange scoreKeepsSpec)

/-- ITS FALSE NEIGHBOUR: 'it returns false'. Refute it at one input. -/
def scoreKeepsWrong : ChangeSpec := { name := "scoreKeeps", fn := fun _ => fun
  | [d1, d2, d3] => { results := [.lit (.bool false)], args := [d1, d2, d3] }
  | _ => none }
def ScoreKeepsWrongFalsely : Prop := scoreKeepsRow.holds Try.pinned (OpenSpec.ofChange scoreKeepsWrong)

/-- 'bullionlaw11.ScoreAfters': WHATEVER THE INPUT: true; the input reads as it did. -/
def scoreAftersSpec : ChangeSpec := { name := "scoreAfters", fn := fun _ => fun
  | [d1, d2, d3] => { results := [.lit (.bool true)], args := [d1, d2, d3] }
  | _ => none }
def scoreAftersRow : OpenClaim := { program := "ytncobbhhjkdllaa", sum := "353713b66b51f9a2b0392a8834fe001a6781ec3b6a495503ce874b8468f13c7d", func := "bullion/bullionlaw11.ScoreAfters", spec := "scoreAfters", inPlace := ["math/bits.Sub64", "math/bits.Add64"], unfollowed := true, recurses := true, apart := false }
def ScoreAftersSaid : Prop := scoreAftersRow.holds Try.pinned (OpenSpec.ofChange scoreAftersSpec)

/-- ITS FALSE NEIGHBOUR: 'it returns false'. Refute it at one input. -/
def scoreAftersWrong : ChangeSpec := { name := "scoreAfters", fn := fun _ => fun
  | [d1, d2, d3] => { results := [.lit (.bool false)], args := [d1, d2, d3] }
  | _ => none }
def ScoreAftersWrongFalsely : Prop := scoreAftersRow.holds Try.pinned (OpenSpec.ofChange scoreAftersWrong)

/-- 'bullionlaw04.ShareSplits': WHATEVER THE INPUT: true; the input reads as it did. -/
def shareSplitsSpec : ChangeSpec := { name := "shareSplits", fn := fun _ => fun
  | [d1, d2] => { results := [.lit (.bool true)], args := [d1, d2] }
  | _ => none }
def shareSplitsRow : OpenClaim := { program := "ytncobbhhjkdllaa", sum := "353713b66b51f9a2b0392a8834fe001a6781ec3b6a495503ce874b8468f13c7d", func := "bullion/bullionlaw04.ShareSplits", spec := "shareSplits", inPlace := ["math/bits.Add64"], unfollowed := true, recurses := true, named := ["math/bits.divideError", "math/bits.overflowError"], apart := false }
def ShareSplitsSaid : Prop := shareSplitsRow.holds Try.pinned (OpenSpec.ofChange shareSplitsSpec)

/-- ITS FALSE NEIGHBOUR: 'it returns false'. Refute it at one input. -/
def shareSplitsWrong : ChangeSpec := { name := "shareSplits", fn := fun _ => fun
  | [d1, d2] => { results := [.lit (.bool false)], args := [d1, d2] }
  | _ => none }
def ShareSplitsWrongFalsely : Prop := shareSplitsRow.holds Try.pinned (OpenSpec.ofChange shareSplitsWrong)

/-- 'bullionlaw04.ShareSpreads': WHATEVER THE INPUT: true; the input reads as it did. -/
def shareSpreadsSpec : ChangeSpec := { name := "shareSpreads", fn := fun _ => fun
  | [d1, d2] => { results := [.lit (.bool true)], args := [d1, d2] }
  | _ => none }
def shareSpreadsRow : OpenClaim := { program := "ytncobbhhjkdllaa", sum := "353713b66b51f9a2b0392a8834fe001a6781ec3b6a495503ce874b8468f13c7d", func := "bullion/bullionlaw04.ShareSpreads", spec := "shareSpreads", inPlace := ["math/bits.Add64"], unfollowed := true, recurses := true, named := ["math/bits.divideError", "math/bits.overflowError"], apart := false }
def ShareSpreadsSaid : Prop := shareSpreadsRow.holds Try.pinned (OpenSpec.ofChange shareSpreadsSpec)

/-- ITS FALSE NEIGHBOUR: 'it returns false'. Refute it at one input. -/
def shareSpreadsWrong : ChangeSpec := { name := "shareSpreads", fn := fun _ => fun
  | [d1, d2] => { results := [.lit (.bool false)], args := [d1, d2] }
  | _ => none }
def ShareSpreadsWrongFalsely : Prop := shareSpreadsRow.holds Try.pinned (OpenSpec.ofChange shareSpreadsWrong)

/-- 'bullionlaw04.ShareWhole': WHATEVER THE INPUT: true; the input reads as it did. -/
def shareWholeSpec : ChangeSpec := { name := "shareWhole", fn := fun _ => fun
  | [d1, d2] => { results := [.lit (.bool true)], args := [d1, d2] }
  | _ => none }
def shareWholeRow : OpenClaim := { program := "ytncobbhhjkdllaa", sum := "353713b66b51f9a2b0392a8834fe001a6781ec3b6a495503ce874b8468f13c7d", func := "bullion/bullionlaw04.ShareWhole", spec := "shareWhole", inPlace := ["math/bits.Add64"], unfollowed := true, recurses := true, named := ["math/bits.divideError", "math/bits.overflowError"], apart := false }
def ShareWholeSaid : Prop := shareWholeRow.holds Try.pinned (OpenSpec.ofChange shareWholeSpec)

/-- ITS FALSE NEIGHBOUR: 'it returns false'. Refute it at one input. -/
def shareWholeWrong : ChangeSpec := { name := "shareWhole", fn := fun _ => fun
  | [d1, d2] => { results := [.lit (.bool false)], args := [d1, d2] }
  | _ => none }
def ShareWholeWrongFalsely : Prop := shareWholeRow.holds Try.pinned (OpenSpec.ofChange shareWholeWrong)

/-- 'bullionlaw04.ShareAll': WHATEVER THE INPUT: true; the input reads as it did. -/
def shareAllSpec : ChangeSpec := { name := "shareAll", fn := fun _ => fun
  | [d1, d2] => { results := [.lit (.bool true)], args := [d1, d2] }
  | _ => none }
def shareAllRow : OpenClaim := { program := "ytncobbhhjkdllaa", sum := "353713b66b51f9a2b0392a8834fe001a6781ec3b6a495503ce874b8468f13c7d", func := "bullion/bullionlaw04.ShareAll", spec := "shareAll", inPlace := ["math/bits.Add64"], unfollowed := true, recurses := true, named := ["math/bits.divideError", "math/bits.overflowError"], apart := false }
def ShareAllSaid : Prop := shareAllRow.holds Try.pinned (OpenSpec.ofChange shareAllSpec)

/-- ITS FALSE NEIGHBOUR: 'it returns false'. Refute it at one input. -/
def shareAllWrong : ChangeSpec := { name := "shareAll", fn := fun _ => fun
  | [d1, d2] => { results := [.lit (.bool false)], args := [d1, d2] }
  | _ => none }
def ShareAllWrongFalsely : Prop := shareAllRow.holds Try.pinned (OpenSpec.ofChange shareAllWrong)

/-- 'bullionlaw04.ShareCuts': WHATEVER THE INPUT: true; the input reads as it did. -/
def shareCutsSpec : ChangeSpec := { name := "shareCuts", fn := fun _ => fun
  | [d1, d2] => { results := [.lit (.bool true)], args := [d1, d2] }
  | _ => none }
def shareCutsRow : OpenClaim := { program := "ytncobbhhjkdllaa", sum := "353713b66b51f9a2b0392a8834fe001a6781ec3b6a495503ce874b8468f13c7d", func := "bullion/bullionlaw04.ShareCuts", spec := "shareCuts", inPlace := ["math/bits.Add64"], unfollowed := true, recurses := true, named := ["math/bits.divideError", "math/bits.overflowError"], apart := false }
def ShareCutsSaid : Prop := shareCutsRow.holds Try.pinned (OpenSpec.ofChange shareCutsSpec)

/-- ITS FALSE NEIGHBOUR: 'it returns false'. Refute it at one input. -/
def shareCutsWrong : ChangeSpec := { name := "shareCuts", fn := fun _ => fun
  | [d1, d2] => { results := [.lit (.bool false)], args := [d1, d2] }
  | _ => none }
def ShareCutsWrongFalsely : Prop := shareCutsRow.holds Try.pinned (OpenSpec.ofChange shareCutsWrong)

/- THE SECOND FORM. 'bulk': how many values and letters a reading holds, each counted each time it is reached (what is shared counts as often as it is met; a slice's spare places count too). A statement '..UptoSaid' is the law's where the arguments, and the package variables that the reading takes, are together of bulk at most 1048576: NARROWER than '..Said'. Prove '..Said' where nothing that the law and all that it calls make is longer than what came in: it says more and counts as full. Else prove '..UptoSaid'. A law counts once. -/
mutual
def uptoBulk {H : Type} : DataW H → Nat
  | .lit (.string bytes) => bytes.length + 1
  | .lit _ => 1
  | .nil => 1
  | .ptr d => uptoBulk d + 1
  | .slice elems spare => uptoBulkAll elems + uptoBulkAll spare + 1
  | .agg parts => uptoBulkAll parts + 1
  | .iface _ d => uptoBulk d + 1
  | .map entries => uptoBulkEntries entries + 1
  | .held _ => 1
def uptoBulkAll {H : Type} : List (DataW H) → Nat
  | [] => 0
  | d :: r => uptoBulk d + uptoBulkAll r
def uptoBulkEntries {H : Type} : List (Lit × DataW H) → Nat
  | [] => 0
  | x :: r => uptoBulkEntry x + uptoBulkEntries r
def uptoBulkEntry {H : Type} : Lit × DataW H → Nat
  | (.string bytes, d) => bytes.length + uptoBulk d + 1
  | (_, d) => uptoBulk d + 1
 end
def uptoSmall : (H : Type) → List (DataW H) → Bool := fun _ ds => decide (uptoBulkAll ds ≤ 1048576)
def OpenSpec.upto (s : _root_.Go.ChangeSpec) : _root_.Go.OpenSpec := { _root_.Go.OpenSpec.ofChange s with cond := some uptoSmall }

/-- 'bullionlaw10.GrainStays', WHERE WHAT IT READS IS OF BULK AT MOST 1048576: true; the input reads as it did. -/
def grainStaysUptoRow : OpenClaim := { program := "ytncobbhhjkdllaa", sum := "353713b66b51f9a2b0392a8834fe001a6781ec3b6a495503ce874b8468f13c7d", func := "bullion/bullionlaw10.GrainStays", spec := "grainStays", inPlace := ["math/bits.Add64"], unfollowed := true, recurses := true, apart := false, narrowed := true }
def GrainStaysUptoSaid : Prop := grainStaysUptoRow.holds Try.pinned (OpenSpec.upto grainStaysSpec)

/-- 'bullionlaw10.GrainRises', WHERE WHAT IT READS IS OF BULK AT MOST 1048576: true; the input reads as it did. -/
def grainRisesUptoRow : OpenClaim := { program := "ytncobbhhjkdllaa", sum := "353713b66b51f9a2b0392a8834fe001a6781ec3b6a495503ce874b8468f13c7d", func := "bullion/bullionlaw10.GrainRises", spec := "grainRises", inPlace := ["math/bits.Add64"], unfollowed := true, recurses := true, apart := false, narrowed := true }
def GrainRisesUptoSaid : Prop := grainRisesUptoRow.holds Try.pinned (OpenSpec.upto grainRisesSpec)

/-- 'bullionlaw10.GrainNexts', WHERE WHAT IT READS IS OF BULK AT MOST 1048576: true; the input reads as it did. -/
def grainNextsUptoRow : OpenClaim := { program := "ytncobbhhjkdllaa", sum := "353713b66b51f9a2b0392a8834fe001a6781ec3b6a495503ce874b8468f13c7d", func := "bullion/bullionlaw10.GrainNexts", spec := "grainNexts", inPlace := ["math/bits.Add64"], unfollowed := true, recurses := true, apart := false, narrowed := true }
def GrainNextsUptoSaid : Prop := grainNextsUptoRow.holds Try.pinned (OpenSpec.upto grainNextsSpec)

/-- 'bullionlaw11.ScoreMounts', WHERE WHAT IT READS IS OF BULK AT MOST 1048576: true; the input reads as it did. -/
def scoreMountsUptoRow : OpenClaim := { program := "ytncobbhhjkdllaa", sum := "353713b66b51f9a2b0392a8834fe001a6781ec3b6a495503ce874b8468f13c7d", func := "bullion/bullionlaw11.ScoreMounts", spec := "scoreMounts", inPlace := ["math/bits.Sub64", "math/bits.Add64"], unfollowed := true, recurses := true, apart := false, narrowed := true }
def ScoreMountsUptoSaid : Prop := scoreMountsUptoRow.holds Try.pinned (OpenSpec.upto scoreMountsSpec)

/-- 'bullionlaw11.ScoreKeeps', WHERE WHAT IT READS IS OF BULK AT MOST 1048576: true; the input reads as it did. -/
def scoreKeepsUptoRow : OpenClaim := { program := "ytncobbhhjkdllaa", sum := "353713b66b51f9a2b0392a8834fe001a6781ec3b6a495503ce874b8468f13c7d", func := "bullion/bullionlaw11.ScoreKeeps", spec := "scoreKeeps", inPlace := ["math/bits.Sub64", "math/bits.Add64"], unfollowed := true, recurses := true, apart := false, narrowed := true }
def ScoreKeepsUptoSaid : Prop := scoreKeepsUptoRow.holds Try.pinned (OpenSpec.upto scoreKeepsSpec)

/-- 'bullionlaw11.ScoreAfters', WHERE WHAT IT READS IS OF BULK AT MOST 1048576: true; the input reads as it did. -/
def scoreAftersUptoRow : OpenClaim := { program := "ytncobbhhjkdllaa", sum := "353713b66b51f9a2b0392a8834fe001a6781ec3b6a495503ce874b8468f13c7d", func := "bullion/bullionlaw11.ScoreAfters", spec := "scoreAfters", inPlace := ["math/bits.Sub64", "math/bits.Add64"], unfollowed := true, recurses := true, apart := false, narrowed := true }
def ScoreAftersUptoSaid : Prop := scoreAftersUptoRow.holds Try.pinned (OpenSpec.upto scoreAftersSpec)

/-- 'bullionlaw04.ShareSplits', WHERE WHAT IT READS IS OF BULK AT MOST 1048576: true; the input reads as it did. -/
def shareSplitsUptoRow : OpenClaim := { program := "ytncobbhhjkdllaa", sum := "353713b66b51f9a2b0392a8834fe001a6781ec3b6a495503ce874b8468f13c7d", func := "bullion/bullionlaw04.ShareSplits", spec := "shareSplits", inPlace := ["math/bits.Add64"], unfollowed := true, recurses := true, named := ["math/bits.divideError", "math/bits.overflowError"], apart := false, narrowed := true }
def ShareSplitsUptoSaid : Prop := shareSplitsUptoRow.holds Try.pinned (OpenSpec.upto shareSplitsSpec)

/-- 'bullionlaw04.ShareSpreads', WHERE WHAT IT READS IS OF BULK AT MOST 1048576: true; the input reads as it did. -/
def shareSpreadsUptoRow : OpenClaim := { program := "ytncobbhhjkdllaa", sum := "353713b66b51f9a2b0392a8834fe001a6781ec3b6a495503ce874b8468f13c7d", func := "bullion/bullionlaw04.ShareSpreads", spec := "shareSpreads", inPlace := ["math/bits.Add64"], unfollowed := true, recurses := true, named := ["math/bits.divideError", "math/bits.overflowError"], apart := false, narrowed := true }
def ShareSpreadsUptoSaid : Prop := shareSpreadsUptoRow.holds Try.pinned (OpenSpec.upto shareSpreadsSpec)

/-- 'bullionlaw04.ShareWhole', WHERE WHAT IT READS IS OF BULK AT MOST 1048576: true; the input reads as it did. -/
def shareWholeUptoRow : OpenClaim := { program := "ytncobbhhjkdllaa", sum := "353713b66b51f9a2b0392a8834fe001a6781ec3b6a495503ce874b8468f13c7d", func := "bullion/bullionlaw04.ShareWhole", spec := "shareWhole", inPlace := ["math/bits.Add64"], unfollowed := true, recurses := true, named := ["math/bits.divideError", "math/bits.overflowError"], apart := false, narrowed := true }
def ShareWholeUptoSaid : Prop := shareWholeUptoRow.holds Try.pinned (OpenSpec.upto shareWholeSpec)

/-- 'bullionlaw04.ShareAll', WHERE WHAT IT READS IS OF BULK AT MOST 1048576: true; the input reads as it did. -/
def shareAllUptoRow : OpenClaim := { program := "ytncobbhhjkdllaa", sum := "353713b66b51f9a2b0392a8834fe001a6781ec3b6a495503ce874b8468f13c7d", func := "bullion/bullionlaw04.ShareAll", spec := "shareAll", inPlace := ["math/bits.Add64"], unfollowed := true, recurses := true, named := ["math/bits.divideError", "math/bits.overflowError"], apart := false, narrowed := true }
def ShareAllUptoSaid : Prop := shareAllUptoRow.holds Try.pinned (OpenSpec.upto shareAllSpec)

/-- 'bullionlaw04.ShareCuts', WHERE WHAT IT READS IS OF BULK AT MOST 1048576: true; the input reads as it did. -/
def shareCutsUptoRow : OpenClaim := { program := "ytncobbhhjkdllaa", sum := "353713b66b51f9a2b0392a8834fe001a6781ec3b6a495503ce874b8468f13c7d", func := "bullion/bullionlaw04.ShareCuts", spec := "shareCuts", inPlace := ["math/bits.Add64"], unfollowed := true, recurses := true, named := ["math/bits.divideError", "math/bits.overflowError"], apart := false, narrowed := true }
def ShareCutsUptoSaid : Prop := shareCutsUptoRow.holds Try.pinned (OpenSpec.upto shareCutsSpec)

end Rows
end Go.Proofs.Ytncobbhhjkdllaa

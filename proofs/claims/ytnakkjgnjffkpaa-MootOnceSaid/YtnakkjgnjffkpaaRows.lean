/-
  No cell of these rows narrows 'for every input' (looked for: loops, veiled, ifaces, maps, wideKeys, modest, calm, conditions, laid).
  DERIVED. THE GIVEN ROWS OF THIS SEAT. 9 by the template 'for every input the law returns true; each argument reads behind the call as it read before'; 0 by the template 'total and deterministic' (their statements: YtnakkjgnjffkpaaTotals.lean).
  GIVEN WITH THE SEED: the statements are not yours to turn. If you find one false, say at which input.
  Laid BY PROGRAM, IN A SANDBOX (cutbox-rows.mjs): the forced cells as the released guide's own fill.sh prints them over the translation 0a2db82a90c8bc1d… (all of the seat's roots in one cut). By AI agents, Wed Nov 11 2026. No macro, syntax, notation, axiom, sorry.
-/
import Derived.Test.YtnakkjgnjffkpaaChecked
import GoSem.Claim
import GoSem.ClaimJoined
import GoSem.ClaimMapViews
import Derived.JoinedTies
import Derived.KernelRfl
namespace Go.Proofs.Ytnakkjgnjffkpaa
/- THE CELL 'sum', in the pinned program and in every row, IS THE sha256 OF THE DUMP (.gsa) THAT YtnakkjgnjffkpaaProg.lean LOADS. Nothing in Lean hashes anything: it is a label: what it is worth is what the hold of that sum in a sandbox is worth. -/
noncomputable def Try.pinned : Pinned := { name := "ytnakkjgnjffkpaa", sum := "0a2db82a90c8bc1dce639177a86bfa2946eb539ab68ed14ca8ee42f6518d6583", checked := Try.checked }
namespace Rows
def none {H : Type} : Left H := { results := [], args := [] }

/-- 'bullionlaw38.AnnalsPlays': WHATEVER THE INPUT: true; the input reads as it did. -/
def annalsPlaysSpec : ChangeSpec := { name := "annalsPlays", fn := fun _ => fun
  | [d1, d2, d3] => { results := [.lit (.bool true)], args := [d1, d2, d3] }
  | _ => none }
def annalsPlaysRow : OpenClaim := { program := "ytnakkjgnjffkpaa", sum := "0a2db82a90c8bc1dce639177a86bfa2946eb539ab68ed14ca8ee42f6518d6583", func := "bullion/bullionlaw38.AnnalsPlays", spec := "annalsPlays", inPlace := ["math/bits.Add64"], unfollowed := true, recurses := true, apart := false }
def AnnalsPlaysSaid : Prop := annalsPlaysRow.holds Try.pinned (OpenSpec.ofChange annalsPlaysSpec)

/-- ITS FALSE NEIGHBOUR: 'it returns false'. Refute it at one input. -/
def annalsPlaysWrong : ChangeSpec := { name := "annalsPlays", fn := fun _ => fun
  | [d1, d2, d3] => { results := [.lit (.bool false)], args := [d1, d2, d3] }
  | _ => none }
def AnnalsPlaysWrongFalsely : Prop := annalsPlaysRow.holds Try.pinned (OpenSpec.ofChange annalsPlaysWrong)

/-- 'bullionlaw38.AnnalsNone': WHATEVER THE INPUT: true; the input reads as it did. -/
def annalsNoneSpec : ChangeSpec := { name := "annalsNone", fn := fun _ => fun
  | [d1, d2] => { results := [.lit (.bool true)], args := [d1, d2] }
  | _ => none }
def annalsNoneRow : OpenClaim := { program := "ytnakkjgnjffkpaa", sum := "0a2db82a90c8bc1dce639177a86bfa2946eb539ab68ed14ca8ee42f6518d6583", func := "bullion/bullionlaw38.AnnalsNone", spec := "annalsNone", inPlace := ["math/bits.Add64"], unfollowed := true, recurses := true, apart := false }
def AnnalsNoneSaid : Prop := annalsNoneRow.holds Try.pinned (OpenSpec.ofChange annalsNoneSpec)

/-- ITS FALSE NEIGHBOUR: 'it returns false'. Refute it at one input. -/
def annalsNoneWrong : ChangeSpec := { name := "annalsNone", fn := fun _ => fun
  | [d1, d2] => { results := [.lit (.bool false)], args := [d1, d2] }
  | _ => none }
def AnnalsNoneWrongFalsely : Prop := annalsNoneRow.holds Try.pinned (OpenSpec.ofChange annalsNoneWrong)

/-- 'bullionlaw38.AnnalsSides': WHATEVER THE INPUT: true; the input reads as it did. -/
def annalsSidesSpec : ChangeSpec := { name := "annalsSides", fn := fun _ => fun
  | [d1, d2, d3] => { results := [.lit (.bool true)], args := [d1, d2, d3] }
  | _ => none }
def annalsSidesRow : OpenClaim := { program := "ytnakkjgnjffkpaa", sum := "0a2db82a90c8bc1dce639177a86bfa2946eb539ab68ed14ca8ee42f6518d6583", func := "bullion/bullionlaw38.AnnalsSides", spec := "annalsSides", inPlace := ["math/bits.Add64"], unfollowed := true, recurses := true, apart := false }
def AnnalsSidesSaid : Prop := annalsSidesRow.holds Try.pinned (OpenSpec.ofChange annalsSidesSpec)

/-- ITS FALSE NEIGHBOUR: 'it returns false'. Refute it at one input. -/
def annalsSidesWrong : ChangeSpec := { name := "annalsSides", fn := fun _ => fun
  | [d1, d2, d3] => { results := [.lit (.bool false)], args := [d1, d2, d3] }
  | _ => none }
def AnnalsSidesWrongFalsely : Prop := annalsSidesRow.holds Try.pinned (OpenSpec.ofChange annalsSidesWrong)

/-- 'bullionlaw38.AnnalsBytes': WHATEVER THE INPUT: true; the input reads as it did. -/
def annalsBytesSpec : ChangeSpec := { name := "annalsBytes", fn := fun _ => fun
  | [d1, d2] => { results := [.lit (.bool true)], args := [d1, d2] }
  | _ => none }
def annalsBytesRow : OpenClaim := { program := "ytnakkjgnjffkpaa", sum := "0a2db82a90c8bc1dce639177a86bfa2946eb539ab68ed14ca8ee42f6518d6583", func := "bullion/bullionlaw38.AnnalsBytes", spec := "annalsBytes", inPlace := ["math/bits.Add64"], unfollowed := true, recurses := true, apart := false }
def AnnalsBytesSaid : Prop := annalsBytesRow.holds Try.pinned (OpenSpec.ofChange annalsBytesSpec)

/-- ITS FALSE NEIGHBOUR: 'it returns false'. Refute it at one input. -/
def annalsBytesWrong : ChangeSpec := { name := "annalsBytes", fn := fun _ => fun
  | [d1, d2] => { results := [.lit (.bool false)], args := [d1, d2] }
  | _ => none }
def AnnalsBytesWrongFalsely : Prop := annalsBytesRow.holds Try.pinned (OpenSpec.ofChange annalsBytesWrong)

/-- 'bullionlaw38.AnnalsBack': WHATEVER THE INPUT: true; the input reads as it did. -/
def annalsBackSpec : ChangeSpec := { name := "annalsBack", fn := fun _ => fun
  | [d1, d2, d3] => { results := [.lit (.bool true)], args := [d1, d2, d3] }
  | _ => none }
def annalsBackRow : OpenClaim := { program := "ytnakkjgnjffkpaa", sum := "0a2db82a90c8bc1dce639177a86bfa2946eb539ab68ed14ca8ee42f6518d6583", func := "bullion/bullionlaw38.AnnalsBack", spec := "annalsBack", inPlace := ["math/bits.Add64"], unfollowed := true, recurses := true, apart := false }
def AnnalsBackSaid : Prop := annalsBackRow.holds Try.pinned (OpenSpec.ofChange annalsBackSpec)

/-- ITS FALSE NEIGHBOUR: 'it returns false'. Refute it at one input. -/
def annalsBackWrong : ChangeSpec := { name := "annalsBack", fn := fun _ => fun
  | [d1, d2, d3] => { results := [.lit (.bool false)], args := [d1, d2, d3] }
  | _ => none }
def AnnalsBackWrongFalsely : Prop := annalsBackRow.holds Try.pinned (OpenSpec.ofChange annalsBackWrong)

/-- 'bullionlaw23.MootOpens': WHATEVER THE INPUT: true; the input reads as it did. -/
def mootOpensSpec : ChangeSpec := { name := "mootOpens", fn := fun _ => fun
  | [d1, d2, d3] => { results := [.lit (.bool true)], args := [d1, d2, d3] }
  | _ => none }
def mootOpensRow : OpenClaim := { program := "ytnakkjgnjffkpaa", sum := "0a2db82a90c8bc1dce639177a86bfa2946eb539ab68ed14ca8ee42f6518d6583", func := "bullion/bullionlaw23.MootOpens", spec := "mootOpens", unfollowed := true, recurses := true, apart := false }
def MootOpensSaid : Prop := mootOpensRow.holds Try.pinned (OpenSpec.ofChange mootOpensSpec)

/-- ITS FALSE NEIGHBOUR: 'it returns false'. Refute it at one input. -/
def mootOpensWrong : ChangeSpec := { name := "mootOpens", fn := fun _ => fun
  | [d1, d2, d3] => { results := [.lit (.bool false)], args := [d1, d2, d3] }
  | _ => none }
def MootOpensWrongFalsely : Prop := mootOpensRow.holds Try.pinned (OpenSpec.ofChange mootOpensWrong)

/-- 'bullionlaw23.MootVotes': WHATEVER THE INPUT: true; the input reads as it did. -/
def mootVotesSpec : ChangeSpec := { name := "mootVotes", fn := fun _ => fun
  | [d1, d2] => { results := [.lit (.bool true)], args := [d1, d2] }
  | _ => none }
def mootVotesRow : OpenClaim := { program := "ytnakkjgnjffkpaa", sum := "0a2db82a90c8bc1dce639177a86bfa2946eb539ab68ed14ca8ee42f6518d6583", func := "bullion/bullionlaw23.MootVotes", spec := "mootVotes", unfollowed := true, recurses := true, apart := false }
def MootVotesSaid : Prop := mootVotesRow.holds Try.pinned (OpenSpec.ofChange mootVotesSpec)

/-- ITS FALSE NEIGHBOUR: 'it returns false'. Refute it at one input. -/
def mootVotesWrong : ChangeSpec := { name := "mootVotes", fn := fun _ => fun
  | [d1, d2] => { results := [.lit (.bool false)], args := [d1, d2] }
  | _ => none }
def MootVotesWrongFalsely : Prop := mootVotesRow.holds Try.pinned (OpenSpec.ofChange mootVotesWrong)

/-- 'bullionlaw23.MootCloses': WHATEVER THE INPUT: true; the input reads as it did. -/
def mootClosesSpec : ChangeSpec := { name := "mootCloses", fn := fun _ => fun
  | [d1, d2, d3] => { results := [.lit (.bool true)], args := [d1, d2, d3] }
  | _ => none }
def mootClosesRow : OpenClaim := { program := "ytnakkjgnjffkpaa", sum := "0a2db82a90c8bc1dce639177a86bfa2946eb539ab68ed14ca8ee42f6518d6583", func := "bullion/bullionlaw23.MootCloses", spec := "mootCloses", inPlace := ["math/bits.Add64"], unfollowed := true, recurses := true, apart := false }
def MootClosesSaid : Prop := mootClosesRow.holds Try.pinned (OpenSpec.ofChange mootClosesSpec)

/-- ITS FALSE NEIGHBOUR: 'it returns false'. Refute it at one input. -/
def mootClosesWrong : ChangeSpec := { name := "mootCloses", fn := fun _ => fun
  | [d1, d2, d3] => { results := [.lit (.bool false)], args := [d1, d2, d3] }
  | _ => none }
def MootClosesWrongFalsely : Prop := mootClosesRow.holds Try.pinned (OpenSpec.ofChange mootClosesWrong)

/-- 'bullionlaw23.MootOnce': WHATEVER THE INPUT: true; the input reads as it did. -/
def mootOnceSpec : ChangeSpec := { name := "mootOnce", fn := fun _ => fun
  | [d1, d2, d3] => { results := [.lit (.bool true)], args := [d1, d2, d3] }
  | _ => none }
def mootOnceRow : OpenClaim := { program := "ytnakkjgnjffkpaa", sum := "0a2db82a90c8bc1dce639177a86bfa2946eb539ab68ed14ca8ee42f6518d6583", func := "bullion/bullionlaw23.MootOnce", spec := "mootOnce", inPlace := ["math/bits.Add64"], unfollowed := true, recurses := true, apart := false }
def MootOnceSaid : Prop := mootOnceRow.holds Try.pinned (OpenSpec.ofChange mootOnceSpec)

/-- ITS FALSE NEIGHBOUR: 'it returns false'. Refute it at one input. -/
def mootOnceWrong : ChangeSpec := { name := "mootOnce", fn := fun _ => fun
  | [d1, d2, d3] => { results := [.lit (.bool false)], args := [d1, d2, d3] }
  | _ => none }
def MootOnceWrongFalsely : Prop := mootOnceRow.holds Try.pinned (OpenSpec.ofChange mootOnceWrong)

/- THE SECOND FORM. 'bulk': how many values and letters a reading holds, each counted each time it is reached (what is shared counts as often as it is met; a slice's spare places count too). A statement '..UptoSaid' is the law's where the arguments, and the package variables that the reading takes, are together of bulk at most 1048576: NARROWER than '..Said'. Prove '..Said' where nothing that the law and all that it calls make is longer than what came in: it says more and counts as full. Else prove '..UptoSaid'. A law counts once. -/
mutual
def uptoBulk {H : Type} : DataW H → Nat
  | .lit (.string bytes) => bytes.length + 1
  | .lit _ => 1
  | .nil => 1
  | .ptr d => uptoBulk d + 1
  | .slice elems spare => uptoBulkAll elems + uptoBulkAll spare + 1
  | .agg parts => uptoBulkAll parts + 1
  | .iface _ d => uptoBulk d + 1
  | .map entries => uptoBulkEntries entries + 1
  | .held _ => 1
def uptoBulkAll {H : Type} : List (DataW H) → Nat
  | [] => 0
  | d :: r => uptoBulk d + uptoBulkAll r
def uptoBulkEntries {H : Type} : List (Lit × DataW H) → Nat
  | [] => 0
  | x :: r => uptoBulkEntry x + uptoBulkEntries r
def uptoBulkEntry {H : Type} : Lit × DataW H → Nat
  | (.string bytes, d) => bytes.length + uptoBulk d + 1
  | (_, d) => uptoBulk d + 1
 end
def uptoSmall : (H : Type) → List (DataW H) → Bool := fun _ ds => decide (uptoBulkAll ds ≤ 1048576)
def OpenSpec.upto (s : _root_.Go.ChangeSpec) : _root_.Go.OpenSpec := { _root_.Go.OpenSpec.ofChange s with cond := some uptoSmall }

/-- 'bullionlaw38.AnnalsPlays', WHERE WHAT IT READS IS OF BULK AT MOST 1048576: true; the input reads as it did. -/
def annalsPlaysUptoRow : OpenClaim := { program := "ytnakkjgnjffkpaa", sum := "0a2db82a90c8bc1dce639177a86bfa2946eb539ab68ed14ca8ee42f6518d6583", func := "bullion/bullionlaw38.AnnalsPlays", spec := "annalsPlays", inPlace := ["math/bits.Add64"], unfollowed := true, recurses := true, apart := false, narrowed := true }
def AnnalsPlaysUptoSaid : Prop := annalsPlaysUptoRow.holds Try.pinned (OpenSpec.upto annalsPlaysSpec)

/-- 'bullionlaw38.AnnalsNone', WHERE WHAT IT READS IS OF BULK AT MOST 1048576: true; the input reads as it did. -/
def annalsNoneUptoRow : OpenClaim := { program := "ytnakkjgnjffkpaa", sum := "0a2db82a90c8bc1dce639177a86bfa2946eb539ab68ed14ca8ee42f6518d6583", func := "bullion/bullionlaw38.AnnalsNone", spec := "annalsNone", inPlace := ["math/bits.Add64"], unfollowed := true, recurses := true, apart := false, narrowed := true }
def AnnalsNoneUptoSaid : Prop := annalsNoneUptoRow.holds Try.pinned (OpenSpec.upto annalsNoneSpec)

/-- 'bullionlaw38.AnnalsSides', WHERE WHAT IT READS IS OF BULK AT MOST 1048576: true; the input reads as it did. -/
def annalsSidesUptoRow : OpenClaim := { program := "ytnakkjgnjffkpaa", sum := "0a2db82a90c8bc1dce639177a86bfa2946eb539ab68ed14ca8ee42f6518d6583", func := "bullion/bullionlaw38.AnnalsSides", spec := "annalsSides", inPlace := ["math/bits.Add64"], unfollowed := true, recurses := true, apart := false, narrowed := true }
def AnnalsSidesUptoSaid : Prop := annalsSidesUptoRow.holds Try.pinned (OpenSpec.upto annalsSidesSpec)

/-- 'bullionlaw38.AnnalsBytes', WHERE WHAT IT READS IS OF BULK AT MOST 1048576: true; the input reads as it did. -/
def annalsBytesUptoRow : OpenClaim := { program := "ytnakkjgnjffkpaa", sum := "0a2db82a90c8bc1dce639177a86bfa2946eb539ab68ed14ca8ee42f6518d6583", func := "bullion/bullionlaw38.AnnalsBytes", spec := "annalsBytes", inPlace := ["math/bits.Add64"], unfollowed := true, recurses := true, apart := false, narrowed := true }
def AnnalsBytesUptoSaid : Prop := annalsBytesUptoRow.holds Try.pinned (OpenSpec.upto annalsBytesSpec)

/-- 'bullionlaw38.AnnalsBack', WHERE WHAT IT READS IS OF BULK AT MOST 1048576: true; the input reads as it did. -/
def annalsBackUptoRow : OpenClaim := { program := "ytnakkjgnjffkpaa", sum := "0a2db82a90c8bc1dce639177a86bfa2946eb539ab68ed14ca8ee42f6518d6583", func := "bullion/bullionlaw38.AnnalsBack", spec := "annalsBack", inPlace := ["math/bits.Add64"], unfollowed := true, recurses := true, apart := false, narrowed := true }
def AnnalsBackUptoSaid : Prop := annalsBackUptoRow.holds Try.pinned (OpenSpec.upto annalsBackSpec)

/-- 'bullionlaw23.MootOpens', WHERE WHAT IT READS IS OF BULK AT MOST 1048576: true; the input reads as it did. -/
def mootOpensUptoRow : OpenClaim := { program := "ytnakkjgnjffkpaa", sum := "0a2db82a90c8bc1dce639177a86bfa2946eb539ab68ed14ca8ee42f6518d6583", func := "bullion/bullionlaw23.MootOpens", spec := "mootOpens", unfollowed := true, recurses := true, apart := false, narrowed := true }
def MootOpensUptoSaid : Prop := mootOpensUptoRow.holds Try.pinned (OpenSpec.upto mootOpensSpec)

/-- 'bullionlaw23.MootVotes', WHERE WHAT IT READS IS OF BULK AT MOST 1048576: true; the input reads as it did. -/
def mootVotesUptoRow : OpenClaim := { program := "ytnakkjgnjffkpaa", sum := "0a2db82a90c8bc1dce639177a86bfa2946eb539ab68ed14ca8ee42f6518d6583", func := "bullion/bullionlaw23.MootVotes", spec := "mootVotes", unfollowed := true, recurses := true, apart := false, narrowed := true }
def MootVotesUptoSaid : Prop := mootVotesUptoRow.holds Try.pinned (OpenSpec.upto mootVotesSpec)

/-- 'bullionlaw23.MootCloses', WHERE WHAT IT READS IS OF BULK AT MOST 1048576: true; the input reads as it did. -/
def mootClosesUptoRow : OpenClaim := { program := "ytnakkjgnjffkpaa", sum := "0a2db82a90c8bc1dce639177a86bfa2946eb539ab68ed14ca8ee42f6518d6583", func := "bullion/bullionlaw23.MootCloses", spec := "mootCloses", inPlace := ["math/bits.Add64"], unfollowed := true, recurses := true, apart := false, narrowed := true }
def MootClosesUptoSaid : Prop := mootClosesUptoRow.holds Try.pinned (OpenSpec.upto mootClosesSpec)

/-- 'bullionlaw23.MootOnce', WHERE WHAT IT READS IS OF BULK AT MOST 1048576: true; the input reads as it did. -/
def mootOnceUptoRow : OpenClaim := { program := "ytnakkjgnjffkpaa", sum := "0a2db82a90c8bc1dce639177a86bfa2946eb539ab68ed14ca8ee42f6518d6583", func := "bullion/bullionlaw23.MootOnce", spec := "mootOnce", inPlace := ["math/bits.Add64"], unfollowed := true, recurses := true, apart := false, narrowed := true }
def MootOnceUptoSaid : Prop := mootOnceUptoRow.holds Try.pinned (OpenSpec.upto mootOnceSpec)

end Rows
end Go.Proofs.Ytnakkjgnjffkpaa

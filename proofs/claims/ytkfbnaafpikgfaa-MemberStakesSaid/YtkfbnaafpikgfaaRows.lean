/-
  No cell of these rows narrows 'for every input' (looked for: loops, veiled, ifaces, maps, wideKeys, modest, calm, conditions, laid).
  DERIVED. THE GIVEN ROWS OF THIS SEAT. 9 by the template 'for every input the law returns true; each argument reads behind the call as it read before'; 0 by the template 'total and deterministic' (their statements: YtkfbnaafpikgfaaTotals.lean).
  GIVEN WITH THE SEED: the statements are not yours to turn. If you find one false, say at which input.
  Laid BY PROGRAM, IN A SANDBOX (cutbox-rows.mjs): the forced cells as the released guide's own fill.sh prints them over the translation 356c024256da8889… (all of the seat's roots in one cut). By AI agents, Wed Nov 11 2026. No macro, syntax, notation, axiom, sorry.
-/
import Derived.Test.YtkfbnaafpikgfaaChecked
import GoSem.Claim
import GoSem.ClaimJoined
import GoSem.ClaimMapViews
import Derived.JoinedTies
import Derived.KernelRfl
namespace Go.Proofs.Ytkfbnaafpikgfaa
/- THE CELL 'sum', in the pinned program and in every row, IS THE sha256 OF THE DUMP (.gsa) THAT YtkfbnaafpikgfaaProg.lean LOADS. Nothing in Lean hashes anything: it is a label: what it is worth is what the hold of that sum in a sandbox is worth. -/
noncomputable def Try.pinned : Pinned := { name := "ytkfbnaafpikgfaa", sum := "356c024256da8889d7ca61c3e3c35d9840612a7645a8f854a115258da1f8698f", checked := Try.checked }
namespace Rows
def none {H : Type} : Left H := { results := [], args := [] }

/-- 'bullionlaw13.BudgetMints': WHATEVER THE INPUT: true; the input reads as it did. -/
def budgetMintsSpec : ChangeSpec := { name := "budgetMints", fn := fun _ => fun
  | [d1, d2] => { results := [.lit (.bool true)], args := [d1, d2] }
  | _ => none }
def budgetMintsRow : OpenClaim := { program := "ytkfbnaafpikgfaa", sum := "356c024256da8889d7ca61c3e3c35d9840612a7645a8f854a115258da1f8698f", func := "bullion/bullionlaw13.BudgetMints", spec := "budgetMints", inPlace := ["math/bits.Add64"], unfollowed := true, recurses := true, named := ["math/bits.divideError", "math/bits.overflowError"], apart := false }
def BudgetMintsSaid : Prop := budgetMintsRow.holds Try.pinned (OpenSpec.ofChange budgetMintsSpec)

/-- ITS FALSE NEIGHBOUR: 'it returns false'. Refute it at one input. -/
def budgetMintsWrong : ChangeSpec := { name := "budgetMints", fn := fun _ => fun
  | [d1, d2] => { results := [.lit (.bool false)], args := [d1, d2] }
  | _ => none }
def BudgetMintsWrongFalsely : Prop := budgetMintsRow.holds Try.pinned (OpenSpec.ofChange budgetMintsWrong)

/-- 'bullionlaw13.BudgetCaps': WHATEVER THE INPUT: true; the input reads as it did. -/
def budgetCapsSpec : ChangeSpec := { name := "budgetCaps", fn := fun _ => fun
  | [d1, d2] => { results := [.lit (.bool true)], args := [d1, d2] }
  | _ => none }
def budgetCapsRow : OpenClaim := { program := "ytkfbnaafpikgfaa", sum := "356c024256da8889d7ca61c3e3c35d9840612a7645a8f854a115258da1f8698f", func := "bullion/bullionlaw13.BudgetCaps", spec := "budgetCaps", inPlace := ["math/bits.Add64"], unfollowed := true, recurses := true, named := ["math/bits.divideError", "math/bits.overflowError"], apart := false }
def BudgetCapsSaid : Prop := budgetCapsRow.holds Try.pinned (OpenSpec.ofChange budgetCapsSpec)

/-- ITS FALSE NEIGHBOUR: 'it returns false'. Refute it at one input. -/
def budgetCapsWrong : ChangeSpec := { name := "budgetCaps", fn := fun _ => fun
  | [d1, d2] => { results := [.lit (.bool false)], args := [d1, d2] }
  | _ => none }
def BudgetCapsWrongFalsely : Prop := budgetCapsRow.holds Try.pinned (OpenSpec.ofChange budgetCapsWrong)

/-- 'bullionlaw13.BudgetRises': WHATEVER THE INPUT: true; the input reads as it did. -/
def budgetRisesSpec : ChangeSpec := { name := "budgetRises", fn := fun _ => fun
  | [d1, d2] => { results := [.lit (.bool true)], args := [d1, d2] }
  | _ => none }
def budgetRisesRow : OpenClaim := { program := "ytkfbnaafpikgfaa", sum := "356c024256da8889d7ca61c3e3c35d9840612a7645a8f854a115258da1f8698f", func := "bullion/bullionlaw13.BudgetRises", spec := "budgetRises", inPlace := ["math/bits.Add64"], unfollowed := true, recurses := true, named := ["math/bits.divideError", "math/bits.overflowError"], apart := false }
def BudgetRisesSaid : Prop := budgetRisesRow.holds Try.pinned (OpenSpec.ofChange budgetRisesSpec)

/-- ITS FALSE NEIGHBOUR: 'it returns false'. Refute it at one input. -/
def budgetRisesWrong : ChangeSpec := { name := "budgetRises", fn := fun _ => fun
  | [d1, d2] => { results := [.lit (.bool false)], args := [d1, d2] }
  | _ => none }
def BudgetRisesWrongFalsely : Prop := budgetRisesRow.holds Try.pinned (OpenSpec.ofChange budgetRisesWrong)

/-- 'bullionlaw14.PrizeShares': WHATEVER THE INPUT: true; the input reads as it did. -/
def prizeSharesSpec : ChangeSpec := { name := "prizeShares", fn := fun _ => fun
  | [d1, d2, d3] => { results := [.lit (.bool true)], args := [d1, d2, d3] }
  | _ => none }
def prizeSharesRow : OpenClaim := { program := "ytkfbnaafpikgfaa", sum := "356c024256da8889d7ca61c3e3c35d9840612a7645a8f854a115258da1f8698f", func := "bullion/bullionlaw14.PrizeShares", spec := "prizeShares", inPlace := ["math/bits.Add64"], unfollowed := true, recurses := true, named := ["math/bits.divideError", "math/bits.overflowError"], apart := false }
def PrizeSharesSaid : Prop := prizeSharesRow.holds Try.pinned (OpenSpec.ofChange prizeSharesSpec)

/-- ITS FALSE NEIGHBOUR: 'it returns false'. Refute it at one input. -/
def prizeSharesWrong : ChangeSpec := { name := "prizeShares", fn := fun _ => fun
  | [d1, d2, d3] => { results := [.lit (.bool false)], args := [d1, d2, d3] }
  | _ => none }
def PrizeSharesWrongFalsely : Prop := prizeSharesRow.holds Try.pinned (OpenSpec.ofChange prizeSharesWrong)

/-- 'bullionlaw14.PrizeFair': WHATEVER THE INPUT: true; the input reads as it did. -/
def prizeFairSpec : ChangeSpec := { name := "prizeFair", fn := fun _ => fun
  | [d1, d2, d3] => { results := [.lit (.bool true)], args := [d1, d2, d3] }
  | _ => none }
def prizeFairRow : OpenClaim := { program := "ytkfbnaafpikgfaa", sum := "356c024256da8889d7ca61c3e3c35d9840612a7645a8f854a115258da1f8698f", func := "bullion/bullionlaw14.PrizeFair", spec := "prizeFair", inPlace := ["math/bits.Add64"], unfollowed := true, recurses := true, named := ["math/bits.divideError", "math/bits.overflowError"], apart := false }
def PrizeFairSaid : Prop := prizeFairRow.holds Try.pinned (OpenSpec.ofChange prizeFairSpec)

/-- ITS FALSE NEIGHBOUR: 'it returns false'. Refute it at one input. -/
def prizeFairWrong : ChangeSpec := { name := "prizeFair", fn := fun _ => fun
  | [d1, d2, d3] => { results := [.lit (.bool false)], args := [d1, d2, d3] }
  | _ => none }
def PrizeFairWrongFalsely : Prop := prizeFairRow.holds Try.pinned (OpenSpec.ofChange prizeFairWrong)

/-- 'bullionlaw14.PrizePays': WHATEVER THE INPUT: true; the input reads as it did. -/
def prizePaysSpec : ChangeSpec := { name := "prizePays", fn := fun _ => fun
  | [d1, d2, d3] => { results := [.lit (.bool true)], args := [d1, d2, d3] }
  | _ => none }
def prizePaysRow : OpenClaim := { program := "ytkfbnaafpikgfaa", sum := "356c024256da8889d7ca61c3e3c35d9840612a7645a8f854a115258da1f8698f", func := "bullion/bullionlaw14.PrizePays", spec := "prizePays", inPlace := ["math/bits.Add64", "math/bits.Sub64"], unfollowed := true, recurses := true, named := ["math/bits.divideError", "math/bits.overflowError"], apart := false }
def PrizePaysSaid : Prop := prizePaysRow.holds Try.pinned (OpenSpec.ofChange prizePaysSpec)

/-- ITS FALSE NEIGHBOUR: 'it returns false'. Refute it at one input. -/
def prizePaysWrong : ChangeSpec := { name := "prizePays", fn := fun _ => fun
  | [d1, d2, d3] => { results := [.lit (.bool false)], args := [d1, d2, d3] }
  | _ => none }
def PrizePaysWrongFalsely : Prop := prizePaysRow.holds Try.pinned (OpenSpec.ofChange prizePaysWrong)

/-- 'bullionlaw14.PrizeWhole': WHATEVER THE INPUT: true; the input reads as it did. -/
def prizeWholeSpec : ChangeSpec := { name := "prizeWhole", fn := fun _ => fun
  | [d1, d2, d3] => { results := [.lit (.bool true)], args := [d1, d2, d3] }
  | _ => none }
def prizeWholeRow : OpenClaim := { program := "ytkfbnaafpikgfaa", sum := "356c024256da8889d7ca61c3e3c35d9840612a7645a8f854a115258da1f8698f", func := "bullion/bullionlaw14.PrizeWhole", spec := "prizeWhole", inPlace := ["math/bits.Add64", "math/bits.Sub64"], unfollowed := true, recurses := true, named := ["math/bits.divideError", "math/bits.overflowError"], apart := false }
def PrizeWholeSaid : Prop := prizeWholeRow.holds Try.pinned (OpenSpec.ofChange prizeWholeSpec)

/-- ITS FALSE NEIGHBOUR: 'it returns false'. Refute it at one input. -/
def prizeWholeWrong : ChangeSpec := { name := "prizeWhole", fn := fun _ => fun
  | [d1, d2, d3] => { results := [.lit (.bool false)], args := [d1, d2, d3] }
  | _ => none }
def PrizeWholeWrongFalsely : Prop := prizeWholeRow.holds Try.pinned (OpenSpec.ofChange prizeWholeWrong)

/-- 'bullionlaw19.MemberStakes': WHATEVER THE INPUT: true; the input reads as it did. -/
def memberStakesSpec : ChangeSpec := { name := "memberStakes", fn := fun _ => fun
  | [d1, d2] => { results := [.lit (.bool true)], args := [d1, d2] }
  | _ => none }
def memberStakesRow : OpenClaim := { program := "ytkfbnaafpikgfaa", sum := "356c024256da8889d7ca61c3e3c35d9840612a7645a8f854a115258da1f8698f", func := "bullion/bullionlaw19.MemberStakes", spec := "memberStakes", inPlace := ["math/bits.Sub64", "math/bits.Add64"], unfollowed := true, recurses := true, apart := false }
def MemberStakesSaid : Prop := memberStakesRow.holds Try.pinned (OpenSpec.ofChange memberStakesSpec)

/-- ITS FALSE NEIGHBOUR: 'it returns false'. Refute it at one input. -/
def memberStakesWrong : ChangeSpec := { name := "memberStakes", fn := fun _ => fun
  | [d1, d2] => { results := [.lit (.bool false)], args := [d1, d2] }
  | _ => none }
def MemberStakesWrongFalsely : Prop := memberStakesRow.holds Try.pinned (OpenSpec.ofChange memberStakesWrong)

/-- 'bullionlaw19.MemberFits': WHATEVER THE INPUT: true; the input reads as it did. -/
def memberFitsSpec : ChangeSpec := { name := "memberFits", fn := fun _ => fun
  | [d1, d2, d3] => { results := [.lit (.bool true)], args := [d1, d2, d3] }
  | _ => none }
def memberFitsRow : OpenClaim := { program := "ytkfbnaafpikgfaa", sum := "356c024256da8889d7ca61c3e3c35d9840612a7645a8f854a115258da1f8698f", func := "bullion/bullionlaw19.MemberFits", spec := "memberFits", inPlace := ["math/bits.Sub64", "math/bits.Add64"], unfollowed := true, recurses := true, apart := false }
def MemberFitsSaid : Prop := memberFitsRow.holds Try.pinned (OpenSpec.ofChange memberFitsSpec)

/-- ITS FALSE NEIGHBOUR: 'it returns false'. Refute it at one input. -/
def memberFitsWrong : ChangeSpec := { name := "memberFits", fn := fun _ => fun
  | [d1, d2, d3] => { results := [.lit (.bool false)], args := [d1, d2, d3] }
  | _ => none }
def MemberFitsWrongFalsely : Prop := memberFitsRow.holds Try.pinned (OpenSpec.ofChange memberFitsWrong)

/- THE SECOND FORM. 'bulk': how many values and letters a reading holds, each counted each time it is reached (what is shared counts as often as it is met; a slice's spare places count too). A statement '..UptoSaid' is the law's where the arguments, and the package variables that the reading takes, are together of bulk at most 1048576: NARROWER than '..Said'. Prove '..Said' where nothing that the law and all that it calls make is longer than what came in: it says more and counts as full. Else prove '..UptoSaid'. A law counts once. -/
mutual
def uptoBulk {H : Type} : DataW H → Nat
  | .lit (.string bytes) => bytes.length + 1
  | .lit _ => 1
  | .nil => 1
  | .ptr d => uptoBulk d + 1
  | .slice elems spare => uptoBulkAll elems + uptoBulkAll spare + 1
  | .agg parts => uptoBulkAll parts + 1
  | .iface _ d => uptoBulk d + 1
  | .map entries => uptoBulkEntries entries + 1
  | .held _ => 1
def uptoBulkAll {H : Type} : List (DataW H) → Nat
  | [] => 0
  | d :: r => uptoBulk d + uptoBulkAll r
def uptoBulkEntries {H : Type} : List (Lit × DataW H) → Nat
  | [] => 0
  | x :: r => uptoBulkEntry x + uptoBulkEntries r
def uptoBulkEntry {H : Type} : Lit × DataW H → Nat
  | (.string bytes, d) => bytes.length + uptoBulk d + 1
  | (_, d) => uptoBulk d + 1
 end
def uptoSmall : (H : Type) → List (DataW H) → Bool := fun _ ds => decide (uptoBulkAll ds ≤ 1048576)
def OpenSpec.upto (s : _root_.Go.ChangeSpec) : _root_.Go.OpenSpec := { _root_.Go.OpenSpec.ofChange s with cond := some uptoSmall }

/-- 'bullionlaw13.BudgetMints', WHERE WHAT IT READS IS OF BULK AT MOST 1048576: true; the input reads as it did. -/
def budgetMintsUptoRow : OpenClaim := { program := "ytkfbnaafpikgfaa", sum := "356c024256da8889d7ca61c3e3c35d9840612a7645a8f854a115258da1f8698f", func := "bullion/bullionlaw13.BudgetMints", spec := "budgetMints", inPlace := ["math/bits.Add64"], unfollowed := true, recurses := true, named := ["math/bits.divideError", "math/bits.overflowError"], apart := false, narrowed := true }
def BudgetMintsUptoSaid : Prop := budgetMintsUptoRow.holds Try.pinned (OpenSpec.upto budgetMintsSpec)

/-- 'bullionlaw13.BudgetCaps', WHERE WHAT IT READS IS OF BULK AT MOST 1048576: true; the input reads as it did. -/
def budgetCapsUptoRow : OpenClaim := { program := "ytkfbnaafpikgfaa", sum := "356c024256da8889d7ca61c3e3c35d9840612a7645a8f854a115258da1f8698f", func := "bullion/bullionlaw13.BudgetCaps", spec := "budgetCaps", inPlace := ["math/bits.Add64"], unfollowed := true, recurses := true, named := ["math/bits.divideError", "math/bits.overflowError"], apart := false, narrowed := true }
def BudgetCapsUptoSaid : Prop := budgetCapsUptoRow.holds Try.pinned (OpenSpec.upto budgetCapsSpec)

/-- 'bullionlaw13.BudgetRises', WHERE WHAT IT READS IS OF BULK AT MOST 1048576: true; the input reads as it did. -/
def budgetRisesUptoRow : OpenClaim := { program := "ytkfbnaafpikgfaa", sum := "356c024256da8889d7ca61c3e3c35d9840612a7645a8f854a115258da1f8698f", func := "bullion/bullionlaw13.BudgetRises", spec := "budgetRises", inPlace := ["math/bits.Add64"], unfollowed := true, recurses := true, named := ["math/bits.divideError", "math/bits.overflowError"], apart := false, narrowed := true }
def BudgetRisesUptoSaid : Prop := budgetRisesUptoRow.holds Try.pinned (OpenSpec.upto budgetRisesSpec)

/-- 'bullionlaw14.PrizeShares', WHERE WHAT IT READS IS OF BULK AT MOST 1048576: true; the input reads as it did. -/
def prizeSharesUptoRow : OpenClaim := { program := "ytkfbnaafpikgfaa", sum := "356c024256da8889d7ca61c3e3c35d9840612a7645a8f854a115258da1f8698f", func := "bullion/bullionlaw14.PrizeShares", spec := "prizeShares", inPlace := ["math/bits.Add64"], unfollowed := true, recurses := true, named := ["math/bits.divideError", "math/bits.overflowError"], apart := false, narrowed := true }
def PrizeSharesUptoSaid : Prop := prizeSharesUptoRow.holds Try.pinned (OpenSpec.upto prizeSharesSpec)

/-- 'bullionlaw14.PrizeFair', WHERE WHAT IT READS IS OF BULK AT MOST 1048576: true; the input reads as it did. -/
def prizeFairUptoRow : OpenClaim := { program := "ytkfbnaafpikgfaa", sum := "356c024256da8889d7ca61c3e3c35d9840612a7645a8f854a115258da1f8698f", func := "bullion/bullionlaw14.PrizeFair", spec := "prizeFair", inPlace := ["math/bits.Add64"], unfollowed := true, recurses := true, named := ["math/bits.divideError", "math/bits.overflowError"], apart := false, narrowed := true }
def PrizeFairUptoSaid : Prop := prizeFairUptoRow.holds Try.pinned (OpenSpec.upto prizeFairSpec)

/-- 'bullionlaw14.PrizePays', WHERE WHAT IT READS IS OF BULK AT MOST 1048576: true; the input reads as it did. -/
def prizePaysUptoRow : OpenClaim := { program := "ytkfbnaafpikgfaa", sum := "356c024256da8889d7ca61c3e3c35d9840612a7645a8f854a115258da1f8698f", func := "bullion/bullionlaw14.PrizePays", spec := "prizePays", inPlace := ["math/bits.Add64", "math/bits.Sub64"], unfollowed := true, recurses := true, named := ["math/bits.divideError", "math/bits.overflowError"], apart := false, narrowed := true }
def PrizePaysUptoSaid : Prop := prizePaysUptoRow.holds Try.pinned (OpenSpec.upto prizePaysSpec)

/-- 'bullionlaw14.PrizeWhole', WHERE WHAT IT READS IS OF BULK AT MOST 1048576: true; the input reads as it did. -/
def prizeWholeUptoRow : OpenClaim := { program := "ytkfbnaafpikgfaa", sum := "356c024256da8889d7ca61c3e3c35d9840612a7645a8f854a115258da1f8698f", func := "bullion/bullionlaw14.PrizeWhole", spec := "prizeWhole", inPlace := ["math/bits.Add64", "math/bits.Sub64"], unfollowed := true, recurses := true, named := ["math/bits.divideError", "math/bits.overflowError"], apart := false, narrowed := true }
def PrizeWholeUptoSaid : Prop := prizeWholeUptoRow.holds Try.pinned (OpenSpec.upto prizeWholeSpec)

/-- 'bullionlaw19.MemberStakes', WHERE WHAT IT READS IS OF BULK AT MOST 1048576: true; the input reads as it did. -/
def memberStakesUptoRow : OpenClaim := { program := "ytkfbnaafpikgfaa", sum := "356c024256da8889d7ca61c3e3c35d9840612a7645a8f854a115258da1f8698f", func := "bullion/bullionlaw19.MemberStakes", spec := "memberStakes", inPlace := ["math/bits.Sub64", "math/bits.Add64"], unfollowed := true, recurses := true, apart := false, narrowed := true }
def MemberStakesUptoSaid : Prop := memberStakesUptoRow.holds Try.pinned (OpenSpec.upto memberStakesSpec)

/-- 'bullionlaw19.MemberFits', WHERE WHAT IT READS IS OF BULK AT MOST 1048576: true; the input reads as it did. -/
def memberFitsUptoRow : OpenClaim := { program := "ytkfbnaafpikgfaa", sum := "356c024256da8889d7ca61c3e3c35d9840612a7645a8f854a115258da1f8698f", func := "bullion/bullionlaw19.MemberFits", spec := "memberFits", inPlace := ["math/bits.Sub64", "math/bits.Add64"], unfollowed := true, recurses := true, apart := false, narrowed := true }
def MemberFitsUptoSaid : Prop := memberFitsUptoRow.holds Try.pinned (OpenSpec.upto memberFitsSpec)

end Rows
end Go.Proofs.Ytkfbnaafpikgfaa

/-
  No cell of these rows narrows 'for every input' (looked for: loops, veiled, ifaces, maps, wideKeys, modest, calm, conditions, laid).
  DERIVED. THE GIVEN ROWS OF THIS SEAT. 11 by the template 'for every input the law returns true; each argument reads behind the call as it read before'; 0 by the template 'total and deterministic' (their statements: YteppkbjjldnniaaTotals.lean).
  GIVEN WITH THE SEED: the statements are not yours to turn. If you find one false, say at which input.
  Laid BY PROGRAM, IN A SANDBOX (cutbox-rows.mjs): the forced cells as the released guide's own fill.sh prints them over the translation d57ee0bcf298a3f0… (all of the seat's roots in one cut). By AI agents, Wed Nov 11 2026. No macro, syntax, notation, axiom, sorry.
-/
import Derived.Test.YteppkbjjldnniaaChecked
import GoSem.Claim
import GoSem.ClaimJoined
import GoSem.ClaimMapViews
import Derived.JoinedTies
import Derived.KernelRfl
namespace Go.Proofs.Yteppkbjjldnniaa
/- THE CELL 'sum', in the pinned program and in every row, IS THE sha256 OF THE DUMP (.gsa) THAT YteppkbjjldnniaaProg.lean LOADS. Nothing in Lean hashes anything: it is a label: what it is worth is what the hold of that sum in a sandbox is worth. -/
noncomputable def Try.pinned : Pinned := { name := "yteppkbjjldnniaa", sum := "d57ee0bcf298a3f09faf2ed9d7f887ff897dd626f6643ac8eff624a09f201006", checked := Try.checked }
namespace Rows
def none {H : Type} : Left H := { results := [], args := [] }

/-- 'bullionlaw05.CoderOne': WHATEVER THE INPUT: true; the input reads as it did. -/
def coderOneSpec : ChangeSpec := { name := "coderOne", fn := fun _ => fun
  | [d] => { results := [.lit (.bool true)], args := [d] }
  | _ => none }
def coderOneRow : OpenClaim := { program := "yteppkbjjldnniaa", sum := "d57ee0bcf298a3f09faf2ed9d7f887ff897dd626f6643ac8eff624a09f201006", func := "bullion/bullionlaw05.CoderOne", spec := "coderOne", apart := false }
def CoderOneSaid : Prop := coderOneRow.holds Try.pinned (OpenSpec.ofChange coderOneSpec)

/-- ITS FALSE NEIGHBOUR: 'it returns false'. Refute it at one input. -/
def coderOneWrong : ChangeSpec := { name := "coderOne", fn := fun _ => fun
  | [d] => { results := [.lit (.bool false)], args := [d] }
  | _ => none }
def CoderOneWrongFalsely : Prop := coderOneRow.holds Try.pinned (OpenSpec.ofChange coderOneWrong)

/-- 'bullionlaw05.CoderWrites': WHATEVER THE INPUT: true; the input reads as it did. -/
def coderWritesSpec : ChangeSpec := { name := "coderWrites", fn := fun _ => fun
  | [d] => { results := [.lit (.bool true)], args := [d] }
  | _ => none }
def coderWritesRow : OpenClaim := { program := "yteppkbjjldnniaa", sum := "d57ee0bcf298a3f09faf2ed9d7f887ff897dd626f6643ac8eff624a09f201006", func := "bullion/bullionlaw05.CoderWrites", spec := "coderWrites", recurses := true, apart := false }
def CoderWritesSaid : Prop := coderWritesRow.holds Try.pinned (OpenSpec.ofChange coderWritesSpec)

/-- ITS FALSE NEIGHBOUR: 'it returns false'. Refute it at one input. -/
def coderWritesWrong : ChangeSpec := { name := "coderWrites", fn := fun _ => fun
  | [d] => { results := [.lit (.bool false)], args := [d] }
  | _ => none }
def CoderWritesWrongFalsely : Prop := coderWritesRow.holds Try.pinned (OpenSpec.ofChange coderWritesWrong)

/-- 'bullionlaw05.CoderReads': WHATEVER THE INPUT: true; the input reads as it did. -/
def coderReadsSpec : ChangeSpec := { name := "coderReads", fn := fun _ => fun
  | [d1, d2] => { results := [.lit (.bool true)], args := [d1, d2] }
  | _ => none }
def coderReadsRow : OpenClaim := { program := "yteppkbjjldnniaa", sum := "d57ee0bcf298a3f09faf2ed9d7f887ff897dd626f6643ac8eff624a09f201006", func := "bullion/bullionlaw05.CoderReads", spec := "coderReads", apart := false }
def CoderReadsSaid : Prop := coderReadsRow.holds Try.pinned (OpenSpec.ofChange coderReadsSpec)

/-- ITS FALSE NEIGHBOUR: 'it returns false'. Refute it at one input. -/
def coderReadsWrong : ChangeSpec := { name := "coderReads", fn := fun _ => fun
  | [d1, d2] => { results := [.lit (.bool false)], args := [d1, d2] }
  | _ => none }
def CoderReadsWrongFalsely : Prop := coderReadsRow.holds Try.pinned (OpenSpec.ofChange coderReadsWrong)

/-- 'bullionlaw05.CoderBack': WHATEVER THE INPUT: true; the input reads as it did. -/
def coderBackSpec : ChangeSpec := { name := "coderBack", fn := fun _ => fun
  | [d1, d2] => { results := [.lit (.bool true)], args := [d1, d2] }
  | _ => none }
def coderBackRow : OpenClaim := { program := "yteppkbjjldnniaa", sum := "d57ee0bcf298a3f09faf2ed9d7f887ff897dd626f6643ac8eff624a09f201006", func := "bullion/bullionlaw05.CoderBack", spec := "coderBack", apart := false }
def CoderBackSaid : Prop := coderBackRow.holds Try.pinned (OpenSpec.ofChange coderBackSpec)

/-- ITS FALSE NEIGHBOUR: 'it returns false'. Refute it at one input. -/
def coderBackWrong : ChangeSpec := { name := "coderBack", fn := fun _ => fun
  | [d1, d2] => { results := [.lit (.bool false)], args := [d1, d2] }
  | _ => none }
def CoderBackWrongFalsely : Prop := coderBackRow.holds Try.pinned (OpenSpec.ofChange coderBackWrong)

/-- 'bullionlaw05.CoderNone': WHATEVER THE INPUT: true; the input reads as it did. -/
def coderNoneSpec : ChangeSpec := { name := "coderNone", fn := fun _ => fun
  | [d] => { results := [.lit (.bool true)], args := [d] }
  | _ => none }
def coderNoneRow : OpenClaim := { program := "yteppkbjjldnniaa", sum := "d57ee0bcf298a3f09faf2ed9d7f887ff897dd626f6643ac8eff624a09f201006", func := "bullion/bullionlaw05.CoderNone", spec := "coderNone", apart := false }
def CoderNoneSaid : Prop := coderNoneRow.holds Try.pinned (OpenSpec.ofChange coderNoneSpec)

/-- ITS FALSE NEIGHBOUR: 'it returns false'. Refute it at one input. -/
def coderNoneWrong : ChangeSpec := { name := "coderNone", fn := fun _ => fun
  | [d] => { results := [.lit (.bool false)], args := [d] }
  | _ => none }
def CoderNoneWrongFalsely : Prop := coderNoneRow.holds Try.pinned (OpenSpec.ofChange coderNoneWrong)

/-- 'bullionlaw28.PlateSure': WHATEVER THE INPUT: true; the input reads as it did. -/
def plateSureSpec : ChangeSpec := { name := "plateSure", fn := fun _ => fun
  | [d1, d2, d3] => { results := [.lit (.bool true)], args := [d1, d2, d3] }
  | _ => none }
def plateSureRow : OpenClaim := { program := "yteppkbjjldnniaa", sum := "d57ee0bcf298a3f09faf2ed9d7f887ff897dd626f6643ac8eff624a09f201006", func := "bullion/bullionlaw28.PlateSure", spec := "plateSure", apart := false }
def PlateSureSaid : Prop := plateSureRow.holds Try.pinned (OpenSpec.ofChange plateSureSpec)

/-- ITS FALSE NEIGHBOUR: 'it returns false'. Refute it at one input. -/
def plateSureWrong : ChangeSpec := { name := "plateSure", fn := fun _ => fun
  | [d1, d2, d3] => { results := [.lit (.bool false)], args := [d1, d2, d3] }
  | _ => none }
def PlateSureWrongFalsely : Prop := plateSureRow.holds Try.pinned (OpenSpec.ofChange plateSureWrong)

/-- 'bullionlaw28.PlateNone': WHATEVER THE INPUT: true; the input reads as it did. -/
def plateNoneSpec : ChangeSpec := { name := "plateNone", fn := fun _ => fun
  | [d] => { results := [.lit (.bool true)], args := [d] }
  | _ => none }
def plateNoneRow : OpenClaim := { program := "yteppkbjjldnniaa", sum := "d57ee0bcf298a3f09faf2ed9d7f887ff897dd626f6643ac8eff624a09f201006", func := "bullion/bullionlaw28.PlateNone", spec := "plateNone", apart := false }
def PlateNoneSaid : Prop := plateNoneRow.holds Try.pinned (OpenSpec.ofChange plateNoneSpec)

/-- ITS FALSE NEIGHBOUR: 'it returns false'. Refute it at one input. -/
def plateNoneWrong : ChangeSpec := { name := "plateNone", fn := fun _ => fun
  | [d] => { results := [.lit (.bool false)], args := [d] }
  | _ => none }
def PlateNoneWrongFalsely : Prop := plateNoneRow.holds Try.pinned (OpenSpec.ofChange plateNoneWrong)

/-- 'bullionlaw29.VaultNone': WHATEVER THE INPUT: true; the input reads as it did. -/
def vaultNoneSpec : ChangeSpec := { name := "vaultNone", fn := fun _ => fun
  | [d] => { results := [.lit (.bool true)], args := [d] }
  | _ => none }
def vaultNoneRow : OpenClaim := { program := "yteppkbjjldnniaa", sum := "d57ee0bcf298a3f09faf2ed9d7f887ff897dd626f6643ac8eff624a09f201006", func := "bullion/bullionlaw29.VaultNone", spec := "vaultNone", apart := false }
def VaultNoneSaid : Prop := vaultNoneRow.holds Try.pinned (OpenSpec.ofChange vaultNoneSpec)

/-- ITS FALSE NEIGHBOUR: 'it returns false'. Refute it at one input. -/
def vaultNoneWrong : ChangeSpec := { name := "vaultNone", fn := fun _ => fun
  | [d] => { results := [.lit (.bool false)], args := [d] }
  | _ => none }
def VaultNoneWrongFalsely : Prop := vaultNoneRow.holds Try.pinned (OpenSpec.ofChange vaultNoneWrong)

/-- 'bullionlaw29.VaultRoom': WHATEVER THE INPUT: true; the input reads as it did. -/
def vaultRoomSpec : ChangeSpec := { name := "vaultRoom", fn := fun _ => fun
  | [d1, d2, d3] => { results := [.lit (.bool true)], args := [d1, d2, d3] }
  | _ => none }
def vaultRoomRow : OpenClaim := { program := "yteppkbjjldnniaa", sum := "d57ee0bcf298a3f09faf2ed9d7f887ff897dd626f6643ac8eff624a09f201006", func := "bullion/bullionlaw29.VaultRoom", spec := "vaultRoom", apart := false }
def VaultRoomSaid : Prop := vaultRoomRow.holds Try.pinned (OpenSpec.ofChange vaultRoomSpec)

/-- ITS FALSE NEIGHBOUR: 'it returns false'. Refute it at one input. -/
def vaultRoomWrong : ChangeSpec := { name := "vaultRoom", fn := fun _ => fun
  | [d1, d2, d3] => { results := [.lit (.bool false)], args := [d1, d2, d3] }
  | _ => none }
def VaultRoomWrongFalsely : Prop := vaultRoomRow.holds Try.pinned (OpenSpec.ofChange vaultRoomWrong)

/-- 'bullionlaw29.VaultBegins': WHATEVER THE INPUT: true; the input reads as it did. -/
def vaultBeginsSpec : ChangeSpec := { name := "vaultBegins", fn := fun _ => fun
  | [d1, d2, d3] => { results := [.lit (.bool true)], args := [d1, d2, d3] }
  | _ => none }
def vaultBeginsRow : OpenClaim := { program := "yteppkbjjldnniaa", sum := "d57ee0bcf298a3f09faf2ed9d7f887ff897dd626f6643ac8eff624a09f201006", func := "bullion/bullionlaw29.VaultBegins", spec := "vaultBegins", apart := false }
def VaultBeginsSaid : Prop := vaultBeginsRow.holds Try.pinned (OpenSpec.ofChange vaultBeginsSpec)

/-- ITS FALSE NEIGHBOUR: 'it returns false'. Refute it at one input. -/
def vaultBeginsWrong : ChangeSpec := { name := "vaultBegins", fn := fun _ => fun
  | [d1, d2, d3] => { results := [.lit (.bool false)], args := [d1, d2, d3] }
  | _ => none }
def VaultBeginsWrongFalsely : Prop := vaultBeginsRow.holds Try.pinned (OpenSpec.ofChange vaultBeginsWrong)

/-- 'bullionlaw29.VaultSafe': WHATEVER THE INPUT: true; the input reads as it did. -/
def vaultSafeSpec : ChangeSpec := { name := "vaultSafe", fn := fun _ => fun
  | [d1, d2, d3] => { results := [.lit (.bool true)], args := [d1, d2, d3] }
  | _ => none }
def vaultSafeRow : OpenClaim := { program := "yteppkbjjldnniaa", sum := "d57ee0bcf298a3f09faf2ed9d7f887ff897dd626f6643ac8eff624a09f201006", func := "bullion/bullionlaw29.VaultSafe", spec := "vaultSafe", apart := false }
def VaultSafeSaid : Prop := vaultSafeRow.holds Try.pinned (OpenSpec.ofChange vaultSafeSpec)

/-- ITS FALSE NEIGHBOUR: 'it returns false'. Refute it at one input. -/
def vaultSafeWrong : ChangeSpec := { name := "vaultSafe", fn := fun _ => fun
  | [d1, d2, d3] => { results := [.lit (.bool false)], args := [d1, d2, d3] }
  | _ => none }
def VaultSafeWrongFalsely : Prop := vaultSafeRow.holds Try.pinned (OpenSpec.ofChange vaultSafeWrong)

/- THE SECOND FORM. 'bulk': how many values and letters a reading holds, each counted each time it is reached (what is shared counts as often as it is met; a slice's spare places count too). A statement '..UptoSaid' is the law's where the arguments, and the package variables that the reading takes, are together of bulk at most 1048576: NARROWER than '..Said'. Prove '..Said' where nothing that the law and all that it calls make is longer than what came in: it says more and counts as full. Else prove '..UptoSaid'. A law counts once. -/
mutual
def uptoBulk {H : Type} : DataW H → Nat
  | .lit (.string bytes) => bytes.length + 1
  | .lit _ => 1
  | .nil => 1
  | .ptr d => uptoBulk d + 1
  | .slice elems spare => uptoBulkAll elems + uptoBulkAll spare + 1
  | .agg parts => uptoBulkAll parts + 1
  | .iface _ d => uptoBulk d + 1
  | .map entries => uptoBulkEntries entries + 1
  | .held _ => 1
def uptoBulkAll {H : Type} : List (DataW H) → Nat
  | [] => 0
  | d :: r => uptoBulk d + uptoBulkAll r
def uptoBulkEntries {H : Type} : List (Lit × DataW H) → Nat
  | [] => 0
  | x :: r => uptoBulkEntry x + uptoBulkEntries r
def uptoBulkEntry {H : Type} : Lit × DataW H → Nat
  | (.string bytes, d) => bytes.length + uptoBulk d + 1
  | (_, d) => uptoBulk d + 1
 end
def uptoSmall : (H : Type) → List (DataW H) → Bool := fun _ ds => decide (uptoBulkAll ds ≤ 1048576)
def OpenSpec.upto (s : _root_.Go.ChangeSpec) : _root_.Go.OpenSpec := { _root_.Go.OpenSpec.ofChange s with cond := some uptoSmall }

/-- 'bullionlaw05.CoderOne', WHERE WHAT IT READS IS OF BULK AT MOST 1048576: true; the input reads as it did. -/
def coderOneUptoRow : OpenClaim := { program := "yteppkbjjldnniaa", sum := "d57ee0bcf298a3f09faf2ed9d7f887ff897dd626f6643ac8eff624a09f201006", func := "bullion/bullionlaw05.CoderOne", spec := "coderOne", apart := false, narrowed := true }
def CoderOneUptoSaid : Prop := coderOneUptoRow.holds Try.pinned (OpenSpec.upto coderOneSpec)

/-- 'bullionlaw05.CoderWrites', WHERE WHAT IT READS IS OF BULK AT MOST 1048576: true; the input reads as it did. -/
def coderWritesUptoRow : OpenClaim := { program := "yteppkbjjldnniaa", sum := "d57ee0bcf298a3f09faf2ed9d7f887ff897dd626f6643ac8eff624a09f201006", func := "bullion/bullionlaw05.CoderWrites", spec := "coderWrites", recurses := true, apart := false, narrowed := true }
def CoderWritesUptoSaid : Prop := coderWritesUptoRow.holds Try.pinned (OpenSpec.upto coderWritesSpec)

/-- 'bullionlaw05.CoderReads', WHERE WHAT IT READS IS OF BULK AT MOST 1048576: true; the input reads as it did. -/
def coderReadsUptoRow : OpenClaim := { program := "yteppkbjjldnniaa", sum := "d57ee0bcf298a3f09faf2ed9d7f887ff897dd626f6643ac8eff624a09f201006", func := "bullion/bullionlaw05.CoderReads", spec := "coderReads", apart := false, narrowed := true }
def CoderReadsUptoSaid : Prop := coderReadsUptoRow.holds Try.pinned (OpenSpec.upto coderReadsSpec)

/-- 'bullionlaw05.CoderBack', WHERE WHAT IT READS IS OF BULK AT MOST 1048576: true; the input reads as it did. -/
def coderBackUptoRow : OpenClaim := { program := "yteppkbjjldnniaa", sum := "d57ee0bcf298a3f09faf2ed9d7f887ff897dd626f6643ac8eff624a09f201006", func := "bullion/bullionlaw05.CoderBack", spec := "coderBack", apart := false, narrowed := true }
def CoderBackUptoSaid : Prop := coderBackUptoRow.holds Try.pinned (OpenSpec.upto coderBackSpec)

/-- 'bullionlaw05.CoderNone', WHERE WHAT IT READS IS OF BULK AT MOST 1048576: true; the input reads as it did. -/
def coderNoneUptoRow : OpenClaim := { program := "yteppkbjjldnniaa", sum := "d57ee0bcf298a3f09faf2ed9d7f887ff897dd626f6643ac8eff624a09f201006", func := "bullion/bullionlaw05.CoderNone", spec := "coderNone", apart := false, narrowed := true }
def CoderNoneUptoSaid : Prop := coderNoneUptoRow.holds Try.pinned (OpenSpec.upto coderNoneSpec)

/-- 'bullionlaw28.PlateSure', WHERE WHAT IT READS IS OF BULK AT MOST 1048576: true; the input reads as it did. -/
def plateSureUptoRow : OpenClaim := { program := "yteppkbjjldnniaa", sum := "d57ee0bcf298a3f09faf2ed9d7f887ff897dd626f6643ac8eff624a09f201006", func := "bullion/bullionlaw28.PlateSure", spec := "plateSure", apart := false, narrowed := true }
def PlateSureUptoSaid : Prop := plateSureUptoRow.holds Try.pinned (OpenSpec.upto plateSureSpec)

/-- 'bullionlaw28.PlateNone', WHERE WHAT IT READS IS OF BULK AT MOST 1048576: true; the input reads as it did. -/
def plateNoneUptoRow : OpenClaim := { program := "yteppkbjjldnniaa", sum := "d57ee0bcf298a3f09faf2ed9d7f887ff897dd626f6643ac8eff624a09f201006", func := "bullion/bullionlaw28.PlateNone", spec := "plateNone", apart := false, narrowed := true }
def PlateNoneUptoSaid : Prop := plateNoneUptoRow.holds Try.pinned (OpenSpec.upto plateNoneSpec)

/-- 'bullionlaw29.VaultNone', WHERE WHAT IT READS IS OF BULK AT MOST 1048576: true; the input reads as it did. -/
def vaultNoneUptoRow : OpenClaim := { program := "yteppkbjjldnniaa", sum := "d57ee0bcf298a3f09faf2ed9d7f887ff897dd626f6643ac8eff624a09f201006", func := "bullion/bullionlaw29.VaultNone", spec := "vaultNone", apart := false, narrowed := true }
def VaultNoneUptoSaid : Prop := vaultNoneUptoRow.holds Try.pinned (OpenSpec.upto vaultNoneSpec)

/-- 'bullionlaw29.VaultRoom', WHERE WHAT IT READS IS OF BULK AT MOST 1048576: true; the input reads as it did. -/
def vaultRoomUptoRow : OpenClaim := { program := "yteppkbjjldnniaa", sum := "d57ee0bcf298a3f09faf2ed9d7f887ff897dd626f6643ac8eff624a09f201006", func := "bullion/bullionlaw29.VaultRoom", spec := "vaultRoom", apart := false, narrowed := true }
def VaultRoomUptoSaid : Prop := vaultRoomUptoRow.holds Try.pinned (OpenSpec.upto vaultRoomSpec)

/-- 'bullionlaw29.VaultBegins', WHERE WHAT IT READS IS OF BULK AT MOST 1048576: true; the input reads as it did. -/
def vaultBeginsUptoRow : OpenClaim := { program := "yteppkbjjldnniaa", sum := "d57ee0bcf298a3f09faf2ed9d7f887ff897dd626f6643ac8eff624a09f201006", func := "bullion/bullionlaw29.VaultBegins", spec := "vaultBegins", apart := false, narrowed := true }
def VaultBeginsUptoSaid : Prop := vaultBeginsUptoRow.holds Try.pinned (OpenSpec.upto vaultBeginsSpec)

/-- 'bullionlaw29.VaultSafe', WHERE WHAT IT READS IS OF BULK AT MOST 1048576: true; the input reads as it did. -/
def vaultSafeUptoRow : OpenClaim := { program := "yteppkbjjldnniaa", sum := "d57ee0bcf298a3f09faf2ed9d7f887ff897dd626f6643ac8eff624a09f201006", func := "bullion/bullionlaw29.VaultSafe", spec := "vaultSafe", apart := false, narrowed := true }
def VaultSafeUptoSaid : Prop := vaultSafeUptoRow.holds Try.pinned (OpenSpec.upto vaultSafeSpec)

end Rows
end Go.Proofs.Yteppkbjjldnniaa

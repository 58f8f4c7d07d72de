/-
  No cell of these rows narrows 'for every input' (looked for: loops, veiled, ifaces, maps, wideKeys, modest, calm, conditions, laid).
  DERIVED. THE GIVEN ROWS OF THIS SEAT. 4 by the template 'for every input the law returns true; each argument reads behind the call as it read before'; 0 by the template 'total and deterministic' (their statements: YtkkncijbedfdfaaTotals.lean).
  GIVEN WITH THE SEED: the statements are not yours to turn. If you find one false, say at which input.
  Laid BY PROGRAM, IN A SANDBOX (cutbox-rows.mjs): the forced cells as the released guide's own fill.sh prints them over the translation f9a5f04255e65ec7… (all of the seat's roots in one cut). By AI agents, Wed Nov 11 2026. No macro, syntax, notation, axiom, sorry.
-/
import Derived.Test.YtkkncijbedfdfaaChecked
import GoSem.Claim
import GoSem.ClaimJoined
import GoSem.ClaimMapViews
import Derived.JoinedTies
import Derived.KernelRfl
namespace Go.Proofs.Ytkkncijbedfdfaa
/- THE CELL 'sum', in the pinned program and in every row, IS THE sha256 OF THE DUMP (.gsa) THAT YtkkncijbedfdfaaProg.lean LOADS. Nothing in Lean hashes anything: it is a label: what it is worth is what the hold of that sum in a sandbox is worth. -/
noncomputable def Try.pinned : Pinned := { name := "ytkkncijbedfdfaa", sum := "f9a5f04255e65ec70a564581e340eba77d2e1779f8adbdbbeed9b98160601449", checked := Try.checked }
namespace Rows
def none {H : Type} : Left H := { results := [], args := [] }

/-- 'bullionlaw29.VaultNone': WHATEVER THE INPUT: true; the input reads as it did. -/
def vaultNoneSpec : ChangeSpec := { name := "vaultNone", fn := fun _ => fun
  | [d] => { results := [.lit (.bool true)], args := [d] }
  | _ => none }
def vaultNoneRow : OpenClaim := { program := "ytkkncijbedfdfaa", sum := "f9a5f04255e65ec70a564581e340eba77d2e1779f8adbdbbeed9b98160601449", func := "bullion/bullionlaw29.VaultNone", spec := "vaultNone", apart := false }
def VaultNoneSaid : Prop := vaultNoneRow.holds Try.pinned (OpenSpec.ofChange vaultNoneSpec)

/-- ITS FALSE NEIGHBOUR: 'it returns false'. Refute it at one input. -/
def vaultNoneWrong : ChangeSpec := { name := "vaultNone", fn := fun _ => fun
  | [d] => { results := [.lit (.bool false)], args := [d] }
  | _ => none }
def VaultNoneWrongFalsely : Prop := vaultNoneRow.holds Try.pinned (OpenSpec.ofChange vaultNoneWrong)

/-- 'bullionlaw29.VaultRoom': WHATEVER THE INPUT: true; the input reads as it did. -/
def vaultRoomSpec : ChangeSpec := { name := "vaultRoom", fn := fun _ => fun
  | [d1, d2, d3] => { results := [.lit (.bool true)], args := [d1, d2, d3] }
  | _ => none }
def vaultRoomRow : OpenClaim := { program := "ytkkncijbedfdfaa", sum := "f9a5f04255e65ec70a564581e340eba77d2e1779f8adbdbbeed9b98160601449", func := "bullion/bullionlaw29.VaultRoom", spec := "vaultRoom", apart := false }
def VaultRoomSaid : Prop := vaultRoomRow.holds Try.pinned (OpenSpec.ofChange vaultRoomSpec)

/-- ITS FALSE NEIGHBOUR: 'it returns false'. Refute it at one input. -/
def vaultRoomWrong : ChangeSpec := { name := "vaultRoom", fn := fun _ => fun
  | [d1, d2, d3] => { results := [.lit (.bool false)], args := [d1, d2, d3] }
  | _ => none }
def VaultRoomWrongFalsely : Prop := vaultRoomRow.holds Try.pinned (OpenSpec.ofChange vaultRoomWrong)

/-- 'bullionlaw29.VaultBegins': WHATEVER THE INPUT: true; the input reads as it did. -/
def vaultBeginsSpec : ChangeSpec := { name := "vaultBegins", fn := fun _ => fun
  | [d1, d2, d3] => { results := [.lit (.bool true)], args := [d1, d2, d3] }
  | _ => none }
def vaultBeginsRow : OpenClaim := { program := "ytkkncijbedfdfaa", sum := "f9a5f04255e65ec70a564581e340eba77d2e1779f8adbdbbeed9b98160601449", func := "bullion/bullionlaw29.VaultBegins", spec := "vaultBegins", apart := false }
def VaultBeginsSaid : Prop := vaultBeginsRow.holds Try.pinned (OpenSpec.ofChange vaultBeginsSpec)

/-- ITS FALSE NEIGHBOUR: 'it returns false'. Refute it at one input. -/
def vaultBeginsWrong : ChangeSpec := { name := "vaultBegins", fn := fun _ => fun
  | [d1, d2, d3] => { results := [.lit (.bool false)], args := [d1, d2, d3] }
  | _ => none }
def VaultBeginsWrongFalsely : Prop := vaultBeginsRow.holds Try.pinned (OpenSpec.ofChange vaultBeginsWrong)

/-- 'bullionlaw29.VaultSafe': WHATEVER THE INPUT: true; the input reads as it did. -/
def vaultSafeSpec : ChangeSpec := { name := "vaultSafe", fn := fun _ => fun
  | [d1, d2, d3] => { results := [.lit (.bool true)], args := [d1, d2, d3] }
  | _ => none }
def vaultSafeRow : OpenClaim := { program := "ytkkncijbedfdfaa", sum := "f9a5f04255e65ec70a564581e340eba77d2e1779f8adbdbbeed9b98160601449", func := "bullion/bullionlaw29.VaultSafe", spec := "vaultSafe", apart := false }
def VaultSafeSaid : Prop := vaultSafeRow.holds Try.pinned (OpenSpec.ofChange vaultSafeSpec)

/-- ITS FALSE NEIGHBOUR: 'it returns false'. Refute it at one input. -/
def vaultSafeWrong : ChangeSpec := { name := "vaultSafe", fn := fun _ => fun
  | [d1, d2, d3] => { results := [.lit (.bool false)], args := [d1, d2, d3] }
  | _ => none }
def VaultSafeWrongFalsely : Prop := vaultSafeRow.holds Try.pinned (OpenSpec.ofChange vaultSafeWrong)

/- THE SECOND FORM. 'bulk': how many values and letters a reading holds, each counted each time it is reached (what is shared counts as often as it is met; a slice's spare places count too). A statement '..UptoSaid' is the law's where the arguments, and the package variables that the reading takes, are together of bulk at most 1048576: NARROWER than '..Said'. Prove '..Said' where nothing that the law and all that it calls make is longer than what came in: it says more and counts as full. Else prove '..UptoSaid'. A law counts once. -/
mutual
def uptoBulk {H : Type} : DataW H → Nat
  | .lit (.string bytes) => bytes.length + 1
  | .lit _ => 1
  | .nil => 1
  | .ptr d => uptoBulk d + 1
  | .slice elems spare => uptoBulkAll elems + uptoBulkAll spare + 1
  | .agg parts => uptoBulkAll parts + 1
  | .iface _ d => uptoBulk d + 1
  | .map entries => uptoBulkEntries entries + 1
  | .held _ => 1
def uptoBulkAll {H : Type} : List (DataW H) → Nat
  | [] => 0
  | d :: r => uptoBulk d + uptoBulkAll r
def uptoBulkEntries {H : Type} : List (Lit × DataW H) → Nat
  | [] => 0
  | x :: r => uptoBulkEntry x + uptoBulkEntries r
def uptoBulkEntry {H : Type} : Lit × DataW H → Nat
  | (.string bytes, d) => bytes.length + uptoBulk d + 1
  | (_, d) => uptoBulk d + 1
 end
def uptoSmall : (H : Type) → List (DataW H) → Bool := fun _ ds => decide (uptoBulkAll ds ≤ 1048576)
def OpenSpec.upto (s : _root_.Go.ChangeSpec) : _root_.Go.OpenSpec := { _root_.Go.OpenSpec.ofChange s with cond := some uptoSmall }

/-- 'bullionlaw29.VaultNone', WHERE WHAT IT READS IS OF BULK AT MOST 1048576: true; the input reads as it did. -/
def vaultNoneUptoRow : OpenClaim := { program := "ytkkncijbedfdfaa", sum := "f9a5f04255e65ec70a564581e340eba77d2e1779f8adbdbbeed9b98160601449", func := "bullion/bullionlaw29.VaultNone", spec := "vaultNone", apart := false, narrowed := true }
def VaultNoneUptoSaid : Prop := vaultNoneUptoRow.holds Try.pinned (OpenSpec.upto vaultNoneSpec)

/-- 'bullionlaw29.VaultRoom', WHERE WHAT IT READS IS OF BULK AT MOST 1048576: true; the input reads as it did. -/
def vaultRoomUptoRow : OpenClaim := { program := "ytkkncijbedfdfaa", sum := "f9a5f04255e65ec70a564581e340eba77d2e1779f8adbdbbeed9b98160601449", func := "bullion/bullionlaw29.VaultRoom", spec := "vaultRoom", apart := false, narrowed := true }
def VaultRoomUptoSaid : Prop := vaultRoomUptoRow.holds Try.pinned (OpenSpec.upto vaultRoomSpec)

/-- 'bullionlaw29.VaultBegins', WHERE WHAT IT READS IS OF BULK AT MOST 1048576: true; the input reads as it did. -/
def vaultBeginsUptoRow : OpenClaim := { program := "ytkkncijbedfdfaa", sum := "f9a5f04255e65ec70a564581e340eba77d2e1779f8adbdbbeed9b98160601449", func := "bullion/bullionlaw29.VaultBegins", spec := "vaultBegins", apart := false, narrowed := true }
def VaultBeginsUptoSaid : Prop := vaultBeginsUptoRow.holds Try.pinned (OpenSpec.upto vaultBeginsSpec)

/-- 'bullionlaw29.VaultSafe', WHERE WHAT IT READS IS OF BULK AT MOST 1048576: true; the input reads as it did. -/
def vaultSafeUptoRow : OpenClaim := { program := "ytkkncijbedfdfaa", sum := "f9a5f04255e65ec70a564581e340eba77d2e1779f8adbdbbeed9b98160601449", func := "bullion/bullionlaw29.VaultSafe", spec := "vaultSafe", apart := false, narrowed := true }
def VaultSafeUptoSaid : Prop := vaultSafeUptoRow.holds Try.pinned (OpenSpec.upto vaultSafeSpec)

end Rows
end Go.Proofs.Ytkkncijbedfdfaa

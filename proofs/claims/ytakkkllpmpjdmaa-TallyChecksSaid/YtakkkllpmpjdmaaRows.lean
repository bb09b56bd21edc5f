/-
  No cell of these rows narrows 'for every input' (looked for: loops, veiled, ifaces, maps, wideKeys, modest, calm, conditions, laid).
  DERIVED. THE GIVEN ROWS OF THIS SEAT. 8 by the template 'for every input the law returns true; each argument reads behind the call as it read before'; 0 by the template 'total and deterministic' (their statements: YtakkkllpmpjdmaaTotals.lean).
  GIVEN WITH THE SEED: the statements are not yours to turn. If you find one false, say at which input.
  Laid BY PROGRAM, IN A SANDBOX (cutbox-rows.mjs): the forced cells as the released guide's own fill.sh prints them over the translation 7fd1acd6d2e82c66… (all of the seat's roots in one cut). By AI agents, Wed Nov 11 2026. No macro, syntax, notation, axiom, sorry.
-/
import Derived.Test.YtakkkllpmpjdmaaChecked
import GoSem.Claim
import GoSem.ClaimJoined
import GoSem.ClaimMapViews
import Derived.JoinedTies
import Derived.KernelRfl
namespace Go.Proofs.Ytakkkllpmpjdmaa
/- THE CELL 'sum', in the pinned program and in every row, IS THE sha256 OF THE DUMP (.gsa) THAT YtakkkllpmpjdmaaProg.lean LOADS. Nothing in Lean hashes anything: it is a label: what it is worth is what the hold of that sum in a sandbox is worth. -/
noncomputable def Try.pinned : Pinned := { name := "ytakkkllpmpjdmaa", sum := "7fd1acd6d2e82c669aae8d4b6b59ef921e3ef0a6d2c8aec4a50608a4afef94f3", checked := Try.checked }
namespace Rows
def none {H : Type} : Left H := { results := [], args := [] }

/-- 'largesselaw07.HashSums': WHATEVER THE INPUT: true; the input reads as it did. -/
def hashSumsSpec : ChangeSpec := { name := "hashSums", fn := fun _ => fun
  | [d] => { results := [.lit (.bool true)], args := [d] }
  | _ => none }
def hashSumsRow : OpenClaim := { program := "ytakkkllpmpjdmaa", sum := "7fd1acd6d2e82c669aae8d4b6b59ef921e3ef0a6d2c8aec4a50608a4afef94f3", func := "largesse/largesselaw07.HashSums", spec := "hashSums", unfollowed := true, recurses := true, apart := false }
def HashSumsSaid : Prop := hashSumsRow.holds Try.pinned (OpenSpec.ofChange hashSumsSpec)

/-- ITS FALSE NEIGHBOUR: 'it returns false'. Refute it at one input. -/
def hashSumsWrong : ChangeSpec := { name := "hashSums", fn := fun _ => fun
  | [d] => { results := [.lit (.bool false)], args := [d] }
  | _ => none }
def HashSumsWrongFalsely : Prop := hashSumsRow.holds Try.pinned (OpenSpec.ofChange hashSumsWrong)

/-- 'largesselaw07.HashParts': WHATEVER THE INPUT: true; the input reads as it did. -/
def hashPartsSpec : ChangeSpec := { name := "hashParts", fn := fun _ => fun
  | [d] => { results := [.lit (.bool true)], args := [d] }
  | _ => none }
def hashPartsRow : OpenClaim := { program := "ytakkkllpmpjdmaa", sum := "7fd1acd6d2e82c669aae8d4b6b59ef921e3ef0a6d2c8aec4a50608a4afef94f3", func := "largesse/largesselaw07.HashParts", spec := "hashParts", unfollowed := true, recurses := true, apart := false }
def HashPartsSaid : Prop := hashPartsRow.holds Try.pinned (OpenSpec.ofChange hashPartsSpec)

/-- ITS FALSE NEIGHBOUR: 'it returns false'. Refute it at one input. -/
def hashPartsWrong : ChangeSpec := { name := "hashParts", fn := fun _ => fun
  | [d] => { results := [.lit (.bool false)], args := [d] }
  | _ => none }
def HashPartsWrongFalsely : Prop := hashPartsRow.holds Try.pinned (OpenSpec.ofChange hashPartsWrong)

/-- 'largesselaw32.TallyTrees': WHATEVER THE INPUT: true; the input reads as it did. -/
def tallyTreesSpec : ChangeSpec := { name := "tallyTrees", fn := fun _ => fun
  | [d1, d2] => { results := [.lit (.bool true)], args := [d1, d2] }
  | _ => none }
def tallyTreesRow : OpenClaim := { program := "ytakkkllpmpjdmaa", sum := "7fd1acd6d2e82c669aae8d4b6b59ef921e3ef0a6d2c8aec4a50608a4afef94f3", func := "largesse/largesselaw32.TallyTrees", spec := "tallyTrees", unfollowed := true, recurses := true, apart := false }
def TallyTreesSaid : Prop := tallyTreesRow.holds Try.pinned (OpenSpec.ofChange tallyTreesSpec)

/-- ITS FALSE NEIGHBOUR: 'it returns false'. Refute it at one input. -/
def tallyTreesWrong : ChangeSpec := { name := "tallyTrees", fn := fun _ => fun
  | [d1, d2] => { results := [.lit (.bool false)], args := [d1, d2] }
  | _ => none }
def TallyTreesWrongFalsely : Prop := tallyTreesRow.holds Try.pinned (OpenSpec.ofChange tallyTreesWrong)

/-- 'largesselaw32.TallyAdds': WHATEVER THE INPUT: true; the input reads as it did. -/
def tallyAddsSpec : ChangeSpec := { name := "tallyAdds", fn := fun _ => fun
  | [d] => { results := [.lit (.bool true)], args := [d] }
  | _ => none }
def tallyAddsRow : OpenClaim := { program := "ytakkkllpmpjdmaa", sum := "7fd1acd6d2e82c669aae8d4b6b59ef921e3ef0a6d2c8aec4a50608a4afef94f3", func := "largesse/largesselaw32.TallyAdds", spec := "tallyAdds", unfollowed := true, recurses := true, apart := false }
def TallyAddsSaid : Prop := tallyAddsRow.holds Try.pinned (OpenSpec.ofChange tallyAddsSpec)

/-- ITS FALSE NEIGHBOUR: 'it returns false'. Refute it at one input. -/
def tallyAddsWrong : ChangeSpec := { name := "tallyAdds", fn := fun _ => fun
  | [d] => { results := [.lit (.bool false)], args := [d] }
  | _ => none }
def TallyAddsWrongFalsely : Prop := tallyAddsRow.holds Try.pinned (OpenSpec.ofChange tallyAddsWrong)

/-- 'largesselaw32.TallyChecks': WHATEVER THE INPUT: true; the input reads as it did. -/
def tallyChecksSpec : ChangeSpec := { name := "tallyChecks", fn := fun _ => fun
  | [d1, d2, d3, d4, d5, d6] => { results := [.lit (.bool true)], args := [d1, d2, d3, d4, d5, d6] }
  | _ => none }
def tallyChecksRow : OpenClaim := { program := "ytakkkllpmpjdmaa", sum := "7fd1acd6d2e82c669aae8d4b6b59ef921e3ef0a6d2c8aec4a50608a4afef94f3", func := "largesse/largesselaw32.TallyChecks", spec := "tallyChecks", unfollowed := true, recurses := true, apart := false }
def TallyChecksSaid : Prop := tallyChecksRow.holds Try.pinned (OpenSpec.ofChange tallyChecksSpec)

/-- ITS FALSE NEIGHBOUR: 'it returns false'. Refute it at one input. -/
def tallyChecksWrong : ChangeSpec := { name := "tallyChecks", fn := fun _ => fun
  | [d1, d2, d3, d4, d5, d6] => { results := [.lit (.bool false)], args := [d1, d2, d3, d4, d5, d6] }
  | _ => none }
def TallyChecksWrongFalsely : Prop := tallyChecksRow.holds Try.pinned (OpenSpec.ofChange tallyChecksWrong)

/-- 'largesselaw05.CipherEncrypts': WHATEVER THE INPUT: true; the input reads as it did. -/
def cipherEncryptsSpec : ChangeSpec := { name := "cipherEncrypts", fn := fun _ => fun
  | [d1, d2, d3] => { results := [.lit (.bool true)], args := [d1, d2, d3] }
  | _ => none }
def cipherEncryptsRow : OpenClaim := { program := "ytakkkllpmpjdmaa", sum := "7fd1acd6d2e82c669aae8d4b6b59ef921e3ef0a6d2c8aec4a50608a4afef94f3", func := "largesse/largesselaw05.CipherEncrypts", spec := "cipherEncrypts", unfollowed := true, recurses := true, apart := false }
def CipherEncryptsSaid : Prop := cipherEncryptsRow.holds Try.pinned (OpenSpec.ofChange cipherEncryptsSpec)

/-- ITS FALSE NEIGHBOUR: 'it returns false'. Refute it at one input. -/
def cipherEncryptsWrong : ChangeSpec := { name := "cipherEncrypts", fn := fun _ => fun
  | [d1, d2, d3] => { results := [.lit (.bool false)], args := [d1, d2, d3] }
  | _ => none }
def CipherEncryptsWrongFalsely : Prop := cipherEncryptsRow.holds Try.pinned (OpenSpec.ofChange cipherEncryptsWrong)

/-- 'largesselaw05.CipherBack': WHATEVER THE INPUT: true; the input reads as it did. -/
def cipherBackSpec : ChangeSpec := { name := "cipherBack", fn := fun _ => fun
  | [d1, d2, d3, d4] => { results := [.lit (.bool true)], args := [d1, d2, d3, d4] }
  | _ => none }
def cipherBackRow : OpenClaim := { program := "ytakkkllpmpjdmaa", sum := "7fd1acd6d2e82c669aae8d4b6b59ef921e3ef0a6d2c8aec4a50608a4afef94f3", func := "largesse/largesselaw05.CipherBack", spec := "cipherBack", unfollowed := true, recurses := true, apart := false }
def CipherBackSaid : Prop := cipherBackRow.holds Try.pinned (OpenSpec.ofChange cipherBackSpec)

/-- ITS FALSE NEIGHBOUR: 'it returns false'. Refute it at one input. -/
def cipherBackWrong : ChangeSpec := { name := "cipherBack", fn := fun _ => fun
  | [d1, d2, d3, d4] => { results := [.lit (.bool false)], args := [d1, d2, d3, d4] }
  | _ => none }
def CipherBackWrongFalsely : Prop := cipherBackRow.holds Try.pinned (OpenSpec.ofChange cipherBackWrong)

/-- 'largesselaw05.CipherForms': WHATEVER THE INPUT: true; the input reads as it did. -/
def cipherFormsSpec : ChangeSpec := { name := "cipherForms", fn := fun _ => fun
  | [d1, d2] => { results := [.lit (.bool true)], args := [d1, d2] }
  | _ => none }
def cipherFormsRow : OpenClaim := { program := "ytakkkllpmpjdmaa", sum := "7fd1acd6d2e82c669aae8d4b6b59ef921e3ef0a6d2c8aec4a50608a4afef94f3", func := "largesse/largesselaw05.CipherForms", spec := "cipherForms", unfollowed := true, recurses := true, apart := false }
def CipherFormsSaid : Prop := cipherFormsRow.holds Try.pinned (OpenSpec.ofChange cipherFormsSpec)

/-- ITS FALSE NEIGHBOUR: 'it returns false'. Refute it at one input. -/
def cipherFormsWrong : ChangeSpec := { name := "cipherForms", fn := fun _ => fun
  | [d1, d2] => { results := [.lit (.bool false)], args := [d1, d2] }
  | _ => none }
def CipherFormsWrongFalsely : Prop := cipherFormsRow.holds Try.pinned (OpenSpec.ofChange cipherFormsWrong)

/- THE SECOND FORM. 'bulk': how many values and letters a reading holds, each counted each time it is reached (what is shared counts as often as it is met; a slice's spare places count too). A statement '..UptoSaid' is the law's where the arguments, and the package variables that the reading takes, are together of bulk at most 1048576: NARROWER than '..Said'. Prove '..Said' where nothing that the law and all that it calls make is longer than what came in: it says more and counts as full. Else prove '..UptoSaid'. A law counts once. -/
mutual
def uptoBulk {H : Type} : DataW H → Nat
  | .lit (.string bytes) => bytes.length + 1
  | .lit _ => 1
  | .nil => 1
  | .ptr d => uptoBulk d + 1
  | .slice elems spare => uptoBulkAll elems + uptoBulkAll spare + 1
  | .agg parts => uptoBulkAll parts + 1
  | .iface _ d => uptoBulk d + 1
  | .map entries => uptoBulkEntries entries + 1
  | .held _ => 1
def uptoBulkAll {H : Type} : List (DataW H) → Nat
  | [] => 0
  | d :: r => uptoBulk d + uptoBulkAll r
def uptoBulkEntries {H : Type} : List (Lit × DataW H) → Nat
  | [] => 0
  | x :: r => uptoBulkEntry x + uptoBulkEntries r
def uptoBulkEntry {H : Type} : Lit × DataW H → Nat
  | (.string bytes, d) => bytes.length + uptoBulk d + 1
  | (_, d) => uptoBulk d + 1
 end
def uptoSmall : (H : Type) → List (DataW H) → Bool := fun _ ds => decide (uptoBulkAll ds ≤ 1048576)
def OpenSpec.upto (s : _root_.Go.ChangeSpec) : _root_.Go.OpenSpec := { _root_.Go.OpenSpec.ofChange s with cond := some uptoSmall }

/-- 'largesselaw07.HashSums', WHERE WHAT IT READS IS OF BULK AT MOST 1048576: true; the input reads as it did. -/
def hashSumsUptoRow : OpenClaim := { program := "ytakkkllpmpjdmaa", sum := "7fd1acd6d2e82c669aae8d4b6b59ef921e3ef0a6d2c8aec4a50608a4afef94f3", func := "largesse/largesselaw07.HashSums", spec := "hashSums", unfollowed := true, recurses := true, apart := false, narrowed := true }
def HashSumsUptoSaid : Prop := hashSumsUptoRow.holds Try.pinned (OpenSpec.upto hashSumsSpec)

/-- 'largesselaw07.HashParts', WHERE WHAT IT READS IS OF BULK AT MOST 1048576: true; the input reads as it did. -/
def hashPartsUptoRow : OpenClaim := { program := "ytakkkllpmpjdmaa", sum := "7fd1acd6d2e82c669aae8d4b6b59ef921e3ef0a6d2c8aec4a50608a4afef94f3", func := "largesse/largesselaw07.HashParts", spec := "hashParts", unfollowed := true, recurses := true, apart := false, narrowed := true }
def HashPartsUptoSaid : Prop := hashPartsUptoRow.holds Try.pinned (OpenSpec.upto hashPartsSpec)

/-- 'largesselaw32.TallyTrees', WHERE WHAT IT READS IS OF BULK AT MOST 1048576: true; the input reads as it did. -/
def tallyTreesUptoRow : OpenClaim := { program := "ytakkkllpmpjdmaa", sum := "7fd1acd6d2e82c669aae8d4b6b59ef921e3ef0a6d2c8aec4a50608a4afef94f3", func := "largesse/largesselaw32.TallyTrees", spec := "tallyTrees", unfollowed := true, recurses := true, apart := false, narrowed := true }
def TallyTreesUptoSaid : Prop := tallyTreesUptoRow.holds Try.pinned (OpenSpec.upto tallyTreesSpec)

/-- 'largesselaw32.TallyAdds', WHERE WHAT IT READS IS OF BULK AT MOST 1048576: true; the input reads as it did. -/
def tallyAddsUptoRow : OpenClaim := { program := "ytakkkllpmpjdmaa", sum := "7fd1acd6d2e82c669aae8d4b6b59ef921e3ef0a6d2c8aec4a50608a4afef94f3", func := "largesse/largesselaw32.TallyAdds", spec := "tallyAdds", unfollowed := true, recurses := true, apart := false, narrowed := true }
def TallyAddsUptoSaid : Prop := tallyAddsUptoRow.holds Try.pinned (OpenSpec.upto tallyAddsSpec)

/-- 'largesselaw32.TallyChecks', WHERE WHAT IT READS IS OF BULK AT MOST 1048576: true; the input reads as it did. -/
def tallyChecksUptoRow : OpenClaim := { program := "ytakkkllpmpjdmaa", sum := "7fd1acd6d2e82c669aae8d4b6b59ef921e3ef0a6d2c8aec4a50608a4afef94f3", func := "largesse/largesselaw32.TallyChecks", spec := "tallyChecks", unfollowed := true, recurses := true, apart := false, narrowed := true }
def TallyChecksUptoSaid : Prop := tallyChecksUptoRow.holds Try.pinned (OpenSpec.upto tallyChecksSpec)

/-- 'largesselaw05.CipherEncrypts', WHERE WHAT IT READS IS OF BULK AT MOST 1048576: true; the input reads as it did. -/
def cipherEncryptsUptoRow : OpenClaim := { program := "ytakkkllpmpjdmaa", sum := "7fd1acd6d2e82c669aae8d4b6b59ef921e3ef0a6d2c8aec4a50608a4afef94f3", func := "largesse/largesselaw05.CipherEncrypts", spec := "cipherEncrypts", unfollowed := true, recurses := true, apart := false, narrowed := true }
def CipherEncryptsUptoSaid : Prop := cipherEncryptsUptoRow.holds Try.pinned (OpenSpec.upto cipherEncryptsSpec)

/-- 'largesselaw05.CipherBack', WHERE WHAT IT READS IS OF BULK AT MOST 1048576: true; the input reads as it did. -/
def cipherBackUptoRow : OpenClaim := { program := "ytakkkllpmpjdmaa", sum := "7fd1acd6d2e82c669aae8d4b6b59ef921e3ef0a6d2c8aec4a50608a4afef94f3", func := "largesse/largesselaw05.CipherBack", spec := "cipherBack", unfollowed := true, recurses := true, apart := false, narrowed := true }
def CipherBackUptoSaid : Prop := cipherBackUptoRow.holds Try.pinned (OpenSpec.upto cipherBackSpec)

/-- 'largesselaw05.CipherForms', WHERE WHAT IT READS IS OF BULK AT MOST 1048576: true; the input reads as it did. -/
def cipherFormsUptoRow : OpenClaim := { program := "ytakkkllpmpjdmaa", sum := "7fd1acd6d2e82c669aae8d4b6b59ef921e3ef0a6d2c8aec4a50608a4afef94f3", func := "largesse/largesselaw05.CipherForms", spec := "cipherForms", unfollowed := true, recurses := true, apart := false, narrowed := true }
def CipherFormsUptoSaid : Prop := cipherFormsUptoRow.holds Try.pinned (OpenSpec.upto cipherFormsSpec)

end Rows
end Go.Proofs.Ytakkkllpmpjdmaa

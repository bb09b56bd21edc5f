/-
  No cell of these rows narrows 'for every input' (looked for: loops, veiled, ifaces, maps, wideKeys, modest, calm, conditions, laid).
  DERIVED. THE GIVEN ROWS OF THIS SEAT. 12 by the template 'for every input the law returns true; each argument reads behind the call as it read before'; 0 by the template 'total and deterministic' (their statements: YtkbpoolplfhkhaaTotals.lean).
  GIVEN WITH THE SEED: the statements are not yours to turn. If you find one false, say at which input.
  Laid BY PROGRAM, IN A SANDBOX (cutbox-rows.mjs): the forced cells as the released guide's own fill.sh prints them over the translation 74c90e072dba4c66… (all of the seat's roots in one cut). By AI agents, Wed Nov 11 2026. No macro, syntax, notation, axiom, sorry.
-/
import Derived.Test.YtkbpoolplfhkhaaChecked
import GoSem.Claim
import GoSem.ClaimJoined
import GoSem.ClaimMapViews
import Derived.JoinedTies
import Derived.KernelRfl
namespace Go.Proofs.Ytkbpoolplfhkhaa
/- THE CELL 'sum', in the pinned program and in every row, IS THE sha256 OF THE DUMP (.gsa) THAT YtkbpoolplfhkhaaProg.lean LOADS. Nothing in Lean hashes anything: it is a label: what it is worth is what the hold of that sum in a sandbox is worth. -/
noncomputable def Try.pinned : Pinned := { name := "ytkbpoolplfhkhaa", sum := "74c90e072dba4c66cf8d709b17b8600763567760752469889c753ed3b590cbaf", checked := Try.checked }
namespace Rows
def none {H : Type} : Left H := { results := [], args := [] }

/-- 'largesselaw05.CipherEncrypts': WHATEVER THE INPUT: true; the input reads as it did. -/
def cipherEncryptsSpec : ChangeSpec := { name := "cipherEncrypts", fn := fun _ => fun
  | [d1, d2, d3] => { results := [.lit (.bool true)], args := [d1, d2, d3] }
  | _ => none }
def cipherEncryptsRow : OpenClaim := { program := "ytkbpoolplfhkhaa", sum := "74c90e072dba4c66cf8d709b17b8600763567760752469889c753ed3b590cbaf", func := "largesse/largesselaw05.CipherEncrypts", spec := "cipherEncrypts", unfollowed := true, recurses := true, apart := false }
def CipherEncryptsSaid : Prop := cipherEncryptsRow.holds Try.pinned (OpenSpec.ofChange cipherEncryptsSpec)

/-- ITS FALSE NEIGHBOUR: 'it returns false'. Refute it at one input. -/
def cipherEncryptsWrong : ChangeSpec := { name := "cipherEncrypts", fn := fun _ => fun
  | [d1, d2, d3] => { results := [.lit (.bool false)], args := [d1, d2, d3] }
  | _ => none }
def CipherEncryptsWrongFalsely : Prop := cipherEncryptsRow.holds Try.pinned (OpenSpec.ofChange cipherEncryptsWrong)

/-- 'largesselaw05.CipherBack': WHATEVER THE INPUT: true; the input reads as it did. -/
def cipherBackSpec : ChangeSpec := { name := "cipherBack", fn := fun _ => fun
  | [d1, d2, d3, d4] => { results := [.lit (.bool true)], args := [d1, d2, d3, d4] }
  | _ => none }
def cipherBackRow : OpenClaim := { program := "ytkbpoolplfhkhaa", sum := "74c90e072dba4c66cf8d709b17b8600763567760752469889c753ed3b590cbaf", func := "largesse/largesselaw05.CipherBack", spec := "cipherBack", unfollowed := true, recurses := true, apart := false }
def CipherBackSaid : Prop := cipherBackRow.holds Try.pinned (OpenSpec.ofChange cipherBackSpec)

/-- ITS FALSE NEIGHBOUR: 'it returns false'. Refute it at one input. -/
def cipherBackWrong : ChangeSpec := { name := "cipherBack", fn := fun _ => fun
  | [d1, d2, d3, d4] => { results := [.lit (.bool false)], args := [d1, d2, d3, d4] }
  | _ => none }
def CipherBackWrongFalsely : Prop := cipherBackRow.holds Try.pinned (OpenSpec.ofChange cipherBackWrong)

/-- 'largesselaw05.CipherForms': WHATEVER THE INPUT: true; the input reads as it did. -/
def cipherFormsSpec : ChangeSpec := { name := "cipherForms", fn := fun _ => fun
  | [d1, d2] => { results := [.lit (.bool true)], args := [d1, d2] }
  | _ => none }
def cipherFormsRow : OpenClaim := { program := "ytkbpoolplfhkhaa", sum := "74c90e072dba4c66cf8d709b17b8600763567760752469889c753ed3b590cbaf", func := "largesse/largesselaw05.CipherForms", spec := "cipherForms", unfollowed := true, recurses := true, apart := false }
def CipherFormsSaid : Prop := cipherFormsRow.holds Try.pinned (OpenSpec.ofChange cipherFormsSpec)

/-- ITS FALSE NEIGHBOUR: 'it returns false'. Refute it at one input. -/
def cipherFormsWrong : ChangeSpec := { name := "cipherForms", fn := fun _ => fun
  | [d1, d2] => { results := [.lit (.bool false)], args := [d1, d2] }
  | _ => none }
def CipherFormsWrongFalsely : Prop := cipherFormsRow.holds Try.pinned (OpenSpec.ofChange cipherFormsWrong)

/-- 'largesselaw06.StreamBytes': WHATEVER THE INPUT: true; the input reads as it did. -/
def streamBytesSpec : ChangeSpec := { name := "streamBytes", fn := fun _ => fun
  | [d1, d2, d3, d4] => { results := [.lit (.bool true)], args := [d1, d2, d3, d4] }
  | _ => none }
def streamBytesRow : OpenClaim := { program := "ytkbpoolplfhkhaa", sum := "74c90e072dba4c66cf8d709b17b8600763567760752469889c753ed3b590cbaf", func := "largesse/largesselaw06.StreamBytes", spec := "streamBytes", unfollowed := true, recurses := true, apart := false }
def StreamBytesSaid : Prop := streamBytesRow.holds Try.pinned (OpenSpec.ofChange streamBytesSpec)

/-- ITS FALSE NEIGHBOUR: 'it returns false'. Refute it at one input. -/
def streamBytesWrong : ChangeSpec := { name := "streamBytes", fn := fun _ => fun
  | [d1, d2, d3, d4] => { results := [.lit (.bool false)], args := [d1, d2, d3, d4] }
  | _ => none }
def StreamBytesWrongFalsely : Prop := streamBytesRow.holds Try.pinned (OpenSpec.ofChange streamBytesWrong)

/-- 'largesselaw06.StreamXors': WHATEVER THE INPUT: true; the input reads as it did. -/
def streamXorsSpec : ChangeSpec := { name := "streamXors", fn := fun _ => fun
  | [d1, d2, d3] => { results := [.lit (.bool true)], args := [d1, d2, d3] }
  | _ => none }
def streamXorsRow : OpenClaim := { program := "ytkbpoolplfhkhaa", sum := "74c90e072dba4c66cf8d709b17b8600763567760752469889c753ed3b590cbaf", func := "largesse/largesselaw06.StreamXors", spec := "streamXors", unfollowed := true, recurses := true, apart := false }
def StreamXorsSaid : Prop := streamXorsRow.holds Try.pinned (OpenSpec.ofChange streamXorsSpec)

/-- ITS FALSE NEIGHBOUR: 'it returns false'. Refute it at one input. -/
def streamXorsWrong : ChangeSpec := { name := "streamXors", fn := fun _ => fun
  | [d1, d2, d3] => { results := [.lit (.bool false)], args := [d1, d2, d3] }
  | _ => none }
def StreamXorsWrongFalsely : Prop := streamXorsRow.holds Try.pinned (OpenSpec.ofChange streamXorsWrong)

/-- 'largesselaw06.StreamParts': WHATEVER THE INPUT: true; the input reads as it did. -/
def streamPartsSpec : ChangeSpec := { name := "streamParts", fn := fun _ => fun
  | [d1, d2, d3, d4, d5] => { results := [.lit (.bool true)], args := [d1, d2, d3, d4, d5] }
  | _ => none }
def streamPartsRow : OpenClaim := { program := "ytkbpoolplfhkhaa", sum := "74c90e072dba4c66cf8d709b17b8600763567760752469889c753ed3b590cbaf", func := "largesse/largesselaw06.StreamParts", spec := "streamParts", unfollowed := true, recurses := true, apart := false }
def StreamPartsSaid : Prop := streamPartsRow.holds Try.pinned (OpenSpec.ofChange streamPartsSpec)

/-- ITS FALSE NEIGHBOUR: 'it returns false'. Refute it at one input. -/
def streamPartsWrong : ChangeSpec := { name := "streamParts", fn := fun _ => fun
  | [d1, d2, d3, d4, d5] => { results := [.lit (.bool false)], args := [d1, d2, d3, d4, d5] }
  | _ => none }
def StreamPartsWrongFalsely : Prop := streamPartsRow.holds Try.pinned (OpenSpec.ofChange streamPartsWrong)

/-- 'largesselaw11.AontWraps': WHATEVER THE INPUT: true; the input reads as it did. -/
def aontWrapsSpec : ChangeSpec := { name := "aontWraps", fn := fun _ => fun
  | [d1, d2] => { results := [.lit (.bool true)], args := [d1, d2] }
  | _ => none }
def aontWrapsRow : OpenClaim := { program := "ytkbpoolplfhkhaa", sum := "74c90e072dba4c66cf8d709b17b8600763567760752469889c753ed3b590cbaf", func := "largesse/largesselaw11.AontWraps", spec := "aontWraps", unfollowed := true, recurses := true, apart := false }
def AontWrapsSaid : Prop := aontWrapsRow.holds Try.pinned (OpenSpec.ofChange aontWrapsSpec)

/-- ITS FALSE NEIGHBOUR: 'it returns false'. Refute it at one input. -/
def aontWrapsWrong : ChangeSpec := { name := "aontWraps", fn := fun _ => fun
  | [d1, d2] => { results := [.lit (.bool false)], args := [d1, d2] }
  | _ => none }
def AontWrapsWrongFalsely : Prop := aontWrapsRow.holds Try.pinned (OpenSpec.ofChange aontWrapsWrong)

/-- 'largesselaw11.AontNothing': WHATEVER THE INPUT: true; the input reads as it did. -/
def aontNothingSpec : ChangeSpec := { name := "aontNothing", fn := fun _ => fun
  | [d1, d2, d3, d4] => { results := [.lit (.bool true)], args := [d1, d2, d3, d4] }
  | _ => none }
def aontNothingRow : OpenClaim := { program := "ytkbpoolplfhkhaa", sum := "74c90e072dba4c66cf8d709b17b8600763567760752469889c753ed3b590cbaf", func := "largesse/largesselaw11.AontNothing", spec := "aontNothing", unfollowed := true, recurses := true, apart := false }
def AontNothingSaid : Prop := aontNothingRow.holds Try.pinned (OpenSpec.ofChange aontNothingSpec)

/-- ITS FALSE NEIGHBOUR: 'it returns false'. Refute it at one input. -/
def aontNothingWrong : ChangeSpec := { name := "aontNothing", fn := fun _ => fun
  | [d1, d2, d3, d4] => { results := [.lit (.bool false)], args := [d1, d2, d3, d4] }
  | _ => none }
def AontNothingWrongFalsely : Prop := aontNothingRow.holds Try.pinned (OpenSpec.ofChange aontNothingWrong)

/-- 'largesselaw31.SealMarks': WHATEVER THE INPUT: true; the input reads as it did. -/
def sealMarksSpec : ChangeSpec := { name := "sealMarks", fn := fun _ => fun
  | [d1, d2, d3] => { results := [.lit (.bool true)], args := [d1, d2, d3] }
  | _ => none }
def sealMarksRow : OpenClaim := { program := "ytkbpoolplfhkhaa", sum := "74c90e072dba4c66cf8d709b17b8600763567760752469889c753ed3b590cbaf", func := "largesse/largesselaw31.SealMarks", spec := "sealMarks", inPlace := ["internal/bytealg.MakeNoZero"], unfollowed := true, recurses := true, apart := false }
def SealMarksSaid : Prop := sealMarksRow.holds Try.pinned (OpenSpec.ofChange sealMarksSpec)

/-- ITS FALSE NEIGHBOUR: 'it returns false'. Refute it at one input. -/
def sealMarksWrong : ChangeSpec := { name := "sealMarks", fn := fun _ => fun
  | [d1, d2, d3] => { results := [.lit (.bool false)], args := [d1, d2, d3] }
  | _ => none }
def SealMarksWrongFalsely : Prop := sealMarksRow.holds Try.pinned (OpenSpec.ofChange sealMarksWrong)

/-- 'largesselaw31.SealDerives': WHATEVER THE INPUT: true; the input reads as it did. -/
def sealDerivesSpec : ChangeSpec := { name := "sealDerives", fn := fun _ => fun
  | [d1, d2, d3] => { results := [.lit (.bool true)], args := [d1, d2, d3] }
  | _ => none }
def sealDerivesRow : OpenClaim := { program := "ytkbpoolplfhkhaa", sum := "74c90e072dba4c66cf8d709b17b8600763567760752469889c753ed3b590cbaf", func := "largesse/largesselaw31.SealDerives", spec := "sealDerives", inPlace := ["internal/bytealg.MakeNoZero"], unfollowed := true, recurses := true, apart := false }
def SealDerivesSaid : Prop := sealDerivesRow.holds Try.pinned (OpenSpec.ofChange sealDerivesSpec)

/-- ITS FALSE NEIGHBOUR: 'it returns false'. Refute it at one input. -/
def sealDerivesWrong : ChangeSpec := { name := "sealDerives", fn := fun _ => fun
  | [d1, d2, d3] => { results := [.lit (.bool false)], args := [d1, d2, d3] }
  | _ => none }
def SealDerivesWrongFalsely : Prop := sealDerivesRow.holds Try.pinned (OpenSpec.ofChange sealDerivesWrong)

/-- 'largesselaw31.SealSeals': WHATEVER THE INPUT: true; the input reads as it did. -/
def sealSealsSpec : ChangeSpec := { name := "sealSeals", fn := fun _ => fun
  | [d1, d2, d3, d4] => { results := [.lit (.bool true)], args := [d1, d2, d3, d4] }
  | _ => none }
def sealSealsRow : OpenClaim := { program := "ytkbpoolplfhkhaa", sum := "74c90e072dba4c66cf8d709b17b8600763567760752469889c753ed3b590cbaf", func := "largesse/largesselaw31.SealSeals", spec := "sealSeals", inPlace := ["internal/bytealg.MakeNoZero"], unfollowed := true, recurses := true, apart := false }
def SealSealsSaid : Prop := sealSealsRow.holds Try.pinned (OpenSpec.ofChange sealSealsSpec)

/-- ITS FALSE NEIGHBOUR: 'it returns false'. Refute it at one input. -/
def sealSealsWrong : ChangeSpec := { name := "sealSeals", fn := fun _ => fun
  | [d1, d2, d3, d4] => { results := [.lit (.bool false)], args := [d1, d2, d3, d4] }
  | _ => none }
def SealSealsWrongFalsely : Prop := sealSealsRow.holds Try.pinned (OpenSpec.ofChange sealSealsWrong)

/-- 'largesselaw31.SealOpens': WHATEVER THE INPUT: true; the input reads as it did. -/
def sealOpensSpec : ChangeSpec := { name := "sealOpens", fn := fun _ => fun
  | [d1, d2, d3, d4, d5] => { results := [.lit (.bool true)], args := [d1, d2, d3, d4, d5] }
  | _ => none }
def sealOpensRow : OpenClaim := { program := "ytkbpoolplfhkhaa", sum := "74c90e072dba4c66cf8d709b17b8600763567760752469889c753ed3b590cbaf", func := "largesse/largesselaw31.SealOpens", spec := "sealOpens", inPlace := ["internal/bytealg.MakeNoZero"], unfollowed := true, recurses := true, apart := false }
def SealOpensSaid : Prop := sealOpensRow.holds Try.pinned (OpenSpec.ofChange sealOpensSpec)

/-- ITS FALSE NEIGHBOUR: 'it returns false'. Refute it at one input. -/
def sealOpensWrong : ChangeSpec := { name := "sealOpens", fn := fun _ => fun
  | [d1, d2, d3, d4, d5] => { results := [.lit (.bool false)], args := [d1, d2, d3, d4, d5] }
  | _ => none }
def SealOpensWrongFalsely : Prop := sealOpensRow.holds Try.pinned (OpenSpec.ofChange sealOpensWrong)

/- THE SECOND FORM. 'bulk': how many values and letters a reading holds, each counted each time it is reached (what is shared counts as often as it is met; a slice's spare places count too). A statement '..UptoSaid' is the law's where the arguments, and the package variables that the reading takes, are together of bulk at most 1048576: NARROWER than '..Said'. Prove '..Said' where nothing that the law and all that it calls make is longer than what came in: it says more and counts as full. Else prove '..UptoSaid'. A law counts once. -/
mutual
def uptoBulk {H : Type} : DataW H → Nat
  | .lit (.string bytes) => bytes.length + 1
  | .lit _ => 1
  | .nil => 1
  | .ptr d => uptoBulk d + 1
  | .slice elems spare => uptoBulkAll elems + uptoBulkAll spare + 1
  | .agg parts => uptoBulkAll parts + 1
  | .iface _ d => uptoBulk d + 1
  | .map entries => uptoBulkEntries entries + 1
  | .held _ => 1
def uptoBulkAll {H : Type} : List (DataW H) → Nat
  | [] => 0
  | d :: r => uptoBulk d + uptoBulkAll r
def uptoBulkEntries {H : Type} : List (Lit × DataW H) → Nat
  | [] => 0
  | x :: r => uptoBulkEntry x + uptoBulkEntries r
def uptoBulkEntry {H : Type} : Lit × DataW H → Nat
  | (.string bytes, d) => bytes.length + uptoBulk d + 1
  | (_, d) => uptoBulk d + 1
 end
def uptoSmall : (H : Type) → List (DataW H) → Bool := fun _ ds => decide (uptoBulkAll ds ≤ 1048576)
def OpenSpec.upto (s : _root_.Go.ChangeSpec) : _root_.Go.OpenSpec := { _root_.Go.OpenSpec.ofChange s with cond := some uptoSmall }

/-- 'largesselaw05.CipherEncrypts', WHERE WHAT IT READS IS OF BULK AT MOST 1048576: true; the input reads as it did. -/
def cipherEncryptsUptoRow : OpenClaim := { program := "ytkbpoolplfhkhaa", sum := "74c90e072dba4c66cf8d709b17b8600763567760752469889c753ed3b590cbaf", func := "largesse/largesselaw05.CipherEncrypts", spec := "cipherEncrypts", unfollowed := true, recurses := true, apart := false, narrowed := true }
def CipherEncryptsUptoSaid : Prop := cipherEncryptsUptoRow.holds Try.pinned (OpenSpec.upto cipherEncryptsSpec)

/-- 'largesselaw05.CipherBack', WHERE WHAT IT READS IS OF BULK AT MOST 1048576: true; the input reads as it did. -/
def cipherBackUptoRow : OpenClaim := { program := "ytkbpoolplfhkhaa", sum := "74c90e072dba4c66cf8d709b17b8600763567760752469889c753ed3b590cbaf", func := "largesse/largesselaw05.CipherBack", spec := "cipherBack", unfollowed := true, recurses := true, apart := false, narrowed := true }
def CipherBackUptoSaid : Prop := cipherBackUptoRow.holds Try.pinned (OpenSpec.upto cipherBackSpec)

/-- 'largesselaw05.CipherForms', WHERE WHAT IT READS IS OF BULK AT MOST 1048576: true; the input reads as it did. -/
def cipherFormsUptoRow : OpenClaim := { program := "ytkbpoolplfhkhaa", sum := "74c90e072dba4c66cf8d709b17b8600763567760752469889c753ed3b590cbaf", func := "largesse/largesselaw05.CipherForms", spec := "cipherForms", unfollowed := true, recurses := true, apart := false, narrowed := true }
def CipherFormsUptoSaid : Prop := cipherFormsUptoRow.holds Try.pinned (OpenSpec.upto cipherFormsSpec)

/-- 'largesselaw06.StreamBytes', WHERE WHAT IT READS IS OF BULK AT MOST 1048576: true; the input reads as it did. -/
def streamBytesUptoRow : OpenClaim := { program := "ytkbpoolplfhkhaa", sum := "74c90e072dba4c66cf8d709b17b8600763567760752469889c753ed3b590cbaf", func := "largesse/largesselaw06.StreamBytes", spec := "streamBytes", unfollowed := true, recurses := true, apart := false, narrowed := true }
def StreamBytesUptoSaid : Prop := streamBytesUptoRow.holds Try.pinned (OpenSpec.upto streamBytesSpec)

/-- 'largesselaw06.StreamXors', WHERE WHAT IT READS IS OF BULK AT MOST 1048576: true; the input reads as it did. -/
def streamXorsUptoRow : OpenClaim := { program := "ytkbpoolplfhkhaa", sum := "74c90e072dba4c66cf8d709b17b8600763567760752469889c753ed3b590cbaf", func := "largesse/largesselaw06.StreamXors", spec := "streamXors", unfollowed := true, recurses := true, apart := false, narrowed := true }
def StreamXorsUptoSaid : Prop := streamXorsUptoRow.holds Try.pinned (OpenSpec.upto streamXorsSpec)

/-- 'largesselaw06.StreamParts', WHERE WHAT IT READS IS OF BULK AT MOST 1048576: true; the input reads as it did. -/
def streamPartsUptoRow : OpenClaim := { program := "ytkbpoolplfhkhaa", sum := "74c90e072dba4c66cf8d709b17b8600763567760752469889c753ed3b590cbaf", func := "largesse/largesselaw06.StreamParts", spec := "streamParts", unfollowed := true, recurses := true, apart := false, narrowed := true }
def StreamPartsUptoSaid : Prop := streamPartsUptoRow.holds Try.pinned (OpenSpec.upto streamPartsSpec)

/-- 'largesselaw11.AontWraps', WHERE WHAT IT READS IS OF BULK AT MOST 1048576: true; the input reads as it did. -/
def aontWrapsUptoRow : OpenClaim := { program := "ytkbpoolplfhkhaa", sum := "74c90e072dba4c66cf8d709b17b8600763567760752469889c753ed3b590cbaf", func := "largesse/largesselaw11.AontWraps", spec := "aontWraps", unfollowed := true, recurses := true, apart := false, narrowed := true }
def AontWrapsUptoSaid : Prop := aontWrapsUptoRow.holds Try.pinned (OpenSpec.upto aontWrapsSpec)

/-- 'largesselaw11.AontNothing', WHERE WHAT IT READS IS OF BULK AT MOST 1048576: true; the input reads as it did. -/
def aontNothingUptoRow : OpenClaim := { program := "ytkbpoolplfhkhaa", sum := "74c90e072dba4c66cf8d709b17b8600763567760752469889c753ed3b590cbaf", func := "largesse/largesselaw11.AontNothing", spec := "aontNothing", unfollowed := true, recurses := true, apart := false, narrowed := true }
def AontNothingUptoSaid : Prop := aontNothingUptoRow.holds Try.pinned (OpenSpec.upto aontNothingSpec)

/-- 'largesselaw31.SealMarks', WHERE WHAT IT READS IS OF BULK AT MOST 1048576: true; the input reads as it did. -/
def sealMarksUptoRow : OpenClaim := { program := "ytkbpoolplfhkhaa", sum := "74c90e072dba4c66cf8d709b17b8600763567760752469889c753ed3b590cbaf", func := "largesse/largesselaw31.SealMarks", spec := "sealMarks", inPlace := ["internal/bytealg.MakeNoZero"], unfollowed := true, recurses := true, apart := false, narrowed := true }
def SealMarksUptoSaid : Prop := sealMarksUptoRow.holds Try.pinned (OpenSpec.upto sealMarksSpec)

/-- 'largesselaw31.SealDerives', WHERE WHAT IT READS IS OF BULK AT MOST 1048576: true; the input reads as it did. -/
def sealDerivesUptoRow : OpenClaim := { program := "ytkbpoolplfhkhaa", sum := "74c90e072dba4c66cf8d709b17b8600763567760752469889c753ed3b590cbaf", func := "largesse/largesselaw31.SealDerives", spec := "sealDerives", inPlace := ["internal/bytealg.MakeNoZero"], unfollowed := true, recurses := true, apart := false, narrowed := true }
def SealDerivesUptoSaid : Prop := sealDerivesUptoRow.holds Try.pinned (OpenSpec.upto sealDerivesSpec)

/-- 'largesselaw31.SealSeals', WHERE WHAT IT READS IS OF BULK AT MOST 1048576: true; the input reads as it did. -/
def sealSealsUptoRow : OpenClaim := { program := "ytkbpoolplfhkhaa", sum := "74c90e072dba4c66cf8d709b17b8600763567760752469889c753ed3b590cbaf", func := "largesse/largesselaw31.SealSeals", spec := "sealSeals", inPlace := ["internal/bytealg.MakeNoZero"], unfollowed := true, recurses := true, apart := false, narrowed := true }
def SealSealsUptoSaid : Prop := sealSealsUptoRow.holds Try.pinned (OpenSpec.upto sealSealsSpec)

/-- 'largesselaw31.SealOpens', WHERE WHAT IT READS IS OF BULK AT MOST 1048576: true; the input reads as it did. -/
def sealOpensUptoRow : OpenClaim := { program := "ytkbpoolplfhkhaa", sum := "74c90e072dba4c66cf8d709b17b8600763567760752469889c753ed3b590cbaf", func := "largesse/largesselaw31.SealOpens", spec := "sealOpens", inPlace := ["internal/bytealg.MakeNoZero"], unfollowed := true, recurses := true, apart := false, narrowed := true }
def SealOpensUptoSaid : Prop := sealOpensUptoRow.holds Try.pinned (OpenSpec.upto sealOpensSpec)

end Rows
end Go.Proofs.Ytkbpoolplfhkhaa

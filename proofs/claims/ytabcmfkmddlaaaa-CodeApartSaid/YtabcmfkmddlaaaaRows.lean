/-
  No cell of these rows narrows 'for every input' (looked for: loops, veiled, ifaces, maps, wideKeys, modest, calm, conditions, laid).
  DERIVED. THE GIVEN ROWS OF THIS SEAT. 9 by the template 'for every input the law returns true; each argument reads behind the call as it read before'; 0 by the template 'total and deterministic' (their statements: YtabcmfkmddlaaaaTotals.lean).
  GIVEN WITH THE SEED: the statements are not yours to turn. If you find one false, say at which input.
  Laid BY PROGRAM, IN A SANDBOX (cutbox-rows.mjs): the forced cells as the released guide's own fill.sh prints them over the translation a958c8f532528ff6… (all of the seat's roots in one cut). By AI agents, Wed Nov 11 2026. No macro, syntax, notation, axiom, sorry.
-/
import Derived.Test.YtabcmfkmddlaaaaChecked
import GoSem.Claim
import GoSem.ClaimJoined
import GoSem.ClaimMapViews
import Derived.JoinedTies
import Derived.KernelRfl
namespace Go.Proofs.Ytabcmfkmddlaaaa
/- THE CELL 'sum', in the pinned program and in every row, IS THE sha256 OF THE DUMP (.gsa) THAT YtabcmfkmddlaaaaProg.lean LOADS. Nothing in Lean hashes anything: it is a label: what it is worth is what the hold of that sum in a sandbox is worth. -/
noncomputable def Try.pinned : Pinned := { name := "ytabcmfkmddlaaaa", sum := "a958c8f532528ff6cfe76c895e8b6c08e37cb7fe4f889190c63af1c42095c685", checked := Try.checked }
namespace Rows
def none {H : Type} : Left H := { results := [], args := [] }

/-- 'largesselaw08.ShamirAts': WHATEVER THE INPUT: true; the input reads as it did. -/
def shamirAtsSpec : ChangeSpec := { name := "shamirAts", fn := fun _ => fun
  | [d1, d2, d3] => { results := [.lit (.bool true)], args := [d1, d2, d3] }
  | _ => none }
def shamirAtsRow : OpenClaim := { program := "ytabcmfkmddlaaaa", sum := "a958c8f532528ff6cfe76c895e8b6c08e37cb7fe4f889190c63af1c42095c685", func := "largesse/largesselaw08.ShamirAts", spec := "shamirAts", unfollowed := true, recurses := true, apart := false }
def ShamirAtsSaid : Prop := shamirAtsRow.holds Try.pinned (OpenSpec.ofChange shamirAtsSpec)

/-- ITS FALSE NEIGHBOUR: 'it returns false'. Refute it at one input. -/
def shamirAtsWrong : ChangeSpec := { name := "shamirAts", fn := fun _ => fun
  | [d1, d2, d3] => { results := [.lit (.bool false)], args := [d1, d2, d3] }
  | _ => none }
def ShamirAtsWrongFalsely : Prop := shamirAtsRow.holds Try.pinned (OpenSpec.ofChange shamirAtsWrong)

/-- 'largesselaw08.ShamirSplits': WHATEVER THE INPUT: true; the input reads as it did. -/
def shamirSplitsSpec : ChangeSpec := { name := "shamirSplits", fn := fun _ => fun
  | [d1, d2, d3, d4, d5] => { results := [.lit (.bool true)], args := [d1, d2, d3, d4, d5] }
  | _ => none }
def shamirSplitsRow : OpenClaim := { program := "ytabcmfkmddlaaaa", sum := "a958c8f532528ff6cfe76c895e8b6c08e37cb7fe4f889190c63af1c42095c685", func := "largesse/largesselaw08.ShamirSplits", spec := "shamirSplits", unfollowed := true, recurses := true, apart := false }
def ShamirSplitsSaid : Prop := shamirSplitsRow.holds Try.pinned (OpenSpec.ofChange shamirSplitsSpec)

/-- ITS FALSE NEIGHBOUR: 'it returns false'. Refute it at one input. -/
def shamirSplitsWrong : ChangeSpec := { name := "shamirSplits", fn := fun _ => fun
  | [d1, d2, d3, d4, d5] => { results := [.lit (.bool false)], args := [d1, d2, d3, d4, d5] }
  | _ => none }
def ShamirSplitsWrongFalsely : Prop := shamirSplitsRow.holds Try.pinned (OpenSpec.ofChange shamirSplitsWrong)

/-- 'largesselaw08.ShamirAdds': WHATEVER THE INPUT: true; the input reads as it did. -/
def shamirAddsSpec : ChangeSpec := { name := "shamirAdds", fn := fun _ => fun
  | [d1, d2, d3, d4, d5, d6] => { results := [.lit (.bool true)], args := [d1, d2, d3, d4, d5, d6] }
  | _ => none }
def shamirAddsRow : OpenClaim := { program := "ytabcmfkmddlaaaa", sum := "a958c8f532528ff6cfe76c895e8b6c08e37cb7fe4f889190c63af1c42095c685", func := "largesse/largesselaw08.ShamirAdds", spec := "shamirAdds", unfollowed := true, recurses := true, apart := false }
def ShamirAddsSaid : Prop := shamirAddsRow.holds Try.pinned (OpenSpec.ofChange shamirAddsSpec)

/-- ITS FALSE NEIGHBOUR: 'it returns false'. Refute it at one input. -/
def shamirAddsWrong : ChangeSpec := { name := "shamirAdds", fn := fun _ => fun
  | [d1, d2, d3, d4, d5, d6] => { results := [.lit (.bool false)], args := [d1, d2, d3, d4, d5, d6] }
  | _ => none }
def ShamirAddsWrongFalsely : Prop := shamirAddsRow.holds Try.pinned (OpenSpec.ofChange shamirAddsWrong)

/-- 'largesselaw08.ShamirJoins': WHATEVER THE INPUT: true; the input reads as it did. -/
def shamirJoinsSpec : ChangeSpec := { name := "shamirJoins", fn := fun _ => fun
  | [d1, d2, d3, d4, d5, d6, d7] => { results := [.lit (.bool true)], args := [d1, d2, d3, d4, d5, d6, d7] }
  | _ => none }
def shamirJoinsRow : OpenClaim := { program := "ytabcmfkmddlaaaa", sum := "a958c8f532528ff6cfe76c895e8b6c08e37cb7fe4f889190c63af1c42095c685", func := "largesse/largesselaw08.ShamirJoins", spec := "shamirJoins", unfollowed := true, recurses := true, apart := false }
def ShamirJoinsSaid : Prop := shamirJoinsRow.holds Try.pinned (OpenSpec.ofChange shamirJoinsSpec)

/-- ITS FALSE NEIGHBOUR: 'it returns false'. Refute it at one input. -/
def shamirJoinsWrong : ChangeSpec := { name := "shamirJoins", fn := fun _ => fun
  | [d1, d2, d3, d4, d5, d6, d7] => { results := [.lit (.bool false)], args := [d1, d2, d3, d4, d5, d6, d7] }
  | _ => none }
def ShamirJoinsWrongFalsely : Prop := shamirJoinsRow.holds Try.pinned (OpenSpec.ofChange shamirJoinsWrong)

/-- 'largesselaw08.ShamirHides': WHATEVER THE INPUT: true; the input reads as it did. -/
def shamirHidesSpec : ChangeSpec := { name := "shamirHides", fn := fun _ => fun
  | [d1, d2, d3, d4, d5, d6] => { results := [.lit (.bool true)], args := [d1, d2, d3, d4, d5, d6] }
  | _ => none }
def shamirHidesRow : OpenClaim := { program := "ytabcmfkmddlaaaa", sum := "a958c8f532528ff6cfe76c895e8b6c08e37cb7fe4f889190c63af1c42095c685", func := "largesse/largesselaw08.ShamirHides", spec := "shamirHides", unfollowed := true, recurses := true, apart := false }
def ShamirHidesSaid : Prop := shamirHidesRow.holds Try.pinned (OpenSpec.ofChange shamirHidesSpec)

/-- ITS FALSE NEIGHBOUR: 'it returns false'. Refute it at one input. -/
def shamirHidesWrong : ChangeSpec := { name := "shamirHides", fn := fun _ => fun
  | [d1, d2, d3, d4, d5, d6] => { results := [.lit (.bool false)], args := [d1, d2, d3, d4, d5, d6] }
  | _ => none }
def ShamirHidesWrongFalsely : Prop := shamirHidesRow.holds Try.pinned (OpenSpec.ofChange shamirHidesWrong)

/-- 'largesselaw09.CodeApart': WHATEVER THE INPUT: true; the input reads as it did. -/
def codeApartSpec : ChangeSpec := { name := "codeApart", fn := fun _ => fun
  | [d1, d2, d3, d4] => { results := [.lit (.bool true)], args := [d1, d2, d3, d4] }
  | _ => none }
def codeApartRow : OpenClaim := { program := "ytabcmfkmddlaaaa", sum := "a958c8f532528ff6cfe76c895e8b6c08e37cb7fe4f889190c63af1c42095c685", func := "largesse/largesselaw09.CodeApart", spec := "codeApart", unfollowed := true, recurses := true, apart := false }
def CodeApartSaid : Prop := codeApartRow.holds Try.pinned (OpenSpec.ofChange codeApartSpec)

/-- ITS FALSE NEIGHBOUR: 'it returns false'. Refute it at one input. -/
def codeApartWrong : ChangeSpec := { name := "codeApart", fn := fun _ => fun
  | [d1, d2, d3, d4] => { results := [.lit (.bool false)], args := [d1, d2, d3, d4] }
  | _ => none }
def CodeApartWrongFalsely : Prop := codeApartRow.holds Try.pinned (OpenSpec.ofChange codeApartWrong)

/-- 'largesselaw09.CodeEncodes': WHATEVER THE INPUT: true; the input reads as it did. -/
def codeEncodesSpec : ChangeSpec := { name := "codeEncodes", fn := fun _ => fun
  | [d1, d2, d3] => { results := [.lit (.bool true)], args := [d1, d2, d3] }
  | _ => none }
def codeEncodesRow : OpenClaim := { program := "ytabcmfkmddlaaaa", sum := "a958c8f532528ff6cfe76c895e8b6c08e37cb7fe4f889190c63af1c42095c685", func := "largesse/largesselaw09.CodeEncodes", spec := "codeEncodes", unfollowed := true, recurses := true, apart := false }
def CodeEncodesSaid : Prop := codeEncodesRow.holds Try.pinned (OpenSpec.ofChange codeEncodesSpec)

/-- ITS FALSE NEIGHBOUR: 'it returns false'. Refute it at one input. -/
def codeEncodesWrong : ChangeSpec := { name := "codeEncodes", fn := fun _ => fun
  | [d1, d2, d3] => { results := [.lit (.bool false)], args := [d1, d2, d3] }
  | _ => none }
def CodeEncodesWrongFalsely : Prop := codeEncodesRow.holds Try.pinned (OpenSpec.ofChange codeEncodesWrong)

/-- 'largesselaw09.CodeDecodes': WHATEVER THE INPUT: true; the input reads as it did. -/
def codeDecodesSpec : ChangeSpec := { name := "codeDecodes", fn := fun _ => fun
  | [d1, d2, d3] => { results := [.lit (.bool true)], args := [d1, d2, d3] }
  | _ => none }
def codeDecodesRow : OpenClaim := { program := "ytabcmfkmddlaaaa", sum := "a958c8f532528ff6cfe76c895e8b6c08e37cb7fe4f889190c63af1c42095c685", func := "largesse/largesselaw09.CodeDecodes", spec := "codeDecodes", unfollowed := true, recurses := true, apart := false }
def CodeDecodesSaid : Prop := codeDecodesRow.holds Try.pinned (OpenSpec.ofChange codeDecodesSpec)

/-- ITS FALSE NEIGHBOUR: 'it returns false'. Refute it at one input. -/
def codeDecodesWrong : ChangeSpec := { name := "codeDecodes", fn := fun _ => fun
  | [d1, d2, d3] => { results := [.lit (.bool false)], args := [d1, d2, d3] }
  | _ => none }
def CodeDecodesWrongFalsely : Prop := codeDecodesRow.holds Try.pinned (OpenSpec.ofChange codeDecodesWrong)

/-- 'largesselaw09.CodeCuts': WHATEVER THE INPUT: true; the input reads as it did. -/
def codeCutsSpec : ChangeSpec := { name := "codeCuts", fn := fun _ => fun
  | [d1, d2, d3] => { results := [.lit (.bool true)], args := [d1, d2, d3] }
  | _ => none }
def codeCutsRow : OpenClaim := { program := "ytabcmfkmddlaaaa", sum := "a958c8f532528ff6cfe76c895e8b6c08e37cb7fe4f889190c63af1c42095c685", func := "largesse/largesselaw09.CodeCuts", spec := "codeCuts", unfollowed := true, recurses := true, apart := false }
def CodeCutsSaid : Prop := codeCutsRow.holds Try.pinned (OpenSpec.ofChange codeCutsSpec)

/-- ITS FALSE NEIGHBOUR: 'it returns false'. Refute it at one input. -/
def codeCutsWrong : ChangeSpec := { name := "codeCuts", fn := fun _ => fun
  | [d1, d2, d3] => { results := [.lit (.bool false)], args := [d1, d2, d3] }
  | _ => none }
def CodeCutsWrongFalsely : Prop := codeCutsRow.holds Try.pinned (OpenSpec.ofChange codeCutsWrong)

/- THE SECOND FORM. 'bulk': how many values and letters a reading holds, each counted each time it is reached (what is shared counts as often as it is met; a slice's spare places count too). A statement '..UptoSaid' is the law's where the arguments, and the package variables that the reading takes, are together of bulk at most 1048576: NARROWER than '..Said'. Prove '..Said' where nothing that the law and all that it calls make is longer than what came in: it says more and counts as full. Else prove '..UptoSaid'. A law counts once. -/
mutual
def uptoBulk {H : Type} : DataW H → Nat
  | .lit (.string bytes) => bytes.length + 1
  | .lit _ => 1
  | .nil => 1
  | .ptr d => uptoBulk d + 1
  | .slice elems spare => uptoBulkAll elems + uptoBulkAll spare + 1
  | .agg parts => uptoBulkAll parts + 1
  | .iface _ d => uptoBulk d + 1
  | .map entries => uptoBulkEntries entries + 1
  | .held _ => 1
def uptoBulkAll {H : Type} : List (DataW H) → Nat
  | [] => 0
  | d :: r => uptoBulk d + uptoBulkAll r
def uptoBulkEntries {H : Type} : List (Lit × DataW H) → Nat
  | [] => 0
  | x :: r => uptoBulkEntry x + uptoBulkEntries r
def uptoBulkEntry {H : Type} : Lit × DataW H → Nat
  | (.string bytes, d) => bytes.length + uptoBulk d + 1
  | (_, d) => uptoBulk d + 1
 end
def uptoSmall : (H : Type) → List (DataW H) → Bool := fun _ ds => decide (uptoBulkAll ds ≤ 1048576)
def OpenSpec.upto (s : _root_.Go.ChangeSpec) : _root_.Go.OpenSpec := { _root_.Go.OpenSpec.ofChange s with cond := some uptoSmall }

/-- 'largesselaw08.ShamirAts', WHERE WHAT IT READS IS OF BULK AT MOST 1048576: true; the input reads as it did. -/
def shamirAtsUptoRow : OpenClaim := { program := "ytabcmfkmddlaaaa", sum := "a958c8f532528ff6cfe76c895e8b6c08e37cb7fe4f889190c63af1c42095c685", func := "largesse/largesselaw08.ShamirAts", spec := "shamirAts", unfollowed := true, recurses := true, apart := false, narrowed := true }
def ShamirAtsUptoSaid : Prop := shamirAtsUptoRow.holds Try.pinned (OpenSpec.upto shamirAtsSpec)

/-- 'largesselaw08.ShamirSplits', WHERE WHAT IT READS IS OF BULK AT MOST 1048576: true; the input reads as it did. -/
def shamirSplitsUptoRow : OpenClaim := { program := "ytabcmfkmddlaaaa", sum := "a958c8f532528ff6cfe76c895e8b6c08e37cb7fe4f889190c63af1c42095c685", func := "largesse/largesselaw08.ShamirSplits", spec := "shamirSplits", unfollowed := true, recurses := true, apart := false, narrowed := true }
def ShamirSplitsUptoSaid : Prop := shamirSplitsUptoRow.holds Try.pinned (OpenSpec.upto shamirSplitsSpec)

/-- 'largesselaw08.ShamirAdds', WHERE WHAT IT READS IS OF BULK AT MOST 1048576: true; the input reads as it did. -/
def shamirAddsUptoRow : OpenClaim := { program := "ytabcmfkmddlaaaa", sum := "a958c8f532528ff6cfe76c895e8b6c08e37cb7fe4f889190c63af1c42095c685", func := "largesse/largesselaw08.ShamirAdds", spec := "shamirAdds", unfollowed := true, recurses := true, apart := false, narrowed := true }
def ShamirAddsUptoSaid : Prop := shamirAddsUptoRow.holds Try.pinned (OpenSpec.upto shamirAddsSpec)

/-- 'largesselaw08.ShamirJoins', WHERE WHAT IT READS IS OF BULK AT MOST 1048576: true; the input reads as it did. -/
def shamirJoinsUptoRow : OpenClaim := { program := "ytabcmfkmddlaaaa", sum := "a958c8f532528ff6cfe76c895e8b6c08e37cb7fe4f889190c63af1c42095c685", func := "largesse/largesselaw08.ShamirJoins", spec := "shamirJoins", unfollowed := true, recurses := true, apart := false, narrowed := true }
def ShamirJoinsUptoSaid : Prop := shamirJoinsUptoRow.holds Try.pinned (OpenSpec.upto shamirJoinsSpec)

/-- 'largesselaw08.ShamirHides', WHERE WHAT IT READS IS OF BULK AT MOST 1048576: true; the input reads as it did. -/
def shamirHidesUptoRow : OpenClaim := { program := "ytabcmfkmddlaaaa", sum := "a958c8f532528ff6cfe76c895e8b6c08e37cb7fe4f889190c63af1c42095c685", func := "largesse/largesselaw08.ShamirHides", spec := "shamirHides", unfollowed := true, recurses := true, apart := false, narrowed := true }
def ShamirHidesUptoSaid : Prop := shamirHidesUptoRow.holds Try.pinned (OpenSpec.upto shamirHidesSpec)

/-- 'largesselaw09.CodeApart', WHERE WHAT IT READS IS OF BULK AT MOST 1048576: true; the input reads as it did. -/
def codeApartUptoRow : OpenClaim := { program := "ytabcmfkmddlaaaa", sum := "a958c8f532528ff6cfe76c895e8b6c08e37cb7fe4f889190c63af1c42095c685", func := "largesse/largesselaw09.CodeApart", spec := "codeApart", unfollowed := true, recurses := true, apart := false, narrowed := true }
def CodeApartUptoSaid : Prop := codeApartUptoRow.holds Try.pinned (OpenSpec.upto codeApartSpec)

/-- 'largesselaw09.CodeEncodes', WHERE WHAT IT READS IS OF BULK AT MOST 1048576: true; the input reads as it did. -/
def codeEncodesUptoRow : OpenClaim := { program := "ytabcmfkmddlaaaa", sum := "a958c8f532528ff6cfe76c895e8b6c08e37cb7fe4f889190c63af1c42095c685", func := "largesse/largesselaw09.CodeEncodes", spec := "codeEncodes", unfollowed := true, recurses := true, apart := false, narrowed := true }
def CodeEncodesUptoSaid : Prop := codeEncodesUptoRow.holds Try.pinned (OpenSpec.upto codeEncodesSpec)

/-- 'largesselaw09.CodeDecodes', WHERE WHAT IT READS IS OF BULK AT MOST 1048576: true; the input reads as it did. -/
def codeDecodesUptoRow : OpenClaim := { program := "ytabcmfkmddlaaaa", sum := "a958c8f532528ff6cfe76c895e8b6c08e37cb7fe4f889190c63af1c42095c685", func := "largesse/largesselaw09.CodeDecodes", spec := "codeDecodes", unfollowed := true, recurses := true, apart := false, narrowed := true }
def CodeDecodesUptoSaid : Prop := codeDecodesUptoRow.holds Try.pinned (OpenSpec.upto codeDecodesSpec)

/-- 'largesselaw09.CodeCuts', WHERE WHAT IT READS IS OF BULK AT MOST 1048576: true; the input reads as it did. -/
def codeCutsUptoRow : OpenClaim := { program := "ytabcmfkmddlaaaa", sum := "a958c8f532528ff6cfe76c895e8b6c08e37cb7fe4f889190c63af1c42095c685", func := "largesse/largesselaw09.CodeCuts", spec := "codeCuts", unfollowed := true, recurses := true, apart := false, narrowed := true }
def CodeCutsUptoSaid : Prop := codeCutsUptoRow.holds Try.pinned (OpenSpec.upto codeCutsSpec)

end Rows
end Go.Proofs.Ytabcmfkmddlaaaa

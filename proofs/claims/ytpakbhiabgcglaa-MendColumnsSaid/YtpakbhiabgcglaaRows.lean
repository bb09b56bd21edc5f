/-
  No cell of these rows narrows 'for every input' (looked for: loops, veiled, ifaces, maps, wideKeys, modest, calm, conditions, laid).
  DERIVED. THE GIVEN ROWS OF THIS SEAT. 7 by the template 'for every input the law returns true; each argument reads behind the call as it read before'; 0 by the template 'total and deterministic' (their statements: YtpakbhiabgcglaaTotals.lean).
  GIVEN WITH THE SEED: the statements are not yours to turn. If you find one false, say at which input.
  Laid BY PROGRAM, IN A SANDBOX (cutbox-rows.mjs): the forced cells as the released guide's own fill.sh prints them over the translation 6c964949da297a08… (all of the seat's roots in one cut). By AI agents, Wed Nov 11 2026. No macro, syntax, notation, axiom, sorry.
-/
import Derived.Test.YtpakbhiabgcglaaChecked
import GoSem.Claim
import GoSem.ClaimJoined
import GoSem.ClaimMapViews
import Derived.JoinedTies
import Derived.KernelRfl
namespace Go.Proofs.Ytpakbhiabgcglaa
/- THE CELL 'sum', in the pinned program and in every row, IS THE sha256 OF THE DUMP (.gsa) THAT YtpakbhiabgcglaaProg.lean LOADS. Nothing in Lean hashes anything: it is a label: what it is worth is what the hold of that sum in a sandbox is worth. -/
noncomputable def Try.pinned : Pinned := { name := "ytpakbhiabgcglaa", sum := "6c964949da297a0833a9e48b98bb5f598180abade3b35bfbf4b9d740f95d6360", checked := Try.checked }
namespace Rows
def none {H : Type} : Left H := { results := [], args := [] }

/-- 'largesselaw10.MendColumns': WHATEVER THE INPUT: true; the input reads as it did. -/
def mendColumnsSpec : ChangeSpec := { name := "mendColumns", fn := fun _ => fun
  | [d1, d2, d3, d4] => { results := [.lit (.bool true)], args := [d1, d2, d3, d4] }
  | _ => none }
def mendColumnsRow : OpenClaim := { program := "ytpakbhiabgcglaa", sum := "6c964949da297a0833a9e48b98bb5f598180abade3b35bfbf4b9d740f95d6360", func := "largesse/largesselaw10.MendColumns", spec := "mendColumns", unfollowed := true, recurses := true, apart := false }
def MendColumnsSaid : Prop := mendColumnsRow.holds Try.pinned (OpenSpec.ofChange mendColumnsSpec)

/-- ITS FALSE NEIGHBOUR: 'it returns false'. Refute it at one input. -/
def mendColumnsWrong : ChangeSpec := { name := "mendColumns", fn := fun _ => fun
  | [d1, d2, d3, d4] => { results := [.lit (.bool false)], args := [d1, d2, d3, d4] }
  | _ => none }
def MendColumnsWrongFalsely : Prop := mendColumnsRow.holds Try.pinned (OpenSpec.ofChange mendColumnsWrong)

/-- 'largesselaw10.MendCorrects': WHATEVER THE INPUT: true; the input reads as it did. -/
def mendCorrectsSpec : ChangeSpec := { name := "mendCorrects", fn := fun _ => fun
  | [d1, d2, d3, d4, d5, d6, d7] => { results := [.lit (.bool true)], args := [d1, d2, d3, d4, d5, d6, d7] }
  | _ => none }
def mendCorrectsRow : OpenClaim := { program := "ytpakbhiabgcglaa", sum := "6c964949da297a0833a9e48b98bb5f598180abade3b35bfbf4b9d740f95d6360", func := "largesse/largesselaw10.MendCorrects", spec := "mendCorrects", unfollowed := true, recurses := true, apart := false }
def MendCorrectsSaid : Prop := mendCorrectsRow.holds Try.pinned (OpenSpec.ofChange mendCorrectsSpec)

/-- ITS FALSE NEIGHBOUR: 'it returns false'. Refute it at one input. -/
def mendCorrectsWrong : ChangeSpec := { name := "mendCorrects", fn := fun _ => fun
  | [d1, d2, d3, d4, d5, d6, d7] => { results := [.lit (.bool false)], args := [d1, d2, d3, d4, d5, d6, d7] }
  | _ => none }
def MendCorrectsWrongFalsely : Prop := mendCorrectsRow.holds Try.pinned (OpenSpec.ofChange mendCorrectsWrong)

/-- 'largesselaw10.MendRows': WHATEVER THE INPUT: true; the input reads as it did. -/
def mendRowsSpec : ChangeSpec := { name := "mendRows", fn := fun _ => fun
  | [d1, d2, d3, d4, d5] => { results := [.lit (.bool true)], args := [d1, d2, d3, d4, d5] }
  | _ => none }
def mendRowsRow : OpenClaim := { program := "ytpakbhiabgcglaa", sum := "6c964949da297a0833a9e48b98bb5f598180abade3b35bfbf4b9d740f95d6360", func := "largesse/largesselaw10.MendRows", spec := "mendRows", unfollowed := true, recurses := true, apart := false }
def MendRowsSaid : Prop := mendRowsRow.holds Try.pinned (OpenSpec.ofChange mendRowsSpec)

/-- ITS FALSE NEIGHBOUR: 'it returns false'. Refute it at one input. -/
def mendRowsWrong : ChangeSpec := { name := "mendRows", fn := fun _ => fun
  | [d1, d2, d3, d4, d5] => { results := [.lit (.bool false)], args := [d1, d2, d3, d4, d5] }
  | _ => none }
def MendRowsWrongFalsely : Prop := mendRowsRow.holds Try.pinned (OpenSpec.ofChange mendRowsWrong)

/-- 'largesselaw30.SyndromeTells': WHATEVER THE INPUT: true; the input reads as it did. -/
def syndromeTellsSpec : ChangeSpec := { name := "syndromeTells", fn := fun _ => fun
  | [d1, d2, d3] => { results := [.lit (.bool true)], args := [d1, d2, d3] }
  | _ => none }
def syndromeTellsRow : OpenClaim := { program := "ytpakbhiabgcglaa", sum := "6c964949da297a0833a9e48b98bb5f598180abade3b35bfbf4b9d740f95d6360", func := "largesse/largesselaw30.SyndromeTells", spec := "syndromeTells", unfollowed := true, recurses := true, apart := false }
def SyndromeTellsSaid : Prop := syndromeTellsRow.holds Try.pinned (OpenSpec.ofChange syndromeTellsSpec)

/-- ITS FALSE NEIGHBOUR: 'it returns false'. Refute it at one input. -/
def syndromeTellsWrong : ChangeSpec := { name := "syndromeTells", fn := fun _ => fun
  | [d1, d2, d3] => { results := [.lit (.bool false)], args := [d1, d2, d3] }
  | _ => none }
def SyndromeTellsWrongFalsely : Prop := syndromeTellsRow.holds Try.pinned (OpenSpec.ofChange syndromeTellsWrong)

/-- 'largesselaw30.SyndromeFinds': WHATEVER THE INPUT: true; the input reads as it did. -/
def syndromeFindsSpec : ChangeSpec := { name := "syndromeFinds", fn := fun _ => fun
  | [d1, d2, d3, d4, d5, d6] => { results := [.lit (.bool true)], args := [d1, d2, d3, d4, d5, d6] }
  | _ => none }
def syndromeFindsRow : OpenClaim := { program := "ytpakbhiabgcglaa", sum := "6c964949da297a0833a9e48b98bb5f598180abade3b35bfbf4b9d740f95d6360", func := "largesse/largesselaw30.SyndromeFinds", spec := "syndromeFinds", unfollowed := true, recurses := true, apart := false }
def SyndromeFindsSaid : Prop := syndromeFindsRow.holds Try.pinned (OpenSpec.ofChange syndromeFindsSpec)

/-- ITS FALSE NEIGHBOUR: 'it returns false'. Refute it at one input. -/
def syndromeFindsWrong : ChangeSpec := { name := "syndromeFinds", fn := fun _ => fun
  | [d1, d2, d3, d4, d5, d6] => { results := [.lit (.bool false)], args := [d1, d2, d3, d4, d5, d6] }
  | _ => none }
def SyndromeFindsWrongFalsely : Prop := syndromeFindsRow.holds Try.pinned (OpenSpec.ofChange syndromeFindsWrong)

/-- 'largesselaw30.SyndromeAdds': WHATEVER THE INPUT: true; the input reads as it did. -/
def syndromeAddsSpec : ChangeSpec := { name := "syndromeAdds", fn := fun _ => fun
  | [d1, d2, d3, d4] => { results := [.lit (.bool true)], args := [d1, d2, d3, d4] }
  | _ => none }
def syndromeAddsRow : OpenClaim := { program := "ytpakbhiabgcglaa", sum := "6c964949da297a0833a9e48b98bb5f598180abade3b35bfbf4b9d740f95d6360", func := "largesse/largesselaw30.SyndromeAdds", spec := "syndromeAdds", unfollowed := true, recurses := true, apart := false }
def SyndromeAddsSaid : Prop := syndromeAddsRow.holds Try.pinned (OpenSpec.ofChange syndromeAddsSpec)

/-- ITS FALSE NEIGHBOUR: 'it returns false'. Refute it at one input. -/
def syndromeAddsWrong : ChangeSpec := { name := "syndromeAdds", fn := fun _ => fun
  | [d1, d2, d3, d4] => { results := [.lit (.bool false)], args := [d1, d2, d3, d4] }
  | _ => none }
def SyndromeAddsWrongFalsely : Prop := syndromeAddsRow.holds Try.pinned (OpenSpec.ofChange syndromeAddsWrong)

/-- 'largesselaw30.SyndromeCorrects': WHATEVER THE INPUT: true; the input reads as it did. -/
def syndromeCorrectsSpec : ChangeSpec := { name := "syndromeCorrects", fn := fun _ => fun
  | [d1, d2, d3] => { results := [.lit (.bool true)], args := [d1, d2, d3] }
  | _ => none }
def syndromeCorrectsRow : OpenClaim := { program := "ytpakbhiabgcglaa", sum := "6c964949da297a0833a9e48b98bb5f598180abade3b35bfbf4b9d740f95d6360", func := "largesse/largesselaw30.SyndromeCorrects", spec := "syndromeCorrects", unfollowed := true, recurses := true, apart := false }
def SyndromeCorrectsSaid : Prop := syndromeCorrectsRow.holds Try.pinned (OpenSpec.ofChange syndromeCorrectsSpec)

/-- ITS FALSE NEIGHBOUR: 'it returns false'. Refute it at one input. -/
def syndromeCorrectsWrong : ChangeSpec := { name := "syndromeCorrects", fn := fun _ => fun
  | [d1, d2, d3] => { results := [.lit (.bool false)], args := [d1, d2, d3] }
  | _ => none }
def SyndromeCorrectsWrongFalsely : Prop := syndromeCorrectsRow.holds Try.pinned (OpenSpec.ofChange syndromeCorrectsWrong)

/- THE SECOND FORM. 'bulk': how many values and letters a reading holds, each counted each time it is reached (what is shared counts as often as it is met; a slice's spare places count too). A statement '..UptoSaid' is the law's where the arguments, and the package variables that the reading takes, are together of bulk at most 1048576: NARROWER than '..Said'. Prove '..Said' where nothing that the law and all that it calls make is longer than what came in: it says more and counts as full. Else prove '..UptoSaid'. A law counts once. -/
mutual
def uptoBulk {H : Type} : DataW H → Nat
  | .lit (.string bytes) => bytes.length + 1
  | .lit _ => 1
  | .nil => 1
  | .ptr d => uptoBulk d + 1
  | .slice elems spare => uptoBulkAll elems + uptoBulkAll spare + 1
  | .agg parts => uptoBulkAll parts + 1
  | .iface _ d => uptoBulk d + 1
  | .map entries => uptoBulkEntries entries + 1
  | .held _ => 1
def uptoBulkAll {H : Type} : List (DataW H) → Nat
  | [] => 0
  | d :: r => uptoBulk d + uptoBulkAll r
def uptoBulkEntries {H : Type} : List (Lit × DataW H) → Nat
  | [] => 0
  | x :: r => uptoBulkEntry x + uptoBulkEntries r
def uptoBulkEntry {H : Type} : Lit × DataW H → Nat
  | (.string bytes, d) => bytes.length + uptoBulk d + 1
  | (_, d) => uptoBulk d + 1
 end
def uptoSmall : (H : Type) → List (DataW H) → Bool := fun _ ds => decide (uptoBulkAll ds ≤ 1048576)
def OpenSpec.upto (s : _root_.Go.ChangeSpec) : _root_.Go.OpenSpec := { _root_.Go.OpenSpec.ofChange s with cond := some uptoSmall }

/-- 'largesselaw10.MendColumns', WHERE WHAT IT READS IS OF BULK AT MOST 1048576: true; the input reads as it did. -/
def mendColumnsUptoRow : OpenClaim := { program := "ytpakbhiabgcglaa", sum := "6c964949da297a0833a9e48b98bb5f598180abade3b35bfbf4b9d740f95d6360", func := "largesse/largesselaw10.MendColumns", spec := "mendColumns", unfollowed := true, recurses := true, apart := false, narrowed := true }
def MendColumnsUptoSaid : Prop := mendColumnsUptoRow.holds Try.pinned (OpenSpec.upto mendColumnsSpec)

/-- 'largesselaw10.MendCorrects', WHERE WHAT IT READS IS OF BULK AT MOST 1048576: true; the input reads as it did. -/
def mendCorrectsUptoRow : OpenClaim := { program := "ytpakbhiabgcglaa", sum := "6c964949da297a0833a9e48b98bb5f598180abade3b35bfbf4b9d740f95d6360", func := "largesse/largesselaw10.MendCorrects", spec := "mendCorrects", unfollowed := true, recurses := true, apart := false, narrowed := true }
def MendCorrectsUptoSaid : Prop := mendCorrectsUptoRow.holds Try.pinned (OpenSpec.upto mendCorrectsSpec)

/-- 'largesselaw10.MendRows', WHERE WHAT IT READS IS OF BULK AT MOST 1048576: true; the input reads as it did. -/
def mendRowsUptoRow : OpenClaim := { program := "ytpakbhiabgcglaa", sum := "6c964949da297a0833a9e48b98bb5f598180abade3b35bfbf4b9d740f95d6360", func := "largesse/largesselaw10.MendRows", spec := "mendRows", unfollowed := true, recurses := true, apart := false, narrowed := true }
def MendRowsUptoSaid : Prop := mendRowsUptoRow.holds Try.pinned (OpenSpec.upto mendRowsSpec)

/-- 'largesselaw30.SyndromeTells', WHERE WHAT IT READS IS OF BULK AT MOST 1048576: true; the input reads as it did. -/
def syndromeTellsUptoRow : OpenClaim := { program := "ytpakbhiabgcglaa", sum := "6c964949da297a0833a9e48b98bb5f598180abade3b35bfbf4b9d740f95d6360", func := "largesse/largesselaw30.SyndromeTells", spec := "syndromeTells", unfollowed := true, recurses := true, apart := false, narrowed := true }
def SyndromeTellsUptoSaid : Prop := syndromeTellsUptoRow.holds Try.pinned (OpenSpec.upto syndromeTellsSpec)

/-- 'largesselaw30.SyndromeFinds', WHERE WHAT IT READS IS OF BULK AT MOST 1048576: true; the input reads as it did. -/
def syndromeFindsUptoRow : OpenClaim := { program := "ytpakbhiabgcglaa", sum := "6c964949da297a0833a9e48b98bb5f598180abade3b35bfbf4b9d740f95d6360", func := "largesse/largesselaw30.SyndromeFinds", spec := "syndromeFinds", unfollowed := true, recurses := true, apart := false, narrowed := true }
def SyndromeFindsUptoSaid : Prop := syndromeFindsUptoRow.holds Try.pinned (OpenSpec.upto syndromeFindsSpec)

/-- 'largesselaw30.SyndromeAdds', WHERE WHAT IT READS IS OF BULK AT MOST 1048576: true; the input reads as it did. -/
def syndromeAddsUptoRow : OpenClaim := { program := "ytpakbhiabgcglaa", sum := "6c964949da297a0833a9e48b98bb5f598180abade3b35bfbf4b9d740f95d6360", func := "largesse/largesselaw30.SyndromeAdds", spec := "syndromeAdds", unfollowed := true, recurses := true, apart := false, narrowed := true }
def SyndromeAddsUptoSaid : Prop := syndromeAddsUptoRow.holds Try.pinned (OpenSpec.upto syndromeAddsSpec)

/-- 'largesselaw30.SyndromeCorrects', WHERE WHAT IT READS IS OF BULK AT MOST 1048576: true; the input reads as it did. -/
def syndromeCorrectsUptoRow : OpenClaim := { program := "ytpakbhiabgcglaa", sum := "6c964949da297a0833a9e48b98bb5f598180abade3b35bfbf4b9d740f95d6360", func := "largesse/largesselaw30.SyndromeCorrects", spec := "syndromeCorrects", unfollowed := true, recurses := true, apart := false, narrowed := true }
def SyndromeCorrectsUptoSaid : Prop := syndromeCorrectsUptoRow.holds Try.pinned (OpenSpec.upto syndromeCorrectsSpec)

end Rows
end Go.Proofs.Ytpakbhiabgcglaa

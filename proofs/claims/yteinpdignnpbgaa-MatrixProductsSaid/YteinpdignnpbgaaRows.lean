/-
  No cell of these rows narrows 'for every input' (looked for: loops, veiled, ifaces, maps, wideKeys, modest, calm, conditions, laid).
  DERIVED. THE GIVEN ROWS OF THIS SEAT. 14 by the template 'for every input the law returns true; each argument reads behind the call as it read before'; 0 by the template 'total and deterministic' (their statements: YteinpdignnpbgaaTotals.lean).
  GIVEN WITH THE SEED: the statements are not yours to turn. If you find one false, say at which input.
  Laid BY PROGRAM, IN A SANDBOX (cutbox-rows.mjs): the forced cells as the released guide's own fill.sh prints them over the translation ea7adf96f21518e7… (all of the seat's roots in one cut). By AI agents, Wed Nov 11 2026. No macro, syntax, notation, axiom, sorry.
-/
import Derived.Test.YteinpdignnpbgaaChecked
import GoSem.Claim
import GoSem.ClaimJoined
import GoSem.ClaimMapViews
import Derived.JoinedTies
import Derived.KernelRfl
namespace Go.Proofs.Yteinpdignnpbgaa
/- THE CELL 'sum', in the pinned program and in every row, IS THE sha256 OF THE DUMP (.gsa) THAT YteinpdignnpbgaaProg.lean LOADS. Nothing in Lean hashes anything: it is a label: what it is worth is what the hold of that sum in a sandbox is worth. -/
noncomputable def Try.pinned : Pinned := { name := "yteinpdignnpbgaa", sum := "ea7adf96f21518e7ef37d6006137f5c053c0b3101a7390a70b4ab213b1a7b9b9", checked := Try.checked }
namespace Rows
def none {H : Type} : Left H := { results := [], args := [] }

/-- 'largesselaw03.PolyRules': WHATEVER THE INPUT: true; the input reads as it did. -/
def polyRulesSpec : ChangeSpec := { name := "polyRules", fn := fun _ => fun
  | [d1, d2, d3, d4] => { results := [.lit (.bool true)], args := [d1, d2, d3, d4] }
  | _ => none }
def polyRulesRow : OpenClaim := { program := "yteinpdignnpbgaa", sum := "ea7adf96f21518e7ef37d6006137f5c053c0b3101a7390a70b4ab213b1a7b9b9", func := "largesse/largesselaw03.PolyRules", spec := "polyRules", unfollowed := true, recurses := true, apart := false }
def PolyRulesSaid : Prop := polyRulesRow.holds Try.pinned (OpenSpec.ofChange polyRulesSpec)

/-- ITS FALSE NEIGHBOUR: 'it returns false'. Refute it at one input. -/
def polyRulesWrong : ChangeSpec := { name := "polyRules", fn := fun _ => fun
  | [d1, d2, d3, d4] => { results := [.lit (.bool false)], args := [d1, d2, d3, d4] }
  | _ => none }
def PolyRulesWrongFalsely : Prop := polyRulesRow.holds Try.pinned (OpenSpec.ofChange polyRulesWrong)

/-- 'largesselaw03.PolySums': WHATEVER THE INPUT: true; the input reads as it did. -/
def polySumsSpec : ChangeSpec := { name := "polySums", fn := fun _ => fun
  | [d1, d2, d3] => { results := [.lit (.bool true)], args := [d1, d2, d3] }
  | _ => none }
def polySumsRow : OpenClaim := { program := "yteinpdignnpbgaa", sum := "ea7adf96f21518e7ef37d6006137f5c053c0b3101a7390a70b4ab213b1a7b9b9", func := "largesse/largesselaw03.PolySums", spec := "polySums", unfollowed := true, recurses := true, apart := false }
def PolySumsSaid : Prop := polySumsRow.holds Try.pinned (OpenSpec.ofChange polySumsSpec)

/-- ITS FALSE NEIGHBOUR: 'it returns false'. Refute it at one input. -/
def polySumsWrong : ChangeSpec := { name := "polySums", fn := fun _ => fun
  | [d1, d2, d3] => { results := [.lit (.bool false)], args := [d1, d2, d3] }
  | _ => none }
def PolySumsWrongFalsely : Prop := polySumsRow.holds Try.pinned (OpenSpec.ofChange polySumsWrong)

/-- 'largesselaw03.PolyDivides': WHATEVER THE INPUT: true; the input reads as it did. -/
def polyDividesSpec : ChangeSpec := { name := "polyDivides", fn := fun _ => fun
  | [d1, d2] => { results := [.lit (.bool true)], args := [d1, d2] }
  | _ => none }
def polyDividesRow : OpenClaim := { program := "yteinpdignnpbgaa", sum := "ea7adf96f21518e7ef37d6006137f5c053c0b3101a7390a70b4ab213b1a7b9b9", func := "largesse/largesselaw03.PolyDivides", spec := "polyDivides", unfollowed := true, recurses := true, apart := false }
def PolyDividesSaid : Prop := polyDividesRow.holds Try.pinned (OpenSpec.ofChange polyDividesSpec)

/-- ITS FALSE NEIGHBOUR: 'it returns false'. Refute it at one input. -/
def polyDividesWrong : ChangeSpec := { name := "polyDivides", fn := fun _ => fun
  | [d1, d2] => { results := [.lit (.bool false)], args := [d1, d2] }
  | _ => none }
def PolyDividesWrongFalsely : Prop := polyDividesRow.holds Try.pinned (OpenSpec.ofChange polyDividesWrong)

/-- 'largesselaw03.PolyVanish': WHATEVER THE INPUT: true; the input reads as it did. -/
def polyVanishSpec : ChangeSpec := { name := "polyVanish", fn := fun _ => fun
  | [d1, d2, d3] => { results := [.lit (.bool true)], args := [d1, d2, d3] }
  | _ => none }
def polyVanishRow : OpenClaim := { program := "yteinpdignnpbgaa", sum := "ea7adf96f21518e7ef37d6006137f5c053c0b3101a7390a70b4ab213b1a7b9b9", func := "largesse/largesselaw03.PolyVanish", spec := "polyVanish", unfollowed := true, recurses := true, apart := false }
def PolyVanishSaid : Prop := polyVanishRow.holds Try.pinned (OpenSpec.ofChange polyVanishSpec)

/-- ITS FALSE NEIGHBOUR: 'it returns false'. Refute it at one input. -/
def polyVanishWrong : ChangeSpec := { name := "polyVanish", fn := fun _ => fun
  | [d1, d2, d3] => { results := [.lit (.bool false)], args := [d1, d2, d3] }
  | _ => none }
def PolyVanishWrongFalsely : Prop := polyVanishRow.holds Try.pinned (OpenSpec.ofChange polyVanishWrong)

/-- 'largesselaw03.PolyThrough': WHATEVER THE INPUT: true; the input reads as it did. -/
def polyThroughSpec : ChangeSpec := { name := "polyThrough", fn := fun _ => fun
  | [d1, d2, d3] => { results := [.lit (.bool true)], args := [d1, d2, d3] }
  | _ => none }
def polyThroughRow : OpenClaim := { program := "yteinpdignnpbgaa", sum := "ea7adf96f21518e7ef37d6006137f5c053c0b3101a7390a70b4ab213b1a7b9b9", func := "largesse/largesselaw03.PolyThrough", spec := "polyThrough", unfollowed := true, recurses := true, apart := false }
def PolyThroughSaid : Prop := polyThroughRow.holds Try.pinned (OpenSpec.ofChange polyThroughSpec)

/-- ITS FALSE NEIGHBOUR: 'it returns false'. Refute it at one input. -/
def polyThroughWrong : ChangeSpec := { name := "polyThrough", fn := fun _ => fun
  | [d1, d2, d3] => { results := [.lit (.bool false)], args := [d1, d2, d3] }
  | _ => none }
def PolyThroughWrongFalsely : Prop := polyThroughRow.holds Try.pinned (OpenSpec.ofChange polyThroughWrong)

/-- 'largesselaw03.PolyLong': WHATEVER THE INPUT: true; the input reads as it did. -/
def polyLongSpec : ChangeSpec := { name := "polyLong", fn := fun _ => fun
  | [d1, d2] => { results := [.lit (.bool true)], args := [d1, d2] }
  | _ => none }
def polyLongRow : OpenClaim := { program := "yteinpdignnpbgaa", sum := "ea7adf96f21518e7ef37d6006137f5c053c0b3101a7390a70b4ab213b1a7b9b9", func := "largesse/largesselaw03.PolyLong", spec := "polyLong", unfollowed := true, recurses := true, apart := false }
def PolyLongSaid : Prop := polyLongRow.holds Try.pinned (OpenSpec.ofChange polyLongSpec)

/-- ITS FALSE NEIGHBOUR: 'it returns false'. Refute it at one input. -/
def polyLongWrong : ChangeSpec := { name := "polyLong", fn := fun _ => fun
  | [d1, d2] => { results := [.lit (.bool false)], args := [d1, d2] }
  | _ => none }
def PolyLongWrongFalsely : Prop := polyLongRow.holds Try.pinned (OpenSpec.ofChange polyLongWrong)

/-- 'largesselaw04.MatrixMakes': WHATEVER THE INPUT: true; the input reads as it did. -/
def matrixMakesSpec : ChangeSpec := { name := "matrixMakes", fn := fun _ => fun
  | [d1, d2] => { results := [.lit (.bool true)], args := [d1, d2] }
  | _ => none }
def matrixMakesRow : OpenClaim := { program := "yteinpdignnpbgaa", sum := "ea7adf96f21518e7ef37d6006137f5c053c0b3101a7390a70b4ab213b1a7b9b9", func := "largesse/largesselaw04.MatrixMakes", spec := "matrixMakes", unfollowed := true, recurses := true, apart := false }
def MatrixMakesSaid : Prop := matrixMakesRow.holds Try.pinned (OpenSpec.ofChange matrixMakesSpec)

/-- ITS FALSE NEIGHBOUR: 'it returns false'. Refute it at one input. -/
def matrixMakesWrong : ChangeSpec := { name := "matrixMakes", fn := fun _ => fun
  | [d1, d2] => { results := [.lit (.bool false)], args := [d1, d2] }
  | _ => none }
def MatrixMakesWrongFalsely : Prop := matrixMakesRow.holds Try.pinned (OpenSpec.ofChange matrixMakesWrong)

/-- 'largesselaw04.MatrixProducts': WHATEVER THE INPUT: true; the input reads as it did. -/
def matrixProductsSpec : ChangeSpec := { name := "matrixProducts", fn := fun _ => fun
  | [d1, d2, d3, d4, d5, d6] => { results := [.lit (.bool true)], args := [d1, d2, d3, d4, d5, d6] }
  | _ => none }
def matrixProductsRow : OpenClaim := { program := "yteinpdignnpbgaa", sum := "ea7adf96f21518e7ef37d6006137f5c053c0b3101a7390a70b4ab213b1a7b9b9", func := "largesse/largesselaw04.MatrixProducts", spec := "matrixProducts", apart := false }
def MatrixProductsSaid : Prop := matrixProductsRow.holds Try.pinned (OpenSpec.ofChange matrixProductsSpec)

/-- ITS FALSE NEIGHBOUR: 'it returns false'. Refute it at one input. -/
def matrixProductsWrong : ChangeSpec := { name := "matrixProducts", fn := fun _ => fun
  | [d1, d2, d3, d4, d5, d6] => { results := [.lit (.bool false)], args := [d1, d2, d3, d4, d5, d6] }
  | _ => none }
def MatrixProductsWrongFalsely : Prop := matrixProductsRow.holds Try.pinned (OpenSpec.ofChange matrixProductsWrong)

/-- 'largesselaw04.MatrixRules': WHATEVER THE INPUT: true; the input reads as it did. -/
def matrixRulesSpec : ChangeSpec := { name := "matrixRules", fn := fun _ => fun
  | [d1, d2, d3, d4, d5, d6] => { results := [.lit (.bool true)], args := [d1, d2, d3, d4, d5, d6] }
  | _ => none }
def matrixRulesRow : OpenClaim := { program := "yteinpdignnpbgaa", sum := "ea7adf96f21518e7ef37d6006137f5c053c0b3101a7390a70b4ab213b1a7b9b9", func := "largesse/largesselaw04.MatrixRules", spec := "matrixRules", unfollowed := true, recurses := true, apart := false }
def MatrixRulesSaid : Prop := matrixRulesRow.holds Try.pinned (OpenSpec.ofChange matrixRulesSpec)

/-- ITS FALSE NEIGHBOUR: 'it returns false'. Refute it at one input. -/
def matrixRulesWrong : ChangeSpec := { name := "matrixRules", fn := fun _ => fun
  | [d1, d2, d3, d4, d5, d6] => { results := [.lit (.bool false)], args := [d1, d2, d3, d4, d5, d6] }
  | _ => none }
def MatrixRulesWrongFalsely : Prop := matrixRulesRow.holds Try.pinned (OpenSpec.ofChange matrixRulesWrong)

/-- 'largesselaw04.MatrixSolves': WHATEVER THE INPUT: true; the input reads as it did. -/
def matrixSolvesSpec : ChangeSpec := { name := "matrixSolves", fn := fun _ => fun
  | [d1, d2, d3, d4] => { results := [.lit (.bool true)], args := [d1, d2, d3, d4] }
  | _ => none }
def matrixSolvesRow : OpenClaim := { program := "yteinpdignnpbgaa", sum := "ea7adf96f21518e7ef37d6006137f5c053c0b3101a7390a70b4ab213b1a7b9b9", func := "largesse/largesselaw04.MatrixSolves", spec := "matrixSolves", unfollowed := true, recurses := true, apart := false }
def MatrixSolvesSaid : Prop := matrixSolvesRow.holds Try.pinned (OpenSpec.ofChange matrixSolvesSpec)

/-- ITS FALSE NEIGHBOUR: 'it returns false'. Refute it at one input. -/
def matrixSolvesWrong : ChangeSpec := { name := "matrixSolves", fn := fun _ => fun
  | [d1, d2, d3, d4] => { results := [.lit (.bool false)], args := [d1, d2, d3, d4] }
  | _ => none }
def MatrixSolvesWrongFalsely : Prop := matrixSolvesRow.holds Try.pinned (OpenSpec.ofChange matrixSolvesWrong)

/-- 'largesselaw04.MatrixInverts': WHATEVER THE INPUT: true; the input reads as it did. -/
def matrixInvertsSpec : ChangeSpec := { name := "matrixInverts", fn := fun _ => fun
  | [d1, d2, d3] => { results := [.lit (.bool true)], args := [d1, d2, d3] }
  | _ => none }
def matrixInvertsRow : OpenClaim := { program := "yteinpdignnpbgaa", sum := "ea7adf96f21518e7ef37d6006137f5c053c0b3101a7390a70b4ab213b1a7b9b9", func := "largesse/largesselaw04.MatrixInverts", spec := "matrixInverts", unfollowed := true, recurses := true, apart := false }
def MatrixInvertsSaid : Prop := matrixInvertsRow.holds Try.pinned (OpenSpec.ofChange matrixInvertsSpec)

/-- ITS FALSE NEIGHBOUR: 'it returns false'. Refute it at one input. -/
def matrixInvertsWrong : ChangeSpec := { name := "matrixInverts", fn := fun _ => fun
  | [d1, d2, d3] => { results := [.lit (.bool false)], args := [d1, d2, d3] }
  | _ => none }
def MatrixInvertsWrongFalsely : Prop := matrixInvertsRow.holds Try.pinned (OpenSpec.ofChange matrixInvertsWrong)

/-- 'largesselaw04.MatrixNamed': WHATEVER THE INPUT: true; the input reads as it did. -/
def matrixNamedSpec : ChangeSpec := { name := "matrixNamed", fn := fun _ => fun
  | [d1, d2, d3] => { results := [.lit (.bool true)], args := [d1, d2, d3] }
  | _ => none }
def matrixNamedRow : OpenClaim := { program := "yteinpdignnpbgaa", sum := "ea7adf96f21518e7ef37d6006137f5c053c0b3101a7390a70b4ab213b1a7b9b9", func := "largesse/largesselaw04.MatrixNamed", spec := "matrixNamed", unfollowed := true, recurses := true, apart := false }
def MatrixNamedSaid : Prop := matrixNamedRow.holds Try.pinned (OpenSpec.ofChange matrixNamedSpec)

/-- ITS FALSE NEIGHBOUR: 'it returns false'. Refute it at one input. -/
def matrixNamedWrong : ChangeSpec := { name := "matrixNamed", fn := fun _ => fun
  | [d1, d2, d3] => { results := [.lit (.bool false)], args := [d1, d2, d3] }
  | _ => none }
def MatrixNamedWrongFalsely : Prop := matrixNamedRow.holds Try.pinned (OpenSpec.ofChange matrixNamedWrong)

/-- 'largesselaw07.HashSums': WHATEVER THE INPUT: true; the input reads as it did. -/
def hashSumsSpec : ChangeSpec := { name := "hashSums", fn := fun _ => fun
  | [d] => { results := [.lit (.bool true)], args := [d] }
  | _ => none }
def hashSumsRow : OpenClaim := { program := "yteinpdignnpbgaa", sum := "ea7adf96f21518e7ef37d6006137f5c053c0b3101a7390a70b4ab213b1a7b9b9", func := "largesse/largesselaw07.HashSums", spec := "hashSums", unfollowed := true, recurses := true, apart := false }
def HashSumsSaid : Prop := hashSumsRow.holds Try.pinned (OpenSpec.ofChange hashSumsSpec)

/-- ITS FALSE NEIGHBOUR: 'it returns false'. Refute it at one input. -/
def hashSumsWrong : ChangeSpec := { name := "hashSums", fn := fun _ => fun
  | [d] => { results := [.lit (.bool false)], args := [d] }
  | _ => none }
def HashSumsWrongFalsely : Prop := hashSumsRow.holds Try.pinned (OpenSpec.ofChange hashSumsWrong)

/-- 'largesselaw07.HashParts': WHATEVER THE INPUT: true; the input reads as it did. -/
def hashPartsSpec : ChangeSpec := { name := "hashParts", fn := fun _ => fun
  | [d] => { results := [.lit (.bool true)], args := [d] }
  | _ => none }
def hashPartsRow : OpenClaim := { program := "yteinpdignnpbgaa", sum := "ea7adf96f21518e7ef37d6006137f5c053c0b3101a7390a70b4ab213b1a7b9b9", func := "largesse/largesselaw07.HashParts", spec := "hashParts", unfollowed := true, recurses := true, apart := false }
def HashPartsSaid : Prop := hashPartsRow.holds Try.pinned (OpenSpec.ofChange hashPartsSpec)

/-- ITS FALSE NEIGHBOUR: 'it returns false'. Refute it at one input. -/
def hashPartsWrong : ChangeSpec := { name := "hashParts", fn := fun _ => fun
  | [d] => { results := [.lit (.bool false)], args := [d] }
  | _ => none }
def HashPartsWrongFalsely : Prop := hashPartsRow.holds Try.pinned (OpenSpec.ofChange hashPartsWrong)

/- THE SECOND FORM. 'bulk': how many values and letters a reading holds, each counted each time it is reached (what is shared counts as often as it is met; a slice's spare places count too). A statement '..UptoSaid' is the law's where the arguments, and the package variables that the reading takes, are together of bulk at most 1048576: NARROWER than '..Said'. Prove '..Said' where nothing that the law and all that it calls make is longer than what came in: it says more and counts as full. Else prove '..UptoSaid'. A law counts once. -/
mutual
def uptoBulk {H : Type} : DataW H → Nat
  | .lit (.string bytes) => bytes.length + 1
  | .lit _ => 1
  | .nil => 1
  | .ptr d => uptoBulk d + 1
  | .slice elems spare => uptoBulkAll elems + uptoBulkAll spare + 1
  | .agg parts => uptoBulkAll parts + 1
  | .iface _ d => uptoBulk d + 1
  | .map entries => uptoBulkEntries entries + 1
  | .held _ => 1
def uptoBulkAll {H : Type} : List (DataW H) → Nat
  | [] => 0
  | d :: r => uptoBulk d + uptoBulkAll r
def uptoBulkEntries {H : Type} : List (Lit × DataW H) → Nat
  | [] => 0
  | x :: r => uptoBulkEntry x + uptoBulkEntries r
def uptoBulkEntry {H : Type} : Lit × DataW H → Nat
  | (.string bytes, d) => bytes.length + uptoBulk d + 1
  | (_, d) => uptoBulk d + 1
 end
def uptoSmall : (H : Type) → List (DataW H) → Bool := fun _ ds => decide (uptoBulkAll ds ≤ 1048576)
def OpenSpec.upto (s : _root_.Go.ChangeSpec) : _root_.Go.OpenSpec := { _root_.Go.OpenSpec.ofChange s with cond := some uptoSmall }

/-- 'largesselaw03.PolyRules', WHERE WHAT IT READS IS OF BULK AT MOST 1048576: true; the input reads as it did. -/
def polyRulesUptoRow : OpenClaim := { program := "yteinpdignnpbgaa", sum := "ea7adf96f21518e7ef37d6006137f5c053c0b3101a7390a70b4ab213b1a7b9b9", func := "largesse/largesselaw03.PolyRules", spec := "polyRules", unfollowed := true, recurses := true, apart := false, narrowed := true }
def PolyRulesUptoSaid : Prop := polyRulesUptoRow.holds Try.pinned (OpenSpec.upto polyRulesSpec)

/-- 'largesselaw03.PolySums', WHERE WHAT IT READS IS OF BULK AT MOST 1048576: true; the input reads as it did. -/
def polySumsUptoRow : OpenClaim := { program := "yteinpdignnpbgaa", sum := "ea7adf96f21518e7ef37d6006137f5c053c0b3101a7390a70b4ab213b1a7b9b9", func := "largesse/largesselaw03.PolySums", spec := "polySums", unfollowed := true, recurses := true, apart := false, narrowed := true }
def PolySumsUptoSaid : Prop := polySumsUptoRow.holds Try.pinned (OpenSpec.upto polySumsSpec)

/-- 'largesselaw03.PolyDivides', WHERE WHAT IT READS IS OF BULK AT MOST 1048576: true; the input reads as it did. -/
def polyDividesUptoRow : OpenClaim := { program := "yteinpdignnpbgaa", sum := "ea7adf96f21518e7ef37d6006137f5c053c0b3101a7390a70b4ab213b1a7b9b9", func := "largesse/largesselaw03.PolyDivides", spec := "polyDivides", unfollowed := true, recurses := true, apart := false, narrowed := true }
def PolyDividesUptoSaid : Prop := polyDividesUptoRow.holds Try.pinned (OpenSpec.upto polyDividesSpec)

/-- 'largesselaw03.PolyVanish', WHERE WHAT IT READS IS OF BULK AT MOST 1048576: true; the input reads as it did. -/
def polyVanishUptoRow : OpenClaim := { program := "yteinpdignnpbgaa", sum := "ea7adf96f21518e7ef37d6006137f5c053c0b3101a7390a70b4ab213b1a7b9b9", func := "largesse/largesselaw03.PolyVanish", spec := "polyVanish", unfollowed := true, recurses := true, apart := false, narrowed := true }
def PolyVanishUptoSaid : Prop := polyVanishUptoRow.holds Try.pinned (OpenSpec.upto polyVanishSpec)

/-- 'largesselaw03.PolyThrough', WHERE WHAT IT READS IS OF BULK AT MOST 1048576: true; the input reads as it did. -/
def polyThroughUptoRow : OpenClaim := { program := "yteinpdignnpbgaa", sum := "ea7adf96f21518e7ef37d6006137f5c053c0b3101a7390a70b4ab213b1a7b9b9", func := "largesse/largesselaw03.PolyThrough", spec := "polyThrough", unfollowed := true, recurses := true, apart := false, narrowed := true }
def PolyThroughUptoSaid : Prop := polyThroughUptoRow.holds Try.pinned (OpenSpec.upto polyThroughSpec)

/-- 'largesselaw03.PolyLong', WHERE WHAT IT READS IS OF BULK AT MOST 1048576: true; the input reads as it did. -/
def polyLongUptoRow : OpenClaim := { program := "yteinpdignnpbgaa", sum := "ea7adf96f21518e7ef37d6006137f5c053c0b3101a7390a70b4ab213b1a7b9b9", func := "largesse/largesselaw03.PolyLong", spec := "polyLong", unfollowed := true, recurses := true, apart := false, narrowed := true }
def PolyLongUptoSaid : Prop := polyLongUptoRow.holds Try.pinned (OpenSpec.upto polyLongSpec)

/-- 'largesselaw04.MatrixMakes', WHERE WHAT IT READS IS OF BULK AT MOST 1048576: true; the input reads as it did. -/
def matrixMakesUptoRow : OpenClaim := { program := "yteinpdignnpbgaa", sum := "ea7adf96f21518e7ef37d6006137f5c053c0b3101a7390a70b4ab213b1a7b9b9", func := "largesse/largesselaw04.MatrixMakes", spec := "matrixMakes", unfollowed := true, recurses := true, apart := false, narrowed := true }
def MatrixMakesUptoSaid : Prop := matrixMakesUptoRow.holds Try.pinned (OpenSpec.upto matrixMakesSpec)

/-- 'largesselaw04.MatrixProducts', WHERE WHAT IT READS IS OF BULK AT MOST 1048576: true; the input reads as it did. -/
def matrixProductsUptoRow : OpenClaim := { program := "yteinpdignnpbgaa", sum := "ea7adf96f21518e7ef37d6006137f5c053c0b3101a7390a70b4ab213b1a7b9b9", func := "largesse/largesselaw04.MatrixProducts", spec := "matrixProducts", apart := false, narrowed := true }
def MatrixProductsUptoSaid : Prop := matrixProductsUptoRow.holds Try.pinned (OpenSpec.upto matrixProductsSpec)

/-- 'largesselaw04.MatrixRules', WHERE WHAT IT READS IS OF BULK AT MOST 1048576: true; the input reads as it did. -/
def matrixRulesUptoRow : OpenClaim := { program := "yteinpdignnpbgaa", sum := "ea7adf96f21518e7ef37d6006137f5c053c0b3101a7390a70b4ab213b1a7b9b9", func := "largesse/largesselaw04.MatrixRules", spec := "matrixRules", unfollowed := true, recurses := true, apart := false, narrowed := true }
def MatrixRulesUptoSaid : Prop := matrixRulesUptoRow.holds Try.pinned (OpenSpec.upto matrixRulesSpec)

/-- 'largesselaw04.MatrixSolves', WHERE WHAT IT READS IS OF BULK AT MOST 1048576: true; the input reads as it did. -/
def matrixSolvesUptoRow : OpenClaim := { program := "yteinpdignnpbgaa", sum := "ea7adf96f21518e7ef37d6006137f5c053c0b3101a7390a70b4ab213b1a7b9b9", func := "largesse/largesselaw04.MatrixSolves", spec := "matrixSolves", unfollowed := true, recurses := true, apart := false, narrowed := true }
def MatrixSolvesUptoSaid : Prop := matrixSolvesUptoRow.holds Try.pinned (OpenSpec.upto matrixSolvesSpec)

/-- 'largesselaw04.MatrixInverts', WHERE WHAT IT READS IS OF BULK AT MOST 1048576: true; the input reads as it did. -/
def matrixInvertsUptoRow : OpenClaim := { program := "yteinpdignnpbgaa", sum := "ea7adf96f21518e7ef37d6006137f5c053c0b3101a7390a70b4ab213b1a7b9b9", func := "largesse/largesselaw04.MatrixInverts", spec := "matrixInverts", unfollowed := true, recurses := true, apart := false, narrowed := true }
def MatrixInvertsUptoSaid : Prop := matrixInvertsUptoRow.holds Try.pinned (OpenSpec.upto matrixInvertsSpec)

/-- 'largesselaw04.MatrixNamed', WHERE WHAT IT READS IS OF BULK AT MOST 1048576: true; the input reads as it did. -/
def matrixNamedUptoRow : OpenClaim := { program := "yteinpdignnpbgaa", sum := "ea7adf96f21518e7ef37d6006137f5c053c0b3101a7390a70b4ab213b1a7b9b9", func := "largesse/largesselaw04.MatrixNamed", spec := "matrixNamed", unfollowed := true, recurses := true, apart := false, narrowed := true }
def MatrixNamedUptoSaid : Prop := matrixNamedUptoRow.holds Try.pinned (OpenSpec.upto matrixNamedSpec)

/-- 'largesselaw07.HashSums', WHERE WHAT IT READS IS OF BULK AT MOST 1048576: true; the input reads as it did. -/
def hashSumsUptoRow : OpenClaim := { program := "yteinpdignnpbgaa", sum := "ea7adf96f21518e7ef37d6006137f5c053c0b3101a7390a70b4ab213b1a7b9b9", func := "largesse/largesselaw07.HashSums", spec := "hashSums", unfollowed := true, recurses := true, apart := false, narrowed := true }
def HashSumsUptoSaid : Prop := hashSumsUptoRow.holds Try.pinned (OpenSpec.upto hashSumsSpec)

/-- 'largesselaw07.HashParts', WHERE WHAT IT READS IS OF BULK AT MOST 1048576: true; the input reads as it did. -/
def hashPartsUptoRow : OpenClaim := { program := "yteinpdignnpbgaa", sum := "ea7adf96f21518e7ef37d6006137f5c053c0b3101a7390a70b4ab213b1a7b9b9", func := "largesse/largesselaw07.HashParts", spec := "hashParts", unfollowed := true, recurses := true, apart := false, narrowed := true }
def HashPartsUptoSaid : Prop := hashPartsUptoRow.holds Try.pinned (OpenSpec.upto hashPartsSpec)

end Rows
end Go.Proofs.Yteinpdignnpbgaa

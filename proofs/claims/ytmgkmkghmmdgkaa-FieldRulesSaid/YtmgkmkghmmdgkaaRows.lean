/-
  No cell of these rows narrows 'for every input' (looked for: loops, veiled, ifaces, maps, wideKeys, modest, calm, conditions, laid).
  DERIVED. THE GIVEN ROWS OF THIS SEAT. 33 by the template 'for every input the law returns true; each argument reads behind the call as it read before'; 0 by the template 'total and deterministic' (their statements: YtmgkmkghmmdgkaaTotals.lean).
  GIVEN WITH THE SEED: the statements are not yours to turn. If you find one false, say at which input.
  Laid BY PROGRAM, IN A SANDBOX (cutbox-rows.mjs): the forced cells as the released guide's own fill.sh prints them over the translation d81bfd9034d2951c… (all of the seat's roots in one cut). By AI agents, Wed Nov 11 2026. No macro, syntax, notation, axiom, sorry.
-/
import Derived.Test.YtmgkmkghmmdgkaaChecked
import GoSem.Claim
import GoSem.ClaimJoined
import GoSem.ClaimMapViews
import Derived.JoinedTies
import Derived.KernelRfl
namespace Go.Proofs.Ytmgkmkghmmdgkaa
/- THE CELL 'sum', in the pinned program and in every row, IS THE sha256 OF THE DUMP (.gsa) THAT YtmgkmkghmmdgkaaProg.lean LOADS. Nothing in Lean hashes anything: it is a label: what it is worth is what the hold of that sum in a sandbox is worth. -/
noncomputable def Try.pinned : Pinned := { name := "ytmgkmkghmmdgkaa", sum := "d81bfd9034d2951c4e3cd745167d39a47c96941b55e3ba2903018932b1679fcd", checked := Try.checked }
namespace Rows
def none {H : Type} : Left H := { results := [], args := [] }

/-- 'largesselaw02.FieldRules': WHATEVER THE INPUT: true; the input reads as it did. -/
def fieldRulesSpec : ChangeSpec := { name := "fieldRules", fn := fun _ => fun
  | [d1, d2, d3] => { results := [.lit (.bool true)], args := [d1, d2, d3] }
  | _ => none }
def fieldRulesRow : OpenClaim := { program := "ytmgkmkghmmdgkaa", sum := "d81bfd9034d2951c4e3cd745167d39a47c96941b55e3ba2903018932b1679fcd", func := "largesse/largesselaw02.FieldRules", spec := "fieldRules", apart := false }
def FieldRulesSaid : Prop := fieldRulesRow.holds Try.pinned (OpenSpec.ofChange fieldRulesSpec)

/-- ITS FALSE NEIGHBOUR: 'it returns false'. Refute it at one input. -/
def fieldRulesWrong : ChangeSpec := { name := "fieldRules", fn := fun _ => fun
  | [d1, d2, d3] => { results := [.lit (.bool false)], args := [d1, d2, d3] }
  | _ => none }
def FieldRulesWrongFalsely : Prop := fieldRulesRow.holds Try.pinned (OpenSpec.ofChange fieldRulesWrong)

/-- 'largesselaw02.FieldProducts': WHATEVER THE INPUT: true; the input reads as it did. -/
def fieldProductsSpec : ChangeSpec := { name := "fieldProducts", fn := fun _ => fun
  | [d1, d2] => { results := [.lit (.bool true)], args := [d1, d2] }
  | _ => none }
def fieldProductsRow : OpenClaim := { program := "ytmgkmkghmmdgkaa", sum := "d81bfd9034d2951c4e3cd745167d39a47c96941b55e3ba2903018932b1679fcd", func := "largesse/largesselaw02.FieldProducts", spec := "fieldProducts", apart := false }
def FieldProductsSaid : Prop := fieldProductsRow.holds Try.pinned (OpenSpec.ofChange fieldProductsSpec)

/-- ITS FALSE NEIGHBOUR: 'it returns false'. Refute it at one input. -/
def fieldProductsWrong : ChangeSpec := { name := "fieldProducts", fn := fun _ => fun
  | [d1, d2] => { results := [.lit (.bool false)], args := [d1, d2] }
  | _ => none }
def FieldProductsWrongFalsely : Prop := fieldProductsRow.holds Try.pinned (OpenSpec.ofChange fieldProductsWrong)

/-- 'largesselaw02.FieldPowers': WHATEVER THE INPUT: true; the input reads as it did. -/
def fieldPowersSpec : ChangeSpec := { name := "fieldPowers", fn := fun _ => fun
  | [d1, d2] => { results := [.lit (.bool true)], args := [d1, d2] }
  | _ => none }
def fieldPowersRow : OpenClaim := { program := "ytmgkmkghmmdgkaa", sum := "d81bfd9034d2951c4e3cd745167d39a47c96941b55e3ba2903018932b1679fcd", func := "largesse/largesselaw02.FieldPowers", spec := "fieldPowers", apart := false }
def FieldPowersSaid : Prop := fieldPowersRow.holds Try.pinned (OpenSpec.ofChange fieldPowersSpec)

/-- ITS FALSE NEIGHBOUR: 'it returns false'. Refute it at one input. -/
def fieldPowersWrong : ChangeSpec := { name := "fieldPowers", fn := fun _ => fun
  | [d1, d2] => { results := [.lit (.bool false)], args := [d1, d2] }
  | _ => none }
def FieldPowersWrongFalsely : Prop := fieldPowersRow.holds Try.pinned (OpenSpec.ofChange fieldPowersWrong)

/-- 'largesselaw02.FieldOrders': WHATEVER THE INPUT: true; the input reads as it did. -/
def fieldOrdersSpec : ChangeSpec := { name := "fieldOrders", fn := fun _ => fun
  | [d1, d2] => { results := [.lit (.bool true)], args := [d1, d2] }
  | _ => none }
def fieldOrdersRow : OpenClaim := { program := "ytmgkmkghmmdgkaa", sum := "d81bfd9034d2951c4e3cd745167d39a47c96941b55e3ba2903018932b1679fcd", func := "largesse/largesselaw02.FieldOrders", spec := "fieldOrders", apart := false }
def FieldOrdersSaid : Prop := fieldOrdersRow.holds Try.pinned (OpenSpec.ofChange fieldOrdersSpec)

/-- ITS FALSE NEIGHBOUR: 'it returns false'. Refute it at one input. -/
def fieldOrdersWrong : ChangeSpec := { name := "fieldOrders", fn := fun _ => fun
  | [d1, d2] => { results := [.lit (.bool false)], args := [d1, d2] }
  | _ => none }
def FieldOrdersWrongFalsely : Prop := fieldOrdersRow.holds Try.pinned (OpenSpec.ofChange fieldOrdersWrong)

/-- 'largesselaw02.FieldRows': WHATEVER THE INPUT: true; the input reads as it did. -/
def fieldRowsSpec : ChangeSpec := { name := "fieldRows", fn := fun _ => fun
  | [d1, d2, d3] => { results := [.lit (.bool true)], args := [d1, d2, d3] }
  | _ => none }
def fieldRowsRow : OpenClaim := { program := "ytmgkmkghmmdgkaa", sum := "d81bfd9034d2951c4e3cd745167d39a47c96941b55e3ba2903018932b1679fcd", func := "largesse/largesselaw02.FieldRows", spec := "fieldRows", apart := false }
def FieldRowsSaid : Prop := fieldRowsRow.holds Try.pinned (OpenSpec.ofChange fieldRowsSpec)

/-- ITS FALSE NEIGHBOUR: 'it returns false'. Refute it at one input. -/
def fieldRowsWrong : ChangeSpec := { name := "fieldRows", fn := fun _ => fun
  | [d1, d2, d3] => { results := [.lit (.bool false)], args := [d1, d2, d3] }
  | _ => none }
def FieldRowsWrongFalsely : Prop := fieldRowsRow.holds Try.pinned (OpenSpec.ofChange fieldRowsWrong)

/-- 'largesselaw03.PolyRules': WHATEVER THE INPUT: true; the input reads as it did. -/
def polyRulesSpec : ChangeSpec := { name := "polyRules", fn := fun _ => fun
  | [d1, d2, d3, d4] => { results := [.lit (.bool true)], args := [d1, d2, d3, d4] }
  | _ => none }
def polyRulesRow : OpenClaim := { program := "ytmgkmkghmmdgkaa", sum := "d81bfd9034d2951c4e3cd745167d39a47c96941b55e3ba2903018932b1679fcd", func := "largesse/largesselaw03.PolyRules", spec := "polyRules", unfollowed := true, recurses := true, apart := false }
def PolyRulesSaid : Prop := polyRulesRow.holds Try.pinned (OpenSpec.ofChange polyRulesSpec)

/-- ITS FALSE NEIGHBOUR: 'it returns false'. Refute it at one input. -/
def polyRulesWrong : ChangeSpec := { name := "polyRules", fn := fun _ => fun
  | [d1, d2, d3, d4] => { results := [.lit (.bool false)], args := [d1, d2, d3, d4] }
  | _ => none }
def PolyRulesWrongFalsely : Prop := polyRulesRow.holds Try.pinned (OpenSpec.ofChange polyRulesWrong)

/-- 'largesselaw03.PolySums': WHATEVER THE INPUT: true; the input reads as it did. -/
def polySumsSpec : ChangeSpec := { name := "polySums", fn := fun _ => fun
  | [d1, d2, d3] => { results := [.lit (.bool true)], args := [d1, d2, d3] }
  | _ => none }
def polySumsRow : OpenClaim := { program := "ytmgkmkghmmdgkaa", sum := "d81bfd9034d2951c4e3cd745167d39a47c96941b55e3ba2903018932b1679fcd", func := "largesse/largesselaw03.PolySums", spec := "polySums", unfollowed := true, recurses := true, apart := false }
def PolySumsSaid : Prop := polySumsRow.holds Try.pinned (OpenSpec.ofChange polySumsSpec)

/-- ITS FALSE NEIGHBOUR: 'it returns false'. Refute it at one input. -/
def polySumsWrong : ChangeSpec := { name := "polySums", fn := fun _ => fun
  | [d1, d2, d3] => { results := [.lit (.bool false)], args := [d1, d2, d3] }
  | _ => none }
def PolySumsWrongFalsely : Prop := polySumsRow.holds Try.pinned (OpenSpec.ofChange polySumsWrong)

/-- 'largesselaw03.PolyDivides': WHATEVER THE INPUT: true; the input reads as it did. -/
def polyDividesSpec : ChangeSpec := { name := "polyDivides", fn := fun _ => fun
  | [d1, d2] => { results := [.lit (.bool true)], args := [d1, d2] }
  | _ => none }
def polyDividesRow : OpenClaim := { program := "ytmgkmkghmmdgkaa", sum := "d81bfd9034d2951c4e3cd745167d39a47c96941b55e3ba2903018932b1679fcd", func := "largesse/largesselaw03.PolyDivides", spec := "polyDivides", unfollowed := true, recurses := true, apart := false }
def PolyDividesSaid : Prop := polyDividesRow.holds Try.pinned (OpenSpec.ofChange polyDividesSpec)

/-- ITS FALSE NEIGHBOUR: 'it returns false'. Refute it at one input. -/
def polyDividesWrong : ChangeSpec := { name := "polyDivides", fn := fun _ => fun
  | [d1, d2] => { results := [.lit (.bool false)], args := [d1, d2] }
  | _ => none }
def PolyDividesWrongFalsely : Prop := polyDividesRow.holds Try.pinned (OpenSpec.ofChange polyDividesWrong)

/-- 'largesselaw03.PolyVanish': WHATEVER THE INPUT: true; the input reads as it did. -/
def polyVanishSpec : ChangeSpec := { name := "polyVanish", fn := fun _ => fun
  | [d1, d2, d3] => { results := [.lit (.bool true)], args := [d1, d2, d3] }
  | _ => none }
def polyVanishRow : OpenClaim := { program := "ytmgkmkghmmdgkaa", sum := "d81bfd9034d2951c4e3cd745167d39a47c96941b55e3ba2903018932b1679fcd", func := "largesse/largesselaw03.PolyVanish", spec := "polyVanish", unfollowed := true, recurses := true, apart := false }
def PolyVanishSaid : Prop := polyVanishRow.holds Try.pinned (OpenSpec.ofChange polyVanishSpec)

/-- ITS FALSE NEIGHBOUR: 'it returns false'. Refute it at one input. -/
def polyVanishWrong : ChangeSpec := { name := "polyVanish", fn := fun _ => fun
  | [d1, d2, d3] => { results := [.lit (.bool false)], args := [d1, d2, d3] }
  | _ => none }
def PolyVanishWrongFalsely : Prop := polyVanishRow.holds Try.pinned (OpenSpec.ofChange polyVanishWrong)

/-- 'largesselaw03.PolyThrough': WHATEVER THE INPUT: true; the input reads as it did. -/
def polyThroughSpec : ChangeSpec := { name := "polyThrough", fn := fun _ => fun
  | [d1, d2, d3] => { results := [.lit (.bool true)], args := [d1, d2, d3] }
  | _ => none }
def polyThroughRow : OpenClaim := { program := "ytmgkmkghmmdgkaa", sum := "d81bfd9034d2951c4e3cd745167d39a47c96941b55e3ba2903018932b1679fcd", func := "largesse/largesselaw03.PolyThrough", spec := "polyThrough", unfollowed := true, recurses := true, apart := false }
def PolyThroughSaid : Prop := polyThroughRow.holds Try.pinned (OpenSpec.ofChange polyThroughSpec)

/-- ITS FALSE NEIGHBOUR: 'it returns false'. Refute it at one input. -/
def polyThroughWrong : ChangeSpec := { name := "polyThrough", fn := fun _ => fun
  | [d1, d2, d3] => { results := [.lit (.bool false)], args := [d1, d2, d3] }
  | _ => none }
def PolyThroughWrongFalsely : Prop := polyThroughRow.holds Try.pinned (OpenSpec.ofChange polyThroughWrong)

/-- 'largesselaw03.PolyLong': WHATEVER THE INPUT: true; the input reads as it did. -/
def polyLongSpec : ChangeSpec := { name := "polyLong", fn := fun _ => fun
  | [d1, d2] => { results := [.lit (.bool true)], args := [d1, d2] }
  | _ => none }
def polyLongRow : OpenClaim := { program := "ytmgkmkghmmdgkaa", sum := "d81bfd9034d2951c4e3cd745167d39a47c96941b55e3ba2903018932b1679fcd", func := "largesse/largesselaw03.PolyLong", spec := "polyLong", unfollowed := true, recurses := true, apart := false }
def PolyLongSaid : Prop := polyLongRow.holds Try.pinned (OpenSpec.ofChange polyLongSpec)

/-- ITS FALSE NEIGHBOUR: 'it returns false'. Refute it at one input. -/
def polyLongWrong : ChangeSpec := { name := "polyLong", fn := fun _ => fun
  | [d1, d2] => { results := [.lit (.bool false)], args := [d1, d2] }
  | _ => none }
def PolyLongWrongFalsely : Prop := polyLongRow.holds Try.pinned (OpenSpec.ofChange polyLongWrong)

/-- 'largesselaw04.MatrixMakes': WHATEVER THE INPUT: true; the input reads as it did. -/
def matrixMakesSpec : ChangeSpec := { name := "matrixMakes", fn := fun _ => fun
  | [d1, d2] => { results := [.lit (.bool true)], args := [d1, d2] }
  | _ => none }
def matrixMakesRow : OpenClaim := { program := "ytmgkmkghmmdgkaa", sum := "d81bfd9034d2951c4e3cd745167d39a47c96941b55e3ba2903018932b1679fcd", func := "largesse/largesselaw04.MatrixMakes", spec := "matrixMakes", unfollowed := true, recurses := true, apart := false }
def MatrixMakesSaid : Prop := matrixMakesRow.holds Try.pinned (OpenSpec.ofChange matrixMakesSpec)

/-- ITS FALSE NEIGHBOUR: 'it returns false'. Refute it at one input. -/
def matrixMakesWrong : ChangeSpec := { name := "matrixMakes", fn := fun _ => fun
  | [d1, d2] => { results := [.lit (.bool false)], args := [d1, d2] }
  | _ => none }
def MatrixMakesWrongFalsely : Prop := matrixMakesRow.holds Try.pinned (OpenSpec.ofChange matrixMakesWrong)

/-- 'largesselaw04.MatrixProducts': WHATEVER THE INPUT: true; the input reads as it did. -/
def matrixProductsSpec : ChangeSpec := { name := "matrixProducts", fn := fun _ => fun
  | [d1, d2, d3, d4, d5, d6] => { results := [.lit (.bool true)], args := [d1, d2, d3, d4, d5, d6] }
  | _ => none }
def matrixProductsRow : OpenClaim := { program := "ytmgkmkghmmdgkaa", sum := "d81bfd9034d2951c4e3cd745167d39a47c96941b55e3ba2903018932b1679fcd", func := "largesse/largesselaw04.MatrixProducts", spec := "matrixProducts", apart := false }
def MatrixProductsSaid : Prop := matrixProductsRow.holds Try.pinned (OpenSpec.ofChange matrixProductsSpec)

/-- ITS FALSE NEIGHBOUR: 'it returns false'. Refute it at one input. -/
def matrixProductsWrong : ChangeSpec := { name := "matrixProducts", fn := fun _ => fun
  | [d1, d2, d3, d4, d5, d6] => { results := [.lit (.bool false)], args := [d1, d2, d3, d4, d5, d6] }
  | _ => none }
def MatrixProductsWrongFalsely : Prop := matrixProductsRow.holds Try.pinned (OpenSpec.ofChange matrixProductsWrong)

/-- 'largesselaw04.MatrixRules': WHATEVER THE INPUT: true; the input reads as it did. -/
def matrixRulesSpec : ChangeSpec := { name := "matrixRules", fn := fun _ => fun
  | [d1, d2, d3, d4, d5, d6] => { results := [.lit (.bool true)], args := [d1, d2, d3, d4, d5, d6] }
  | _ => none }
def matrixRulesRow : OpenClaim := { program := "ytmgkmkghmmdgkaa", sum := "d81bfd9034d2951c4e3cd745167d39a47c96941b55e3ba2903018932b1679fcd", func := "largesse/largesselaw04.MatrixRules", spec := "matrixRules", unfollowed := true, recurses := true, apart := false }
def MatrixRulesSaid : Prop := matrixRulesRow.holds Try.pinned (OpenSpec.ofChange matrixRulesSpec)

/-- ITS FALSE NEIGHBOUR: 'it returns false'. Refute it at one input. -/
def matrixRulesWrong : ChangeSpec := { name := "matrixRules", fn := fun _ => fun
  | [d1, d2, d3, d4, d5, d6] => { results := [.lit (.bool false)], args := [d1, d2, d3, d4, d5, d6] }
  | _ => none }
def MatrixRulesWrongFalsely : Prop := matrixRulesRow.holds Try.pinned (OpenSpec.ofChange matrixRulesWrong)

/-- 'largesselaw04.MatrixSolves': WHATEVER THE INPUT: true; the input reads as it did. -/
def matrixSolvesSpec : ChangeSpec := { name := "matrixSolves", fn := fun _ => fun
  | [d1, d2, d3, d4] => { results := [.lit (.bool true)], args := [d1, d2, d3, d4] }
  | _ => none }
def matrixSolvesRow : OpenClaim := { program := "ytmgkmkghmmdgkaa", sum := "d81bfd9034d2951c4e3cd745167d39a47c96941b55e3ba2903018932b1679fcd", func := "largesse/largesselaw04.MatrixSolves", spec := "matrixSolves", unfollowed := true, recurses := true, apart := false }
def MatrixSolvesSaid : Prop := matrixSolvesRow.holds Try.pinned (OpenSpec.ofChange matrixSolvesSpec)

/-- ITS FALSE NEIGHBOUR: 'it returns false'. Refute it at one input. -/
def matrixSolvesWrong : ChangeSpec := { name := "matrixSolves", fn := fun _ => fun
  | [d1, d2, d3, d4] => { results := [.lit (.bool false)], args := [d1, d2, d3, d4] }
  | _ => none }
def MatrixSolvesWrongFalsely : Prop := matrixSolvesRow.holds Try.pinned (OpenSpec.ofChange matrixSolvesWrong)

/-- 'largesselaw04.MatrixInverts': WHATEVER THE INPUT: true; the input reads as it did. -/
def matrixInvertsSpec : ChangeSpec := { name := "matrixInverts", fn := fun _ => fun
  | [d1, d2, d3] => { results := [.lit (.bool true)], args := [d1, d2, d3] }
  | _ => none }
def matrixInvertsRow : OpenClaim := { program := "ytmgkmkghmmdgkaa", sum := "d81bfd9034d2951c4e3cd745167d39a47c96941b55e3ba2903018932b1679fcd", func := "largesse/largesselaw04.MatrixInverts", spec := "matrixInverts", unfollowed := true, recurses := true, apart := false }
def MatrixInvertsSaid : Prop := matrixInvertsRow.holds Try.pinned (OpenSpec.ofChange matrixInvertsSpec)

/-- ITS FALSE NEIGHBOUR: 'it returns false'. Refute it at one input. -/
def matrixInvertsWrong : ChangeSpec := { name := "matrixInverts", fn := fun _ => fun
  | [d1, d2, d3] => { results := [.lit (.bool false)], args := [d1, d2, d3] }
  | _ => none }
def MatrixInvertsWrongFalsely : Prop := matrixInvertsRow.holds Try.pinned (OpenSpec.ofChange matrixInvertsWrong)

/-- 'largesselaw04.MatrixNamed': WHATEVER THE INPUT: true; the input reads as it did. -/
def matrixNamedSpec : ChangeSpec := { name := "matrixNamed", fn := fun _ => fun
  | [d1, d2, d3] => { results := [.lit (.bool true)], args := [d1, d2, d3] }
  | _ => none }
def matrixNamedRow : OpenClaim := { program := "ytmgkmkghmmdgkaa", sum := "d81bfd9034d2951c4e3cd745167d39a47c96941b55e3ba2903018932b1679fcd", func := "largesse/largesselaw04.MatrixNamed", spec := "matrixNamed", unfollowed := true, recurses := true, apart := false }
def MatrixNamedSaid : Prop := matrixNamedRow.holds Try.pinned (OpenSpec.ofChange matrixNamedSpec)

/-- ITS FALSE NEIGHBOUR: 'it returns false'. Refute it at one input. -/
def matrixNamedWrong : ChangeSpec := { name := "matrixNamed", fn := fun _ => fun
  | [d1, d2, d3] => { results := [.lit (.bool false)], args := [d1, d2, d3] }
  | _ => none }
def MatrixNamedWrongFalsely : Prop := matrixNamedRow.holds Try.pinned (OpenSpec.ofChange matrixNamedWrong)

/-- 'largesselaw08.ShamirAts': WHATEVER THE INPUT: true; the input reads as it did. -/
def shamirAtsSpec : ChangeSpec := { name := "shamirAts", fn := fun _ => fun
  | [d1, d2, d3] => { results := [.lit (.bool true)], args := [d1, d2, d3] }
  | _ => none }
def shamirAtsRow : OpenClaim := { program := "ytmgkmkghmmdgkaa", sum := "d81bfd9034d2951c4e3cd745167d39a47c96941b55e3ba2903018932b1679fcd", func := "largesse/largesselaw08.ShamirAts", spec := "shamirAts", unfollowed := true, recurses := true, apart := false }
def ShamirAtsSaid : Prop := shamirAtsRow.holds Try.pinned (OpenSpec.ofChange shamirAtsSpec)

/-- ITS FALSE NEIGHBOUR: 'it returns false'. Refute it at one input. -/
def shamirAtsWrong : ChangeSpec := { name := "shamirAts", fn := fun _ => fun
  | [d1, d2, d3] => { results := [.lit (.bool false)], args := [d1, d2, d3] }
  | _ => none }
def ShamirAtsWrongFalsely : Prop := shamirAtsRow.holds Try.pinned (OpenSpec.ofChange shamirAtsWrong)

/-- 'largesselaw08.ShamirSplits': WHATEVER THE INPUT: true; the input reads as it did. -/
def shamirSplitsSpec : ChangeSpec := { name := "shamirSplits", fn := fun _ => fun
  | [d1, d2, d3, d4, d5] => { results := [.lit (.bool true)], args := [d1, d2, d3, d4, d5] }
  | _ => none }
def shamirSplitsRow : OpenClaim := { program := "ytmgkmkghmmdgkaa", sum := "d81bfd9034d2951c4e3cd745167d39a47c96941b55e3ba2903018932b1679fcd", func := "largesse/largesselaw08.ShamirSplits", spec := "shamirSplits", unfollowed := true, recurses := true, apart := false }
def ShamirSplitsSaid : Prop := shamirSplitsRow.holds Try.pinned (OpenSpec.ofChange shamirSplitsSpec)

/-- ITS FALSE NEIGHBOUR: 'it returns false'. Refute it at one input. -/
def shamirSplitsWrong : ChangeSpec := { name := "shamirSplits", fn := fun _ => fun
  | [d1, d2, d3, d4, d5] => { results := [.lit (.bool false)], args := [d1, d2, d3, d4, d5] }
  | _ => none }
def ShamirSplitsWrongFalsely : Prop := shamirSplitsRow.holds Try.pinned (OpenSpec.ofChange shamirSplitsWrong)

/-- 'largesselaw08.ShamirAdds': WHATEVER THE INPUT: true; the input reads as it did. -/
def shamirAddsSpec : ChangeSpec := { name := "shamirAdds", fn := fun _ => fun
  | [d1, d2, d3, d4, d5, d6] => { results := [.lit (.bool true)], args := [d1, d2, d3, d4, d5, d6] }
  | _ => none }
def shamirAddsRow : OpenClaim := { program := "ytmgkmkghmmdgkaa", sum := "d81bfd9034d2951c4e3cd745167d39a47c96941b55e3ba2903018932b1679fcd", func := "largesse/largesselaw08.ShamirAdds", spec := "shamirAdds", unfollowed := true, recurses := true, apart := false }
def ShamirAddsSaid : Prop := shamirAddsRow.holds Try.pinned (OpenSpec.ofChange shamirAddsSpec)

/-- ITS FALSE NEIGHBOUR: 'it returns false'. Refute it at one input. -/
def shamirAddsWrong : ChangeSpec := { name := "shamirAdds", fn := fun _ => fun
  | [d1, d2, d3, d4, d5, d6] => { results := [.lit (.bool false)], args := [d1, d2, d3, d4, d5, d6] }
  | _ => none }
def ShamirAddsWrongFalsely : Prop := shamirAddsRow.holds Try.pinned (OpenSpec.ofChange shamirAddsWrong)

/-- 'largesselaw08.ShamirJoins': WHATEVER THE INPUT: true; the input reads as it did. -/
def shamirJoinsSpec : ChangeSpec := { name := "shamirJoins", fn := fun _ => fun
  | [d1, d2, d3, d4, d5, d6, d7] => { results := [.lit (.bool true)], args := [d1, d2, d3, d4, d5, d6, d7] }
  | _ => none }
def shamirJoinsRow : OpenClaim := { program := "ytmgkmkghmmdgkaa", sum := "d81bfd9034d2951c4e3cd745167d39a47c96941b55e3ba2903018932b1679fcd", func := "largesse/largesselaw08.ShamirJoins", spec := "shamirJoins", unfollowed := true, recurses := true, apart := false }
def ShamirJoinsSaid : Prop := shamirJoinsRow.holds Try.pinned (OpenSpec.ofChange shamirJoinsSpec)

/-- ITS FALSE NEIGHBOUR: 'it returns false'. Refute it at one input. -/
def shamirJoinsWrong : ChangeSpec := { name := "shamirJoins", fn := fun _ => fun
  | [d1, d2, d3, d4, d5, d6, d7] => { results := [.lit (.bool false)], args := [d1, d2, d3, d4, d5, d6, d7] }
  | _ => none }
def ShamirJoinsWrongFalsely : Prop := shamirJoinsRow.holds Try.pinned (OpenSpec.ofChange shamirJoinsWrong)

/-- 'largesselaw08.ShamirHides': WHATEVER THE INPUT: true; the input reads as it did. -/
def shamirHidesSpec : ChangeSpec := { name := "shamirHides", fn := fun _ => fun
  | [d1, d2, d3, d4, d5, d6] => { results := [.lit (.bool true)], args := [d1, d2, d3, d4, d5, d6] }
  | _ => none }
def shamirHidesRow : OpenClaim := { program := "ytmgkmkghmmdgkaa", sum := "d81bfd9034d2951c4e3cd745167d39a47c96941b55e3ba2903018932b1679fcd", func := "largesse/largesselaw08.ShamirHides", spec := "shamirHides", unfollowed := true, recurses := true, apart := false }
def ShamirHidesSaid : Prop := shamirHidesRow.holds Try.pinned (OpenSpec.ofChange shamirHidesSpec)

/-- ITS FALSE NEIGHBOUR: 'it returns false'. Refute it at one input. -/
def shamirHidesWrong : ChangeSpec := { name := "shamirHides", fn := fun _ => fun
  | [d1, d2, d3, d4, d5, d6] => { results := [.lit (.bool false)], args := [d1, d2, d3, d4, d5, d6] }
  | _ => none }
def ShamirHidesWrongFalsely : Prop := shamirHidesRow.holds Try.pinned (OpenSpec.ofChange shamirHidesWrong)

/-- 'largesselaw09.CodeApart': WHATEVER THE INPUT: true; the input reads as it did. -/
def codeApartSpec : ChangeSpec := { name := "codeApart", fn := fun _ => fun
  | [d1, d2, d3, d4] => { results := [.lit (.bool true)], args := [d1, d2, d3, d4] }
  | _ => none }
def codeApartRow : OpenClaim := { program := "ytmgkmkghmmdgkaa", sum := "d81bfd9034d2951c4e3cd745167d39a47c96941b55e3ba2903018932b1679fcd", func := "largesse/largesselaw09.CodeApart", spec := "codeApart", unfollowed := true, recurses := true, apart := false }
def CodeApartSaid : Prop := codeApartRow.holds Try.pinned (OpenSpec.ofChange codeApartSpec)

/-- ITS FALSE NEIGHBOUR: 'it returns false'. Refute it at one input. -/
def codeApartWrong : ChangeSpec := { name := "codeApart", fn := fun _ => fun
  | [d1, d2, d3, d4] => { results := [.lit (.bool false)], args := [d1, d2, d3, d4] }
  | _ => none }
def CodeApartWrongFalsely : Prop := codeApartRow.holds Try.pinned (OpenSpec.ofChange codeApartWrong)

/-- 'largesselaw09.CodeEncodes': WHATEVER THE INPUT: true; the input reads as it did. -/
def codeEncodesSpec : ChangeSpec := { name := "codeEncodes", fn := fun _ => fun
  | [d1, d2, d3] => { results := [.lit (.bool true)], args := [d1, d2, d3] }
  | _ => none }
def codeEncodesRow : OpenClaim := { program := "ytmgkmkghmmdgkaa", sum := "d81bfd9034d2951c4e3cd745167d39a47c96941b55e3ba2903018932b1679fcd", func := "largesse/largesselaw09.CodeEncodes", spec := "codeEncodes", unfollowed := true, recurses := true, apart := false }
def CodeEncodesSaid : Prop := codeEncodesRow.holds Try.pinned (OpenSpec.ofChange codeEncodesSpec)

/-- ITS FALSE NEIGHBOUR: 'it returns false'. Refute it at one input. -/
def codeEncodesWrong : ChangeSpec := { name := "codeEncodes", fn := fun _ => fun
  | [d1, d2, d3] => { results := [.lit (.bool false)], args := [d1, d2, d3] }
  | _ => none }
def CodeEncodesWrongFalsely : Prop := codeEncodesRow.holds Try.pinned (OpenSpec.ofChange codeEncodesWrong)

/-- 'largesselaw09.CodeDecodes': WHATEVER THE INPUT: true; the input reads as it did. -/
def codeDecodesSpec : ChangeSpec := { name := "codeDecodes", fn := fun _ => fun
  | [d1, d2, d3] => { results := [.lit (.bool true)], args := [d1, d2, d3] }
  | _ => none }
def codeDecodesRow : OpenClaim := { program := "ytmgkmkghmmdgkaa", sum := "d81bfd9034d2951c4e3cd745167d39a47c96941b55e3ba2903018932b1679fcd", func := "largesse/largesselaw09.CodeDecodes", spec := "codeDecodes", unfollowed := true, recurses := true, apart := false }
def CodeDecodesSaid : Prop := codeDecodesRow.holds Try.pinned (OpenSpec.ofChange codeDecodesSpec)

/-- ITS FALSE NEIGHBOUR: 'it returns false'. Refute it at one input. -/
def codeDecodesWrong : ChangeSpec := { name := "codeDecodes", fn := fun _ => fun
  | [d1, d2, d3] => { results := [.lit (.bool false)], args := [d1, d2, d3] }
  | _ => none }
def CodeDecodesWrongFalsely : Prop := codeDecodesRow.holds Try.pinned (OpenSpec.ofChange codeDecodesWrong)

/-- 'largesselaw09.CodeCuts': WHATEVER THE INPUT: true; the input reads as it did. -/
def codeCutsSpec : ChangeSpec := { name := "codeCuts", fn := fun _ => fun
  | [d1, d2, d3] => { results := [.lit (.bool true)], args := [d1, d2, d3] }
  | _ => none }
def codeCutsRow : OpenClaim := { program := "ytmgkmkghmmdgkaa", sum := "d81bfd9034d2951c4e3cd745167d39a47c96941b55e3ba2903018932b1679fcd", func := "largesse/largesselaw09.CodeCuts", spec := "codeCuts", unfollowed := true, recurses := true, apart := false }
def CodeCutsSaid : Prop := codeCutsRow.holds Try.pinned (OpenSpec.ofChange codeCutsSpec)

/-- ITS FALSE NEIGHBOUR: 'it returns false'. Refute it at one input. -/
def codeCutsWrong : ChangeSpec := { name := "codeCuts", fn := fun _ => fun
  | [d1, d2, d3] => { results := [.lit (.bool false)], args := [d1, d2, d3] }
  | _ => none }
def CodeCutsWrongFalsely : Prop := codeCutsRow.holds Try.pinned (OpenSpec.ofChange codeCutsWrong)

/-- 'largesselaw10.MendColumns': WHATEVER THE INPUT: true; the input reads as it did. -/
def mendColumnsSpec : ChangeSpec := { name := "mendColumns", fn := fun _ => fun
  | [d1, d2, d3, d4] => { results := [.lit (.bool true)], args := [d1, d2, d3, d4] }
  | _ => none }
def mendColumnsRow : OpenClaim := { program := "ytmgkmkghmmdgkaa", sum := "d81bfd9034d2951c4e3cd745167d39a47c96941b55e3ba2903018932b1679fcd", func := "largesse/largesselaw10.MendColumns", spec := "mendColumns", unfollowed := true, recurses := true, apart := false }
def MendColumnsSaid : Prop := mendColumnsRow.holds Try.pinned (OpenSpec.ofChange mendColumnsSpec)

/-- ITS FALSE NEIGHBOUR: 'it returns false'. Refute it at one input. -/
def mendColumnsWrong : ChangeSpec := { name := "mendColumns", fn := fun _ => fun
  | [d1, d2, d3, d4] => { results := [.lit (.bool false)], args := [d1, d2, d3, d4] }
  | _ => none }
def MendColumnsWrongFalsely : Prop := mendColumnsRow.holds Try.pinned (OpenSpec.ofChange mendColumnsWrong)

/-- 'largesselaw10.MendCorrects': WHATEVER THE INPUT: true; the input reads as it did. -/
def mendCorrectsSpec : ChangeSpec := { name := "mendCorrects", fn := fun _ => fun
  | [d1, d2, d3, d4, d5, d6, d7] => { results := [.lit (.bool true)], args := [d1, d2, d3, d4, d5, d6, d7] }
  | _ => none }
def mendCorrectsRow : OpenClaim := { program := "ytmgkmkghmmdgkaa", sum := "d81bfd9034d2951c4e3cd745167d39a47c96941b55e3ba2903018932b1679fcd", func := "largesse/largesselaw10.MendCorrects", spec := "mendCorrects", unfollowed := true, recurses := true, apart := false }
def MendCorrectsSaid : Prop := mendCorrectsRow.holds Try.pinned (OpenSpec.ofChange mendCorrectsSpec)

/-- ITS FALSE NEIGHBOUR: 'it returns false'. Refute it at one input. -/
def mendCorrectsWrong : ChangeSpec := { name := "mendCorrects", fn := fun _ => fun
  | [d1, d2, d3, d4, d5, d6, d7] => { results := [.lit (.bool false)], args := [d1, d2, d3, d4, d5, d6, d7] }
  | _ => none }
def MendCorrectsWrongFalsely : Prop := mendCorrectsRow.holds Try.pinned (OpenSpec.ofChange mendCorrectsWrong)

/-- 'largesselaw10.MendRows': WHATEVER THE INPUT: true; the input reads as it did. -/
def mendRowsSpec : ChangeSpec := { name := "mendRows", fn := fun _ => fun
  | [d1, d2, d3, d4, d5] => { results := [.lit (.bool true)], args := [d1, d2, d3, d4, d5] }
  | _ => none }
def mendRowsRow : OpenClaim := { program := "ytmgkmkghmmdgkaa", sum := "d81bfd9034d2951c4e3cd745167d39a47c96941b55e3ba2903018932b1679fcd", func := "largesse/largesselaw10.MendRows", spec := "mendRows", unfollowed := true, recurses := true, apart := false }
def MendRowsSaid : Prop := mendRowsRow.holds Try.pinned (OpenSpec.ofChange mendRowsSpec)

/-- ITS FALSE NEIGHBOUR: 'it returns false'. Refute it at one input. -/
def mendRowsWrong : ChangeSpec := { name := "mendRows", fn := fun _ => fun
  | [d1, d2, d3, d4, d5] => { results := [.lit (.bool false)], args := [d1, d2, d3, d4, d5] }
  | _ => none }
def MendRowsWrongFalsely : Prop := mendRowsRow.holds Try.pinned (OpenSpec.ofChange mendRowsWrong)

/-- 'largesselaw30.SyndromeTells': WHATEVER THE INPUT: true; the input reads as it did. -/
def syndromeTellsSpec : ChangeSpec := { name := "syndromeTells", fn := fun _ => fun
  | [d1, d2, d3] => { results := [.lit (.bool true)], args := [d1, d2, d3] }
  | _ => none }
def syndromeTellsRow : OpenClaim := { program := "ytmgkmkghmmdgkaa", sum := "d81bfd9034d2951c4e3cd745167d39a47c96941b55e3ba2903018932b1679fcd", func := "largesse/largesselaw30.SyndromeTells", spec := "syndromeTells", unfollowed := true, recurses := true, apart := false }
def SyndromeTellsSaid : Prop := syndromeTellsRow.holds Try.pinned (OpenSpec.ofChange syndromeTellsSpec)

/-- ITS FALSE NEIGHBOUR: 'it returns false'. Refute it at one input. -/
def syndromeTellsWrong : ChangeSpec := { name := "syndromeTells", fn := fun _ => fun
  | [d1, d2, d3] => { results := [.lit (.bool false)], args := [d1, d2, d3] }
  | _ => none }
def SyndromeTellsWrongFalsely : Prop := syndromeTellsRow.holds Try.pinned (OpenSpec.ofChange syndromeTellsWrong)

/-- 'largesselaw30.SyndromeFinds': WHATEVER THE INPUT: true; the input reads as it did. -/
def syndromeFindsSpec : ChangeSpec := { name := "syndromeFinds", fn := fun _ => fun
  | [d1, d2, d3, d4, d5, d6] => { results := [.lit (.bool true)], args := [d1, d2, d3, d4, d5, d6] }
  | _ => none }
def syndromeFindsRow : OpenClaim := { program := "ytmgkmkghmmdgkaa", sum := "d81bfd9034d2951c4e3cd745167d39a47c96941b55e3ba2903018932b1679fcd", func := "largesse/largesselaw30.SyndromeFinds", spec := "syndromeFinds", unfollowed := true, recurses := true, apart := false }
def SyndromeFindsSaid : Prop := syndromeFindsRow.holds Try.pinned (OpenSpec.ofChange syndromeFindsSpec)

/-- ITS FALSE NEIGHBOUR: 'it returns false'. Refute it at one input. -/
def syndromeFindsWrong : ChangeSpec := { name := "syndromeFinds", fn := fun _ => fun
  | [d1, d2, d3, d4, d5, d6] => { results := [.lit (.bool false)], args := [d1, d2, d3, d4, d5, d6] }
  | _ => none }
def SyndromeFindsWrongFalsely : Prop := syndromeFindsRow.holds Try.pinned (OpenSpec.ofChange syndromeFindsWrong)

/-- 'largesselaw30.SyndromeAdds': WHATEVER THE INPUT: true; the input reads as it did. -/
def syndromeAddsSpec : ChangeSpec := { name := "syndromeAdds", fn := fun _ => fun
  | [d1, d2, d3, d4] => { results := [.lit (.bool true)], args := [d1, d2, d3, d4] }
  | _ => none }
def syndromeAddsRow : OpenClaim := { program := "ytmgkmkghmmdgkaa", sum := "d81bfd9034d2951c4e3cd745167d39a47c96941b55e3ba2903018932b1679fcd", func := "largesse/largesselaw30.SyndromeAdds", spec := "syndromeAdds", unfollowed := true, recurses := true, apart := false }
def SyndromeAddsSaid : Prop := syndromeAddsRow.holds Try.pinned (OpenSpec.ofChange syndromeAddsSpec)

/-- ITS FALSE NEIGHBOUR: 'it returns false'. Refute it at one input. -/
def syndromeAddsWrong : ChangeSpec := { name := "syndromeAdds", fn := fun _ => fun
  | [d1, d2, d3, d4] => { results := [.lit (.bool false)], args := [d1, d2, d3, d4] }
  | _ => none }
def SyndromeAddsWrongFalsely : Prop := syndromeAddsRow.holds Try.pinned (OpenSpec.ofChange syndromeAddsWrong)

/-- 'largesselaw30.SyndromeCorrects': WHATEVER THE INPUT: true; the input reads as it did. -/
def syndromeCorrectsSpec : ChangeSpec := { name := "syndromeCorrects", fn := fun _ => fun
  | [d1, d2, d3] => { results := [.lit (.bool true)], args := [d1, d2, d3] }
  | _ => none }
def syndromeCorrectsRow : OpenClaim := { program := "ytmgkmkghmmdgkaa", sum := "d81bfd9034d2951c4e3cd745167d39a47c96941b55e3ba2903018932b1679fcd", func := "largesse/largesselaw30.SyndromeCorrects", spec := "syndromeCorrects", unfollowed := true, recurses := true, apart := false }
def SyndromeCorrectsSaid : Prop := syndromeCorrectsRow.holds Try.pinned (OpenSpec.ofChange syndromeCorrectsSpec)

/-- ITS FALSE NEIGHBOUR: 'it returns false'. Refute it at one input. -/
def syndromeCorrectsWrong : ChangeSpec := { name := "syndromeCorrects", fn := fun _ => fun
  | [d1, d2, d3] => { results := [.lit (.bool false)], args := [d1, d2, d3] }
  | _ => none }
def SyndromeCorrectsWrongFalsely : Prop := syndromeCorrectsRow.holds Try.pinned (OpenSpec.ofChange syndromeCorrectsWrong)

/- THE SECOND FORM. 'bulk': how many values and letters a reading holds, each counted each time it is reached (what is shared counts as often as it is met; a slice's spare places count too). A statement '..UptoSaid' is the law's where the arguments, and the package variables that the reading takes, are together of bulk at most 1048576: NARROWER than '..Said'. Prove '..Said' where nothing that the law and all that it calls make is longer than what came in: it says more and counts as full. Else prove '..UptoSaid'. A law counts once. -/
mutual
def uptoBulk {H : Type} : DataW H → Nat
  | .lit (.string bytes) => bytes.length + 1
  | .lit _ => 1
  | .nil => 1
  | .ptr d => uptoBulk d + 1
  | .slice elems spare => uptoBulkAll elems + uptoBulkAll spare + 1
  | .agg parts => uptoBulkAll parts + 1
  | .iface _ d => uptoBulk d + 1
  | .map entries => uptoBulkEntries entries + 1
  | .held _ => 1
def uptoBulkAll {H : Type} : List (DataW H) → Nat
  | [] => 0
  | d :: r => uptoBulk d + uptoBulkAll r
def uptoBulkEntries {H : Type} : List (Lit × DataW H) → Nat
  | [] => 0
  | x :: r => uptoBulkEntry x + uptoBulkEntries r
def uptoBulkEntry {H : Type} : Lit × DataW H → Nat
  | (.string bytes, d) => bytes.length + uptoBulk d + 1
  | (_, d) => uptoBulk d + 1
 end
def uptoSmall : (H : Type) → List (DataW H) → Bool := fun _ ds => decide (uptoBulkAll ds ≤ 1048576)
def OpenSpec.upto (s : _root_.Go.ChangeSpec) : _root_.Go.OpenSpec := { _root_.Go.OpenSpec.ofChange s with cond := some uptoSmall }

/-- 'largesselaw02.FieldRules', WHERE WHAT IT READS IS OF BULK AT MOST 1048576: true; the input reads as it did. -/
def fieldRulesUptoRow : OpenClaim := { program := "ytmgkmkghmmdgkaa", sum := "d81bfd9034d2951c4e3cd745167d39a47c96941b55e3ba2903018932b1679fcd", func := "largesse/largesselaw02.FieldRules", spec := "fieldRules", apart := false, narrowed := true }
def FieldRulesUptoSaid : Prop := fieldRulesUptoRow.holds Try.pinned (OpenSpec.upto fieldRulesSpec)

/-- 'largesselaw02.FieldProducts', WHERE WHAT IT READS IS OF BULK AT MOST 1048576: true; the input reads as it did. -/
def fieldProductsUptoRow : OpenClaim := { program := "ytmgkmkghmmdgkaa", sum := "d81bfd9034d2951c4e3cd745167d39a47c96941b55e3ba2903018932b1679fcd", func := "largesse/largesselaw02.FieldProducts", spec := "fieldProducts", apart := false, narrowed := true }
def FieldProductsUptoSaid : Prop := fieldProductsUptoRow.holds Try.pinned (OpenSpec.upto fieldProductsSpec)

/-- 'largesselaw02.FieldPowers', WHERE WHAT IT READS IS OF BULK AT MOST 1048576: true; the input reads as it did. -/
def fieldPowersUptoRow : OpenClaim := { program := "ytmgkmkghmmdgkaa", sum := "d81bfd9034d2951c4e3cd745167d39a47c96941b55e3ba2903018932b1679fcd", func := "largesse/largesselaw02.FieldPowers", spec := "fieldPowers", apart := false, narrowed := true }
def FieldPowersUptoSaid : Prop := fieldPowersUptoRow.holds Try.pinned (OpenSpec.upto fieldPowersSpec)

/-- 'largesselaw02.FieldOrders', WHERE WHAT IT READS IS OF BULK AT MOST 1048576: true; the input reads as it did. -/
def fieldOrdersUptoRow : OpenClaim := { program := "ytmgkmkghmmdgkaa", sum := "d81bfd9034d2951c4e3cd745167d39a47c96941b55e3ba2903018932b1679fcd", func := "largesse/largesselaw02.FieldOrders", spec := "fieldOrders", apart := false, narrowed := true }
def FieldOrdersUptoSaid : Prop := fieldOrdersUptoRow.holds Try.pinned (OpenSpec.upto fieldOrdersSpec)

/-- 'largesselaw02.FieldRows', WHERE WHAT IT READS IS OF BULK AT MOST 1048576: true; the input reads as it did. -/
def fieldRowsUptoRow : OpenClaim := { program := "ytmgkmkghmmdgkaa", sum := "d81bfd9034d2951c4e3cd745167d39a47c96941b55e3ba2903018932b1679fcd", func := "largesse/largesselaw02.FieldRows", spec := "fieldRows", apart := false, narrowed := true }
def FieldRowsUptoSaid : Prop := fieldRowsUptoRow.holds Try.pinned (OpenSpec.upto fieldRowsSpec)

/-- 'largesselaw03.PolyRules', WHERE WHAT IT READS IS OF BULK AT MOST 1048576: true; the input reads as it did. -/
def polyRulesUptoRow : OpenClaim := { program := "ytmgkmkghmmdgkaa", sum := "d81bfd9034d2951c4e3cd745167d39a47c96941b55e3ba2903018932b1679fcd", func := "largesse/largesselaw03.PolyRules", spec := "polyRules", unfollowed := true, recurses := true, apart := false, narrowed := true }
def PolyRulesUptoSaid : Prop := polyRulesUptoRow.holds Try.pinned (OpenSpec.upto polyRulesSpec)

/-- 'largesselaw03.PolySums', WHERE WHAT IT READS IS OF BULK AT MOST 1048576: true; the input reads as it did. -/
def polySumsUptoRow : OpenClaim := { program := "ytmgkmkghmmdgkaa", sum := "d81bfd9034d2951c4e3cd745167d39a47c96941b55e3ba2903018932b1679fcd", func := "largesse/largesselaw03.PolySums", spec := "polySums", unfollowed := true, recurses := true, apart := false, narrowed := true }
def PolySumsUptoSaid : Prop := polySumsUptoRow.holds Try.pinned (OpenSpec.upto polySumsSpec)

/-- 'largesselaw03.PolyDivides', WHERE WHAT IT READS IS OF BULK AT MOST 1048576: true; the input reads as it did. -/
def polyDividesUptoRow : OpenClaim := { program := "ytmgkmkghmmdgkaa", sum := "d81bfd9034d2951c4e3cd745167d39a47c96941b55e3ba2903018932b1679fcd", func := "largesse/largesselaw03.PolyDivides", spec := "polyDivides", unfollowed := true, recurses := true, apart := false, narrowed := true }
def PolyDividesUptoSaid : Prop := polyDividesUptoRow.holds Try.pinned (OpenSpec.upto polyDividesSpec)

/-- 'largesselaw03.PolyVanish', WHERE WHAT IT READS IS OF BULK AT MOST 1048576: true; the input reads as it did. -/
def polyVanishUptoRow : OpenClaim := { program := "ytmgkmkghmmdgkaa", sum := "d81bfd9034d2951c4e3cd745167d39a47c96941b55e3ba2903018932b1679fcd", func := "largesse/largesselaw03.PolyVanish", spec := "polyVanish", unfollowed := true, recurses := true, apart := false, narrowed := true }
def PolyVanishUptoSaid : Prop := polyVanishUptoRow.holds Try.pinned (OpenSpec.upto polyVanishSpec)

/-- 'largesselaw03.PolyThrough', WHERE WHAT IT READS IS OF BULK AT MOST 1048576: true; the input reads as it did. -/
def polyThroughUptoRow : OpenClaim := { program := "ytmgkmkghmmdgkaa", sum := "d81bfd9034d2951c4e3cd745167d39a47c96941b55e3ba2903018932b1679fcd", func := "largesse/largesselaw03.PolyThrough", spec := "polyThrough", unfollowed := true, recurses := true, apart := false, narrowed := true }
def PolyThroughUptoSaid : Prop := polyThroughUptoRow.holds Try.pinned (OpenSpec.upto polyThroughSpec)

/-- 'largesselaw03.PolyLong', WHERE WHAT IT READS IS OF BULK AT MOST 1048576: true; the input reads as it did. -/
def polyLongUptoRow : OpenClaim := { program := "ytmgkmkghmmdgkaa", sum := "d81bfd9034d2951c4e3cd745167d39a47c96941b55e3ba2903018932b1679fcd", func := "largesse/largesselaw03.PolyLong", spec := "polyLong", unfollowed := true, recurses := true, apart := false, narrowed := true }
def PolyLongUptoSaid : Prop := polyLongUptoRow.holds Try.pinned (OpenSpec.upto polyLongSpec)

/-- 'largesselaw04.MatrixMakes', WHERE WHAT IT READS IS OF BULK AT MOST 1048576: true; the input reads as it did. -/
def matrixMakesUptoRow : OpenClaim := { program := "ytmgkmkghmmdgkaa", sum := "d81bfd9034d2951c4e3cd745167d39a47c96941b55e3ba2903018932b1679fcd", func := "largesse/largesselaw04.MatrixMakes", spec := "matrixMakes", unfollowed := true, recurses := true, apart := false, narrowed := true }
def MatrixMakesUptoSaid : Prop := matrixMakesUptoRow.holds Try.pinned (OpenSpec.upto matrixMakesSpec)

/-- 'largesselaw04.MatrixProducts', WHERE WHAT IT READS IS OF BULK AT MOST 1048576: true; the input reads as it did. -/
def matrixProductsUptoRow : OpenClaim := { program := "ytmgkmkghmmdgkaa", sum := "d81bfd9034d2951c4e3cd745167d39a47c96941b55e3ba2903018932b1679fcd", func := "largesse/largesselaw04.MatrixProducts", spec := "matrixProducts", apart := false, narrowed := true }
def MatrixProductsUptoSaid : Prop := matrixProductsUptoRow.holds Try.pinned (OpenSpec.upto matrixProductsSpec)

/-- 'largesselaw04.MatrixRules', WHERE WHAT IT READS IS OF BULK AT MOST 1048576: true; the input reads as it did. -/
def matrixRulesUptoRow : OpenClaim := { program := "ytmgkmkghmmdgkaa", sum := "d81bfd9034d2951c4e3cd745167d39a47c96941b55e3ba2903018932b1679fcd", func := "largesse/largesselaw04.MatrixRules", spec := "matrixRules", unfollowed := true, recurses := true, apart := false, narrowed := true }
def MatrixRulesUptoSaid : Prop := matrixRulesUptoRow.holds Try.pinned (OpenSpec.upto matrixRulesSpec)

/-- 'largesselaw04.MatrixSolves', WHERE WHAT IT READS IS OF BULK AT MOST 1048576: true; the input reads as it did. -/
def matrixSolvesUptoRow : OpenClaim := { program := "ytmgkmkghmmdgkaa", sum := "d81bfd9034d2951c4e3cd745167d39a47c96941b55e3ba2903018932b1679fcd", func := "largesse/largesselaw04.MatrixSolves", spec := "matrixSolves", unfollowed := true, recurses := true, apart := false, narrowed := true }
def MatrixSolvesUptoSaid : Prop := matrixSolvesUptoRow.holds Try.pinned (OpenSpec.upto matrixSolvesSpec)

/-- 'largesselaw04.MatrixInverts', WHERE WHAT IT READS IS OF BULK AT MOST 1048576: true; the input reads as it did. -/
def matrixInvertsUptoRow : OpenClaim := { program := "ytmgkmkghmmdgkaa", sum := "d81bfd9034d2951c4e3cd745167d39a47c96941b55e3ba2903018932b1679fcd", func := "largesse/largesselaw04.MatrixInverts", spec := "matrixInverts", unfollowed := true, recurses := true, apart := false, narrowed := true }
def MatrixInvertsUptoSaid : Prop := matrixInvertsUptoRow.holds Try.pinned (OpenSpec.upto matrixInvertsSpec)

/-- 'largesselaw04.MatrixNamed', WHERE WHAT IT READS IS OF BULK AT MOST 1048576: true; the input reads as it did. -/
def matrixNamedUptoRow : OpenClaim := { program := "ytmgkmkghmmdgkaa", sum := "d81bfd9034d2951c4e3cd745167d39a47c96941b55e3ba2903018932b1679fcd", func := "largesse/largesselaw04.MatrixNamed", spec := "matrixNamed", unfollowed := true, recurses := true, apart := false, narrowed := true }
def MatrixNamedUptoSaid : Prop := matrixNamedUptoRow.holds Try.pinned (OpenSpec.upto matrixNamedSpec)

/-- 'largesselaw08.ShamirAts', WHERE WHAT IT READS IS OF BULK AT MOST 1048576: true; the input reads as it did. -/
def shamirAtsUptoRow : OpenClaim := { program := "ytmgkmkghmmdgkaa", sum := "d81bfd9034d2951c4e3cd745167d39a47c96941b55e3ba2903018932b1679fcd", func := "largesse/largesselaw08.ShamirAts", spec := "shamirAts", unfollowed := true, recurses := true, apart := false, narrowed := true }
def ShamirAtsUptoSaid : Prop := shamirAtsUptoRow.holds Try.pinned (OpenSpec.upto shamirAtsSpec)

/-- 'largesselaw08.ShamirSplits', WHERE WHAT IT READS IS OF BULK AT MOST 1048576: true; the input reads as it did. -/
def shamirSplitsUptoRow : OpenClaim := { program := "ytmgkmkghmmdgkaa", sum := "d81bfd9034d2951c4e3cd745167d39a47c96941b55e3ba2903018932b1679fcd", func := "largesse/largesselaw08.ShamirSplits", spec := "shamirSplits", unfollowed := true, recurses := true, apart := false, narrowed := true }
def ShamirSplitsUptoSaid : Prop := shamirSplitsUptoRow.holds Try.pinned (OpenSpec.upto shamirSplitsSpec)

/-- 'largesselaw08.ShamirAdds', WHERE WHAT IT READS IS OF BULK AT MOST 1048576: true; the input reads as it did. -/
def shamirAddsUptoRow : OpenClaim := { program := "ytmgkmkghmmdgkaa", sum := "d81bfd9034d2951c4e3cd745167d39a47c96941b55e3ba2903018932b1679fcd", func := "largesse/largesselaw08.ShamirAdds", spec := "shamirAdds", unfollowed := true, recurses := true, apart := false, narrowed := true }
def ShamirAddsUptoSaid : Prop := shamirAddsUptoRow.holds Try.pinned (OpenSpec.upto shamirAddsSpec)

/-- 'largesselaw08.ShamirJoins', WHERE WHAT IT READS IS OF BULK AT MOST 1048576: true; the input reads as it did. -/
def shamirJoinsUptoRow : OpenClaim := { program := "ytmgkmkghmmdgkaa", sum := "d81bfd9034d2951c4e3cd745167d39a47c96941b55e3ba2903018932b1679fcd", func := "largesse/largesselaw08.ShamirJoins", spec := "shamirJoins", unfollowed := true, recurses := true, apart := false, narrowed := true }
def ShamirJoinsUptoSaid : Prop := shamirJoinsUptoRow.holds Try.pinned (OpenSpec.upto shamirJoinsSpec)

/-- 'largesselaw08.ShamirHides', WHERE WHAT IT READS IS OF BULK AT MOST 1048576: true; the input reads as it did. -/
def shamirHidesUptoRow : OpenClaim := { program := "ytmgkmkghmmdgkaa", sum := "d81bfd9034d2951c4e3cd745167d39a47c96941b55e3ba2903018932b1679fcd", func := "largesse/largesselaw08.ShamirHides", spec := "shamirHides", unfollowed := true, recurses := true, apart := false, narrowed := true }
def ShamirHidesUptoSaid : Prop := shamirHidesUptoRow.holds Try.pinned (OpenSpec.upto shamirHidesSpec)

/-- 'largesselaw09.CodeApart', WHERE WHAT IT READS IS OF BULK AT MOST 1048576: true; the input reads as it did. -/
def codeApartUptoRow : OpenClaim := { program := "ytmgkmkghmmdgkaa", sum := "d81bfd9034d2951c4e3cd745167d39a47c96941b55e3ba2903018932b1679fcd", func := "largesse/largesselaw09.CodeApart", spec := "codeApart", unfollowed := true, recurses := true, apart := false, narrowed := true }
def CodeApartUptoSaid : Prop := codeApartUptoRow.holds Try.pinned (OpenSpec.upto codeApartSpec)

/-- 'largesselaw09.CodeEncodes', WHERE WHAT IT READS IS OF BULK AT MOST 1048576: true; the input reads as it did. -/
def codeEncodesUptoRow : OpenClaim := { program := "ytmgkmkghmmdgkaa", sum := "d81bfd9034d2951c4e3cd745167d39a47c96941b55e3ba2903018932b1679fcd", func := "largesse/largesselaw09.CodeEncodes", spec := "codeEncodes", unfollowed := true, recurses := true, apart := false, narrowed := true }
def CodeEncodesUptoSaid : Prop := codeEncodesUptoRow.holds Try.pinned (OpenSpec.upto codeEncodesSpec)

/-- 'largesselaw09.CodeDecodes', WHERE WHAT IT READS IS OF BULK AT MOST 1048576: true; the input reads as it did. -/
def codeDecodesUptoRow : OpenClaim := { program := "ytmgkmkghmmdgkaa", sum := "d81bfd9034d2951c4e3cd745167d39a47c96941b55e3ba2903018932b1679fcd", func := "largesse/largesselaw09.CodeDecodes", spec := "codeDecodes", unfollowed := true, recurses := true, apart := false, narrowed := true }
def CodeDecodesUptoSaid : Prop := codeDecodesUptoRow.holds Try.pinned (OpenSpec.upto codeDecodesSpec)

/-- 'largesselaw09.CodeCuts', WHERE WHAT IT READS IS OF BULK AT MOST 1048576: true; the input reads as it did. -/
def codeCutsUptoRow : OpenClaim := { program := "ytmgkmkghmmdgkaa", sum := "d81bfd9034d2951c4e3cd745167d39a47c96941b55e3ba2903018932b1679fcd", func := "largesse/largesselaw09.CodeCuts", spec := "codeCuts", unfollowed := true, recurses := true, apart := false, narrowed := true }
def CodeCutsUptoSaid : Prop := codeCutsUptoRow.holds Try.pinned (OpenSpec.upto codeCutsSpec)

/-- 'largesselaw10.MendColumns', WHERE WHAT IT READS IS OF BULK AT MOST 1048576: true; the input reads as it did. -/
def mendColumnsUptoRow : OpenClaim := { program := "ytmgkmkghmmdgkaa", sum := "d81bfd9034d2951c4e3cd745167d39a47c96941b55e3ba2903018932b1679fcd", func := "largesse/largesselaw10.MendColumns", spec := "mendColumns", unfollowed := true, recurses := true, apart := false, narrowed := true }
def MendColumnsUptoSaid : Prop := mendColumnsUptoRow.holds Try.pinned (OpenSpec.upto mendColumnsSpec)

/-- 'largesselaw10.MendCorrects', WHERE WHAT IT READS IS OF BULK AT MOST 1048576: true; the input reads as it did. -/
def mendCorrectsUptoRow : OpenClaim := { program := "ytmgkmkghmmdgkaa", sum := "d81bfd9034d2951c4e3cd745167d39a47c96941b55e3ba2903018932b1679fcd", func := "largesse/largesselaw10.MendCorrects", spec := "mendCorrects", unfollowed := true, recurses := true, apart := false, narrowed := true }
def MendCorrectsUptoSaid : Prop := mendCorrectsUptoRow.holds Try.pinned (OpenSpec.upto mendCorrectsSpec)

/-- 'largesselaw10.MendRows', WHERE WHAT IT READS IS OF BULK AT MOST 1048576: true; the input reads as it did. -/
def mendRowsUptoRow : OpenClaim := { program := "ytmgkmkghmmdgkaa", sum := "d81bfd9034d2951c4e3cd745167d39a47c96941b55e3ba2903018932b1679fcd", func := "largesse/largesselaw10.MendRows", spec := "mendRows", unfollowed := true, recurses := true, apart := false, narrowed := true }
def MendRowsUptoSaid : Prop := mendRowsUptoRow.holds Try.pinned (OpenSpec.upto mendRowsSpec)

/-- 'largesselaw30.SyndromeTells', WHERE WHAT IT READS IS OF BULK AT MOST 1048576: true; the input reads as it did. -/
def syndromeTellsUptoRow : OpenClaim := { program := "ytmgkmkghmmdgkaa", sum := "d81bfd9034d2951c4e3cd745167d39a47c96941b55e3ba2903018932b1679fcd", func := "largesse/largesselaw30.SyndromeTells", spec := "syndromeTells", unfollowed := true, recurses := true, apart := false, narrowed := true }
def SyndromeTellsUptoSaid : Prop := syndromeTellsUptoRow.holds Try.pinned (OpenSpec.upto syndromeTellsSpec)

/-- 'largesselaw30.SyndromeFinds', WHERE WHAT IT READS IS OF BULK AT MOST 1048576: true; the input reads as it did. -/
def syndromeFindsUptoRow : OpenClaim := { program := "ytmgkmkghmmdgkaa", sum := "d81bfd9034d2951c4e3cd745167d39a47c96941b55e3ba2903018932b1679fcd", func := "largesse/largesselaw30.SyndromeFinds", spec := "syndromeFinds", unfollowed := true, recurses := true, apart := false, narrowed := true }
def SyndromeFindsUptoSaid : Prop := syndromeFindsUptoRow.holds Try.pinned (OpenSpec.upto syndromeFindsSpec)

/-- 'largesselaw30.SyndromeAdds', WHERE WHAT IT READS IS OF BULK AT MOST 1048576: true; the input reads as it did. -/
def syndromeAddsUptoRow : OpenClaim := { program := "ytmgkmkghmmdgkaa", sum := "d81bfd9034d2951c4e3cd745167d39a47c96941b55e3ba2903018932b1679fcd", func := "largesse/largesselaw30.SyndromeAdds", spec := "syndromeAdds", unfollowed := true, recurses := true, apart := false, narrowed := true }
def SyndromeAddsUptoSaid : Prop := syndromeAddsUptoRow.holds Try.pinned (OpenSpec.upto syndromeAddsSpec)

/-- 'largesselaw30.SyndromeCorrects', WHERE WHAT IT READS IS OF BULK AT MOST 1048576: true; the input reads as it did. -/
def syndromeCorrectsUptoRow : OpenClaim := { program := "ytmgkmkghmmdgkaa", sum := "d81bfd9034d2951c4e3cd745167d39a47c96941b55e3ba2903018932b1679fcd", func := "largesse/largesselaw30.SyndromeCorrects", spec := "syndromeCorrects", unfollowed := true, recurses := true, apart := false, narrowed := true }
def SyndromeCorrectsUptoSaid : Prop := syndromeCorrectsUptoRow.holds Try.pinned (OpenSpec.upto syndromeCorrectsSpec)

end Rows
end Go.Proofs.Ytmgkmkghmmdgkaa

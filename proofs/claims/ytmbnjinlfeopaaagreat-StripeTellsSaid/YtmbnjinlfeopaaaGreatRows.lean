/-
  No cell of these rows narrows 'for every input' (looked for: loops, veiled, ifaces, maps, wideKeys, modest, calm, conditions, laid).
  DERIVED. THE GIVEN ROWS OF THIS SEAT. 3 by the template 'for every input the law returns true; each argument reads behind the call as it read before'; 0 by the template 'total and deterministic' (their statements: YtmbnjinlfeopaaaGreatTotals.lean).
  GIVEN WITH THE SEED: the statements are not yours to turn. If you find one false, say at which input.
  Laid BY PROGRAM, IN A SANDBOX (cutbox-rows.mjs): the forced cells as the released guide's own fill.sh prints them over the translation eb5f492cd6f2d43a… (all of the seat's roots in one cut). By AI agents, Wed Nov 11 2026. No macro, syntax, notation, axiom, sorry.
-/
import Derived.Test.YtmbnjinlfeopaaaGreatChecked
import GoSem.Claim
import GoSem.ClaimJoined
import GoSem.ClaimMapViews
import Derived.JoinedTies
import Derived.KernelRfl
namespace Go.Proofs.YtmbnjinlfeopaaaGreat
/- THE CELL 'sum', in the pinned program and in every row, IS THE sha256 OF THE DUMP (.gsa) THAT YtmbnjinlfeopaaaGreatProg.lean LOADS. Nothing in Lean hashes anything: it is a label: what it is worth is what the hold of that sum in a sandbox is worth. -/
noncomputable def Tryz.pinned : Pinned := { name := "ytmbnjinlfeopaaagreat", sum := "eb5f492cd6f2d43a0dd39049641d3840c4d86bd651a80a80d163c70c7b42bf18", checked := Tryz.checked }
namespace Rows
def none {H : Type} : Left H := { results := [], args := [] }

/-- 'largesselaw17.StripeTells': WHATEVER THE INPUT: true; the input reads as it did. -/
def stripeTellsSpec : ChangeSpec := { name := "stripeTells", fn := fun _ => fun
  | [d1, d2, d3, d4, d5, d6, d7, d8, d9] => { results := [.lit (.bool true)], args := [d1, d2, d3, d4, d5, d6, d7, d8, d9] }
  | _ => none }
def stripeTellsRow : OpenClaim := { program := "ytmbnjinlfeopaaagreat", sum := "eb5f492cd6f2d43a0dd39049641d3840c4d86bd651a80a80d163c70c7b42bf18", func := "largesse/largesselaw17.StripeTells", spec := "stripeTells", unfollowed := true, recurses := true, apart := false }
def StripeTellsSaid : Prop := stripeTellsRow.holds Tryz.pinned (OpenSpec.ofChange stripeTellsSpec)

/-- ITS FALSE NEIGHBOUR: 'it returns false'. Refute it at one input. -/
def stripeTellsWrong : ChangeSpec := { name := "stripeTells", fn := fun _ => fun
  | [d1, d2, d3, d4, d5, d6, d7, d8, d9] => { results := [.lit (.bool false)], args := [d1, d2, d3, d4, d5, d6, d7, d8, d9] }
  | _ => none }
def StripeTellsWrongFalsely : Prop := stripeTellsRow.holds Tryz.pinned (OpenSpec.ofChange stripeTellsWrong)

/-- 'largesselaw17.StripeFresh': WHATEVER THE INPUT: true; the input reads as it did. -/
def stripeFreshSpec : ChangeSpec := { name := "stripeFresh", fn := fun _ => fun
  | [d1, d2, d3, d4, d5, d6, d7] => { results := [.lit (.bool true)], args := [d1, d2, d3, d4, d5, d6, d7] }
  | _ => none }
def stripeFreshRow : OpenClaim := { program := "ytmbnjinlfeopaaagreat", sum := "eb5f492cd6f2d43a0dd39049641d3840c4d86bd651a80a80d163c70c7b42bf18", func := "largesse/largesselaw17.StripeFresh", spec := "stripeFresh", unfollowed := true, recurses := true, apart := false }
def StripeFreshSaid : Prop := stripeFreshRow.holds Tryz.pinned (OpenSpec.ofChange stripeFreshSpec)

/-- ITS FALSE NEIGHBOUR: 'it returns false'. Refute it at one input. -/
def stripeFreshWrong : ChangeSpec := { name := "stripeFresh", fn := fun _ => fun
  | [d1, d2, d3, d4, d5, d6, d7] => { results := [.lit (.bool false)], args := [d1, d2, d3, d4, d5, d6, d7] }
  | _ => none }
def StripeFreshWrongFalsely : Prop := stripeFreshRow.holds Tryz.pinned (OpenSpec.ofChange stripeFreshWrong)

/-- 'largesselaw17.StripeForms': WHATEVER THE INPUT: true; the input reads as it did. -/
def stripeFormsSpec : ChangeSpec := { name := "stripeForms", fn := fun _ => fun
  | [d1, d2, d3, d4, d5, d6, d7, d8] => { results := [.lit (.bool true)], args := [d1, d2, d3, d4, d5, d6, d7, d8] }
  | _ => none }
def stripeFormsRow : OpenClaim := { program := "ytmbnjinlfeopaaagreat", sum := "eb5f492cd6f2d43a0dd39049641d3840c4d86bd651a80a80d163c70c7b42bf18", func := "largesse/largesselaw17.StripeForms", spec := "stripeForms", unfollowed := true, recurses := true, apart := false }
def StripeFormsSaid : Prop := stripeFormsRow.holds Tryz.pinned (OpenSpec.ofChange stripeFormsSpec)

/-- ITS FALSE NEIGHBOUR: 'it returns false'. Refute it at one input. -/
def stripeFormsWrong : ChangeSpec := { name := "stripeForms", fn := fun _ => fun
  | [d1, d2, d3, d4, d5, d6, d7, d8] => { results := [.lit (.bool false)], args := [d1, d2, d3, d4, d5, d6, d7, d8] }
  | _ => none }
def StripeFormsWrongFalsely : Prop := stripeFormsRow.holds Tryz.pinned (OpenSpec.ofChange stripeFormsWrong)

/- THE SECOND FORM. 'bulk': how many values and letters a reading holds, each counted each time it is reached (what is shared counts as often as it is met; a slice's spare places count too). A statement '..UptoSaid' is the law's where the arguments, and the package variables that the reading takes, are together of bulk at most 1048576: NARROWER than '..Said'. Prove '..Said' where nothing that the law and all that it calls make is longer than what came in: it says more and counts as full. Else prove '..UptoSaid'. A law counts once. -/
mutual
def uptoBulk {H : Type} : DataW H → Nat
  | .lit (.string bytes) => bytes.length + 1
  | .lit _ => 1
  | .nil => 1
  | .ptr d => uptoBulk d + 1
  | .slice elems spare => uptoBulkAll elems + uptoBulkAll spare + 1
  | .agg parts => uptoBulkAll parts + 1
  | .iface _ d => uptoBulk d + 1
  | .map entries => uptoBulkEntries entries + 1
  | .held _ => 1
def uptoBulkAll {H : Type} : List (DataW H) → Nat
  | [] => 0
  | d :: r => uptoBulk d + uptoBulkAll r
def uptoBulkEntries {H : Type} : List (Lit × DataW H) → Nat
  | [] => 0
  | x :: r => uptoBulkEntry x + uptoBulkEntries r
def uptoBulkEntry {H : Type} : Lit × DataW H → Nat
  | (.string bytes, d) => bytes.length + uptoBulk d + 1
  | (_, d) => uptoBulk d + 1
 end
def uptoSmall : (H : Type) → List (DataW H) → Bool := fun _ ds => decide (uptoBulkAll ds ≤ 1048576)
def OpenSpec.upto (s : _root_.Go.ChangeSpec) : _root_.Go.OpenSpec := { _root_.Go.OpenSpec.ofChange s with cond := some uptoSmall }

/-- 'largesselaw17.StripeTells', WHERE WHAT IT READS IS OF BULK AT MOST 1048576: true; the input reads as it did. -/
def stripeTellsUptoRow : OpenClaim := { program := "ytmbnjinlfeopaaagreat", sum := "eb5f492cd6f2d43a0dd39049641d3840c4d86bd651a80a80d163c70c7b42bf18", func := "largesse/largesselaw17.StripeTells", spec := "stripeTells", unfollowed := true, recurses := true, apart := false, narrowed := true }
def StripeTellsUptoSaid : Prop := stripeTellsUptoRow.holds Tryz.pinned (OpenSpec.upto stripeTellsSpec)

/-- 'largesselaw17.StripeFresh', WHERE WHAT IT READS IS OF BULK AT MOST 1048576: true; the input reads as it did. -/
def stripeFreshUptoRow : OpenClaim := { program := "ytmbnjinlfeopaaagreat", sum := "eb5f492cd6f2d43a0dd39049641d3840c4d86bd651a80a80d163c70c7b42bf18", func := "largesse/largesselaw17.StripeFresh", spec := "stripeFresh", unfollowed := true, recurses := true, apart := false, narrowed := true }
def StripeFreshUptoSaid : Prop := stripeFreshUptoRow.holds Tryz.pinned (OpenSpec.upto stripeFreshSpec)

/-- 'largesselaw17.StripeForms', WHERE WHAT IT READS IS OF BULK AT MOST 1048576: true; the input reads as it did. -/
def stripeFormsUptoRow : OpenClaim := { program := "ytmbnjinlfeopaaagreat", sum := "eb5f492cd6f2d43a0dd39049641d3840c4d86bd651a80a80d163c70c7b42bf18", func := "largesse/largesselaw17.StripeForms", spec := "stripeForms", unfollowed := true, recurses := true, apart := false, narrowed := true }
def StripeFormsUptoSaid : Prop := stripeFormsUptoRow.holds Tryz.pinned (OpenSpec.upto stripeFormsSpec)

end Rows
end Go.Proofs.YtmbnjinlfeopaaaGreat

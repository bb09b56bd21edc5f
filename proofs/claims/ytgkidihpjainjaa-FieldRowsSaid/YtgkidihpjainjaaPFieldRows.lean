/- largesse/largesselaw02.FieldRows: for every input the answer is true, and the input reads as it did. No condition. -/



import Derived.Test.YtgkidihpjainjaaRows
import Derived.Orders
import Derived.Deep.Draws
import Derived.Laws.World
import Derived.KernelRfl
import Derived.OrdersIn
import Derived.TacticsIn
import Derived.RangeFuncCalls
import Derived.Deep.LoopGhost
import Derived.Tactics
import Derived.Sort.LoopGhostIn
import Derived.RangeFuncLeaves
import Derived.RangeFuncNested
import Derived.RangeFuncRecord
import Derived.Laws.Sem
import Derived.OwnWalk
import Derived.RangeFuncWrites
import Derived.Laws.IdiomCopy
import Derived.WalkKit
import Derived.ProofKit
import Derived.OpenShut
import Derived.ChangeOld
import Derived.Below
import Derived.Test.YtgkidihpjainjaaProg
import Derived.Test.YtgkidihpjainjaaZPFieldRows1
set_option linter.unusedVariables false
set_option linter.unusedSimpArgs false
namespace Go.Proofs.Ytgkidihpjainjaa
open Go.ChangeShapes Go.WideShapes Go.ChangeAt Go.RowKit Gk


set_option maxRecDepth 100000 in
set_option maxHeartbeats 8000000 in
theorem fieldRows_row (os : Os) (started : os.Started) (H : Type) (enc : TypeId × Value → H) :
    ReturnsInHanded {} Try.checked os 7 .any (Rows.fieldRowsSpec.pre6 enc Try.prog Try.f7 Rows.fieldRowsRow.domain false) (Rows.fieldRowsSpec.post enc Try.prog Try.f7 false true false false) := by
  refine returnsInHanded_of_change (C := Try.checked) ownKnobs started (by kernel_rfl) Try.func7
    (ChangeSpec.witness6 (enc := enc) (C := Try.checked) false ⟨#[], #[.slice none 0 0, .slice none 0 0, .int .u8 0], []⟩ 8 (by kernel_rfl) (by kernel_rfl) (by kernel_rfl) (by kernel_rfl)) ?_
  intro W base args ds gs before hval0 hW hcnd _
  have hval : ∀ (j : Nat) t v, Try.f7.params[j]? = some t → args[j]? = some v → Value.okWide Try.prog W .any base t v := hval0
  have hW' := hW
  obtain ⟨p, q, hA0, hV, rfl, hfz, hnd⟩ := hW
  have hA : DataW.TrodAll enc Try.prog W 0 (fun _ => true) true Try.f7.params.toList args.toList ds p := hA0
  rw [Try.params7] at hA hval
  obtain ⟨v0, vs0, d0, ds0, p0, q0, hargs, rfl, rfl, h0, r0⟩ := trodAll_cons hA
  obtain ⟨v1, vs1, d1, ds1, p1, q1, rfl, rfl, rfl, h1, r1⟩ := trodAll_cons r0
  obtain ⟨v2, vs2, d2, ds2, p2, q2, rfl, rfl, rfl, h2, r2⟩ := trodAll_cons r1
  obtain ⟨rfl, rfl, rfl⟩ := trodAll_nil r2
  obtain rfl : args = #[v0, v1, v2] := by cases args; simp_all
  obtain ⟨rfl, rfl⟩ := trodVars_none hV
  have k0 := h0
  obtain ⟨a0, w0, ll0⟩ := rd_slL Try.underlying37 (by kernel_rfl) (el_u8 Try.underlying5) (hval 0 37 v0 rfl rfl) k0
  have k1 := h1
  obtain ⟨a1, w1, ll1⟩ := rd_slL Try.underlying37 (by kernel_rfl) (el_u8 Try.underlying5) (hval 1 37 v1 rfl rfl) k1
  have k2 := h2
  obtain ⟨a2, rfl⟩ := rd_u8 Try.underlying5 (hval 2 5 v2 rfl rfl) k2
  clear hA0 hval0
  refine (law02_FieldRows_calls a0 a1 a2 v0 v1 true W w0 w1 (law02_FieldRows_true a0 a1 a2)).mono fun e W' ⟨he, x⟩ => ?_
  subst he
  exact ⟨_, rfl, _, _, _, [], _, [], hW', trodAll_mk1 (shut_bool Try.underlying4 _), (trodAll_cons_mk (Ext.trod laidOut (by kernel_rfl) (of_decide_eq_true (by kernel_rfl)) h0 x) (trodAll_cons_mk (Ext.trod laidOut (by kernel_rfl) (of_decide_eq_true (by kernel_rfl)) h1 x) (trodAll_cons_mk (Ext.trod laidOut (by kernel_rfl) (of_decide_eq_true (by kernel_rfl)) h2 x) trodAll_mk0))), rfl, x.frame _, fun h => by cases h⟩
set_option maxHeartbeats 8000000 in
/-- largesse/largesselaw02.FieldRows, as it is given. -/
theorem fieldRows_proved : Rows.FieldRowsSaid :=
  OpenClaim.holds_of_wide 7 Try.f7 rfl rfl rfl rfl rfl rfl rfl ⟨rfl, rfl, rfl, rfl, rfl⟩ rfl rfl rfl rfl rfl (by as_aux_lemma => kernel_rfl) Try.func7 (joined (by as_aux_lemma => kernel_rfl) (by as_aux_lemma => kernel_rfl) (by as_aux_lemma => kernel_rfl) (by as_aux_lemma => kernel_rfl) (by as_aux_lemma => kernel_rfl) (by as_aux_lemma => kernel_rfl) (by as_aux_lemma => kernel_rfl) (by as_aux_lemma => kernel_rfl) (by as_aux_lemma => kernel_rfl) (by as_aux_lemma => kernel_rfl) (by as_aux_lemma => kernel_rfl) (by as_aux_lemma => kernel_rfl) (by as_aux_lemma => kernel_rfl) (by as_aux_lemma => kernel_rfl) (by as_aux_lemma => kernel_rfl) (by as_aux_lemma => kernel_rfl) (by as_aux_lemma => kernel_rfl) (by as_aux_lemma => kernel_rfl) (by as_aux_lemma => kernel_rfl) (by as_aux_lemma => kernel_rfl) rfl rfl rfl rfl (by as_aux_lemma => kernel_rfl) (by as_aux_lemma => kernel_rfl) (by as_aux_lemma => kernel_rfl) (by as_aux_lemma => kernel_rfl))
    (of_decide_eq_true (by kernel_rfl)) (by unfold Func.isWrapper; first | (rw [if_pos (by decide +kernel)]; kernel_rfl) | (rw [if_neg (by decide +kernel)]; exact ⟨rfl, rfl⟩))
    (fun os started H enc _ => fieldRows_row os started H enc)

end Go.Proofs.Ytgkidihpjainjaa

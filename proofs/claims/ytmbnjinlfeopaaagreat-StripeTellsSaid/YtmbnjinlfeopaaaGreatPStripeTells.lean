/- largesse/largesselaw17.StripeTells: for every input the answer is true, and the input reads as it did. No condition. -/



import Derived.Test.YtmbnjinlfeopaaaGreatRows
import Derived.Orders
import Derived.Deep.Draws
import Derived.Laws.World
import Derived.KernelRfl
import Derived.OrdersIn
import Derived.TacticsIn
import Derived.RangeFuncCalls
import Derived.Deep.LoopGhost
import Derived.Tactics
import Derived.Sort.LoopGhostIn
import Derived.RangeFuncLeaves
import Derived.RangeFuncNested
import Derived.RangeFuncRecord
import Derived.Laws.Sem
import Derived.OwnWalk
import Derived.RangeFuncWrites
import Derived.Laws.IdiomCopy
import Derived.WalkKit
import Derived.ProofKit
import Derived.OpenShut
import Derived.ChangeOld
import Derived.Below
import Derived.Test.YtmbnjinlfeopaaaGreatProg
import Derived.MapKept
import Derived.Lib.AppendZerosOnto
import Derived.Laws.CopyRow
import Derived.Laws.Cells
import Derived.Lib.SlBytesConst
import Derived.Test.YtmbnjinlfeopaaaGreatZPStripeTells1
import Derived.Test.YtmbnjinlfeopaaaGreatZPStripeTells2
import Derived.Test.YtmbnjinlfeopaaaGreatZPStripeTells3
import Derived.Test.YtmbnjinlfeopaaaGreatZPStripeTells4
import Derived.Test.YtmbnjinlfeopaaaGreatZPStripeTells5
import Derived.Test.YtmbnjinlfeopaaaGreatZPStripeTells6
set_option linter.unusedVariables false
set_option linter.unusedSimpArgs false
namespace Go.Proofs.YtmbnjinlfeopaaaGreat
open Go.ChangeShapes Go.WideShapes Go.ChangeAt Go.RowKit Gk


set_option maxRecDepth 100000 in
set_option maxHeartbeats 8000000 in
theorem stripeTells_row (os : Os) (started : os.Started) (H : Type) (enc : TypeId × Value → H) :
    ReturnsInHanded {} Tryz.checked os 3 .any (Rows.stripeTellsSpec.pre6 enc Tryz.prog Tryz.f3 Rows.stripeTellsRow.domain false) (Rows.stripeTellsSpec.post enc Tryz.prog Tryz.f3 false true false false) := by
  refine returnsInHanded_of_change (C := Tryz.checked) ownKnobs started (by kernel_rfl) Tryz.func3
    (ChangeSpec.witness6 (enc := enc) (C := Tryz.checked) false ⟨#[], #[.int .i64 0, .int .i64 0, .int .i64 0, .int .i64 0, .slice none 0 0, .slice none 0 0, .slice none 0 0, .slice none 0 0, .int .i64 0], []⟩ 8 (by kernel_rfl) (by kernel_rfl) (by kernel_rfl) (by kernel_rfl)) ?_
  intro W base args ds gs before hval0 hW hcnd _
  have hval : ∀ (j : Nat) t v, Tryz.f3.params[j]? = some t → args[j]? = some v → Value.okWide Tryz.prog W .any base t v := hval0
  have hW' := hW
  obtain ⟨p, q, hA0, hV, rfl, hfz, hnd⟩ := hW
  have hA : DataW.TrodAll enc Tryz.prog W 0 (fun _ => true) true Tryz.f3.params.toList args.toList ds p := hA0
  rw [Tryz.params3] at hA hval
  obtain ⟨v0, vs0, d0, ds0, p0, q0, hargs, rfl, rfl, h0, r0⟩ := trodAll_cons hA
  obtain ⟨v1, vs1, d1, ds1, p1, q1, rfl, rfl, rfl, h1, r1⟩ := trodAll_cons r0
  obtain ⟨v2, vs2, d2, ds2, p2, q2, rfl, rfl, rfl, h2, r2⟩ := trodAll_cons r1
  obtain ⟨v3, vs3, d3, ds3, p3, q3, rfl, rfl, rfl, h3, r3⟩ := trodAll_cons r2
  obtain ⟨v4, vs4, d4, ds4, p4, q4, rfl, rfl, rfl, h4, r4⟩ := trodAll_cons r3
  obtain ⟨v5, vs5, d5, ds5, p5, q5, rfl, rfl, rfl, h5, r5⟩ := trodAll_cons r4
  obtain ⟨v6, vs6, d6, ds6, p6, q6, rfl, rfl, rfl, h6, r6⟩ := trodAll_cons r5
  obtain ⟨v7, vs7, d7, ds7, p7, q7, rfl, rfl, rfl, h7, r7⟩ := trodAll_cons r6
  obtain ⟨v8, vs8, d8, ds8, p8, q8, rfl, rfl, rfl, h8, r8⟩ := trodAll_cons r7
  obtain ⟨rfl, rfl, rfl⟩ := trodAll_nil r8
  obtain rfl : args = #[v0, v1, v2, v3, v4, v5, v6, v7, v8] := by cases args; simp_all
  obtain ⟨rfl, rfl⟩ := trodVars_none hV
  have k0 := h0
  obtain ⟨a0, rfl, lo0, hi0⟩ := rd_i64 Tryz.underlying3 (hval 0 3 v0 rfl rfl) k0
  have k1 := h1
  obtain ⟨a1, rfl, lo1, hi1⟩ := rd_i64 Tryz.underlying3 (hval 1 3 v1 rfl rfl) k1
  have k2 := h2
  obtain ⟨a2, rfl, lo2, hi2⟩ := rd_i64 Tryz.underlying3 (hval 2 3 v2 rfl rfl) k2
  have k3 := h3
  obtain ⟨a3, rfl, lo3, hi3⟩ := rd_i64 Tryz.underlying3 (hval 3 3 v3 rfl rfl) k3
  have k4 := h4
  obtain ⟨a4, w4, ll4⟩ := rd_slL Tryz.underlying22 (by kernel_rfl) (el_u8 Tryz.underlying5) (hval 4 22 v4 rfl rfl) k4
  have k5 := h5
  obtain ⟨a5, w5, ll5⟩ := rd_slL Tryz.underlying22 (by kernel_rfl) (el_u8 Tryz.underlying5) (hval 5 22 v5 rfl rfl) k5
  have k6 := h6
  obtain ⟨a6, w6, ll6⟩ := rd_slL Tryz.underlying22 (by kernel_rfl) (el_u8 Tryz.underlying5) (hval 6 22 v6 rfl rfl) k6
  have k7 := h7
  obtain ⟨a7, w7, ll7⟩ := rd_slL Tryz.underlying22 (by kernel_rfl) (el_u8 Tryz.underlying5) (hval 7 22 v7 rfl rfl) k7
  have k8 := h8
  obtain ⟨a8, rfl, lo8, hi8⟩ := rd_i64 Tryz.underlying3 (hval 8 3 v8 rfl rfl) k8
  clear hA0 hval0
  refine (law17_StripeTells_calls a0 a1 a2 a3 a4 a5 a6 a7 a8 v4 v5 v6 v7 true W w4 w5 w6 w7 (law17_StripeTells_true a0 a1 a2 a3 a4 a5 a6 a7 a8 lo0 hi0 lo1 hi1 lo2 hi2 lo3 hi3 lo8 hi8)).mono fun e W' ⟨he, x⟩ => ?_
  subst he
  exact ⟨_, rfl, _, _, _, [], _, [], hW', trodAll_mk1 (shut_bool Tryz.underlying4 _), (trodAll_cons_mk (Ext.trod laidOut (by kernel_rfl) (of_decide_eq_true (by kernel_rfl)) h0 x) (trodAll_cons_mk (Ext.trod laidOut (by kernel_rfl) (of_decide_eq_true (by kernel_rfl)) h1 x) (trodAll_cons_mk (Ext.trod laidOut (by kernel_rfl) (of_decide_eq_true (by kernel_rfl)) h2 x) (trodAll_cons_mk (Ext.trod laidOut (by kernel_rfl) (of_decide_eq_true (by kernel_rfl)) h3 x) (trodAll_cons_mk (Ext.trod laidOut (by kernel_rfl) (of_decide_eq_true (by kernel_rfl)) h4 x) (trodAll_cons_mk (Ext.trod laidOut (by kernel_rfl) (of_decide_eq_true (by kernel_rfl)) h5 x) (trodAll_cons_mk (Ext.trod laidOut (by kernel_rfl) (of_decide_eq_true (by kernel_rfl)) h6 x) (trodAll_cons_mk (Ext.trod laidOut (by kernel_rfl) (of_decide_eq_true (by kernel_rfl)) h7 x) (trodAll_cons_mk (Ext.trod laidOut (by kernel_rfl) (of_decide_eq_true (by kernel_rfl)) h8 x) trodAll_mk0))))))))), rfl, x.frame _, fun h => by cases h⟩
set_option maxHeartbeats 8000000 in
/-- largesse/largesselaw17.StripeTells, as it is given. -/
theorem stripeTells_proved : Rows.StripeTellsSaid :=
  OpenClaim.holds_of_wide 3 Tryz.f3 rfl rfl rfl rfl rfl rfl rfl ⟨rfl, rfl, rfl, rfl, rfl⟩ rfl rfl rfl rfl rfl (by as_aux_lemma => kernel_rfl) Tryz.func3 (joined (by as_aux_lemma => kernel_rfl) (by as_aux_lemma => kernel_rfl) (by as_aux_lemma => kernel_rfl) (by as_aux_lemma => kernel_rfl) (by as_aux_lemma => kernel_rfl) (by as_aux_lemma => kernel_rfl) (by as_aux_lemma => kernel_rfl) (by as_aux_lemma => kernel_rfl) (by as_aux_lemma => kernel_rfl) (by as_aux_lemma => kernel_rfl) (by as_aux_lemma => kernel_rfl) (by as_aux_lemma => kernel_rfl) (by as_aux_lemma => kernel_rfl) (by as_aux_lemma => kernel_rfl) (by as_aux_lemma => kernel_rfl) (by as_aux_lemma => kernel_rfl) (by as_aux_lemma => kernel_rfl) (by as_aux_lemma => kernel_rfl) (by as_aux_lemma => kernel_rfl) (by as_aux_lemma => kernel_rfl) rfl rfl rfl rfl (by as_aux_lemma => kernel_rfl) (by as_aux_lemma => kernel_rfl) (by as_aux_lemma => kernel_rfl) (by as_aux_lemma => kernel_rfl))
    (of_decide_eq_true (by kernel_rfl)) (by unfold Func.isWrapper; first | (rw [if_pos (by decide +kernel)]; kernel_rfl) | (rw [if_neg (by decide +kernel)]; exact ⟨rfl, rfl⟩))
    (fun os started H enc _ => stripeTells_row os started H enc)

end Go.Proofs.YtmbnjinlfeopaaaGreat

/- Parts T32a, T32, U32, V32, Pr, Ps, Pt, one behind the other. What is proved: said at the head of each part. No condition beside those said there. -/
import Derived.Test.YtakkkllpmpjdmaaRows
import Derived.Orders
import Derived.Deep.Draws
import Derived.Laws.World
import Derived.KernelRfl
import Derived.OrdersIn
import Derived.TacticsIn
import Derived.RangeFuncCalls
import Derived.Deep.LoopGhost
import Derived.Tactics
import Derived.Sort.LoopGhostIn
import Derived.RangeFuncLeaves
import Derived.RangeFuncNested
import Derived.RangeFuncRecord
import Derived.Laws.Sem
import Derived.OwnWalk
import Derived.RangeFuncWrites
import Derived.Laws.IdiomCopy
import Derived.WalkKit
import Derived.ProofKit
import Derived.OpenShut
import Derived.ChangeOld
import Derived.Below
import Derived.Test.YtakkkllpmpjdmaaProg
import Derived.MapKept
import Derived.Lib.AppendZerosOnto
import Derived.Laws.CopyRow
import Derived.Laws.Cells
import Derived.Lib.SlBytesConst
import Derived.Test.YtakkkllpmpjdmaaZPTallyTrees1
import Derived.Test.YtakkkllpmpjdmaaZPTallyTrees2
import Derived.Test.YtakkkllpmpjdmaaZPTallyTrees3
import Derived.Test.YtakkkllpmpjdmaaZPTallyTrees4
import Derived.Test.YtakkkllpmpjdmaaZPTallyTrees5
/- Printed by gen.py: for each Go function a pure function, and that the Go code comes to it. No condition beside the equation that says what the pure function gives. -/


set_option linter.unusedVariables false
set_option linter.unusedSimpArgs false
namespace Gk
open Go Go.Proofs

/-! math/bits.Len32 -/
noncomputable def math_bits_Len32 (a0x : UInt32) : Option Int :=
(((if (65536 : UInt32) ≤ a0x then some ((shr32 a0x 16), 16)
else some (a0x, 0))).bind fun x1 =>
(if (256 : UInt32) ≤ x1.1 then
((idx (([0, 1, 2, 2, 3, 3, 3, 3, 4, 4, 4, 4, 4, 4, 4, 4, 5, 5, 5, 5, 5, 5, 5, 5, 5, 5, 5, 5, 5, 5, 5, 5, 6, 6, 6, 6, 6, 6, 6, 6, 6, 6, 6, 6, 6, 6, 6, 6, 6, 6, 6, 6, 6, 6, 6, 6, 6, 6, 6, 6, 6, 6, 6, 6, 7, 7, 7, 7, 7, 7, 7, 7, 7, 7, 7, 7, 7, 7, 7, 7, 7, 7, 7, 7, 7, 7, 7, 7, 7, 7, 7, 7, 7, 7, 7, 7, 7, 7, 7, 7, 7, 7, 7, 7, 7, 7, 7, 7, 7, 7, 7, 7, 7, 7, 7, 7, 7, 7, 7, 7, 7, 7, 7, 7, 7, 7, 7, 7, 8, 8, 8, 8, 8, 8, 8, 8, 8, 8, 8, 8, 8, 8, 8, 8, 8, 8, 8, 8, 8, 8, 8, 8, 8, 8, 8, 8, 8, 8, 8, 8, 8, 8, 8, 8, 8, 8, 8, 8, 8, 8, 8, 8, 8, 8, 8, 8, 8, 8, 8, 8, 8, 8, 8, 8, 8, 8, 8, 8, 8, 8, 8, 8, 8, 8, 8, 8, 8, 8, 8, 8, 8, 8, 8, 8, 8, 8, 8, 8, 8, 8, 8, 8, 8, 8, 8, 8, 8, 8, 8, 8, 8, 8, 8, 8, 8, 8, 8, 8, 8, 8, 8, 8, 8, 8, 8, 8, 8, 8, 8, 8, 8, 8, 8, 8, 8, 8, 8, 8, 8, 8, 8, 8, 8, 8, 8, 8] : List UInt8)) (((((shr32 x1.1 8)).toUInt8)).toNat : Int)).bind fun c5 => some (wI ((wI (x1.2 + 8)) + (c5.toNat : Int))))
else
((idx (([0, 1, 2, 2, 3, 3, 3, 3, 4, 4, 4, 4, 4, 4, 4, 4, 5, 5, 5, 5, 5, 5, 5, 5, 5, 5, 5, 5, 5, 5, 5, 5, 6, 6, 6, 6, 6, 6, 6, 6, 6, 6, 6, 6, 6, 6, 6, 6, 6, 6, 6, 6, 6, 6, 6, 6, 6, 6, 6, 6, 6, 6, 6, 6, 7, 7, 7, 7, 7, 7, 7, 7, 7, 7, 7, 7, 7, 7, 7, 7, 7, 7, 7, 7, 7, 7, 7, 7, 7, 7, 7, 7, 7, 7, 7, 7, 7, 7, 7, 7, 7, 7, 7, 7, 7, 7, 7, 7, 7, 7, 7, 7, 7, 7, 7, 7, 7, 7, 7, 7, 7, 7, 7, 7, 7, 7, 7, 7, 8, 8, 8, 8, 8, 8, 8, 8, 8, 8, 8, 8, 8, 8, 8, 8, 8, 8, 8, 8, 8, 8, 8, 8, 8, 8, 8, 8, 8, 8, 8, 8, 8, 8, 8, 8, 8, 8, 8, 8, 8, 8, 8, 8, 8, 8, 8, 8, 8, 8, 8, 8, 8, 8, 8, 8, 8, 8, 8, 8, 8, 8, 8, 8, 8, 8, 8, 8, 8, 8, 8, 8, 8, 8, 8, 8, 8, 8, 8, 8, 8, 8, 8, 8, 8, 8, 8, 8, 8, 8, 8, 8, 8, 8, 8, 8, 8, 8, 8, 8, 8, 8, 8, 8, 8, 8, 8, 8, 8, 8, 8, 8, 8, 8, 8, 8, 8, 8, 8, 8, 8, 8, 8, 8, 8, 8, 8, 8] : List UInt8)) (((x1.1.toUInt8)).toNat : Int)).bind fun c6 => some (wI (x1.2 + (c6.toNat : Int))))))
set_option maxRecDepth 100000 in
set_option maxHeartbeats 8000000 in
theorem math_bits_Len32_calls (a0x : UInt32) (r : Int) (w0 : World) (H : math_bits_Len32 a0x = some r) :
    Calls Try.prog 88 [(u32 a0x)].toArray w0 (fun e w' => e = .returned (i64 r) ∧ Ext w0 w') := by
  have hE : Ext w0 w0 := Ext.refl w0
  unfold math_bits_Len32 at H
  refine calls_W (n := 19) Try.func88 rfl rfl rfl ?_
  refine W_seq ?_
  refine W_reg (by kernel_rfl) ?_
  refine wla rfl rfl (q_assign (v := (i64 0)) rfl rfl) ?_
  refine wl_nil ?_
  refine W_th ?_
  refine W_seq ?_
  obtain ⟨x1, H1, H⟩ := Option.bind_eq_some_iff.1 H
  refine W_mid (fun f w => f 0 = (u32 x1.1) ∧ f 2 = (i64 x1.2) ∧ f 19 = undef ∧ Ext w0 w) ?_ ?_
  · refine W_seq ?_
    refine W_reg (by kernel_rfl) ?_
    refine wla rfl rfl (q_move (v := (u32 a0x)) rfl rfl) ?_
    refine wla rfl rfl (q_ge32 rfl rfl (cst32 (65536 : UInt32) rfl)) ?_
    refine wl_nil ?_
    refine W_th ?_
    refine W_cond _ rfl rfl (fun hb2 => ?_) (fun hb2 => ?_)
    · replace H1 := (if_pos (of_decide_eq_true hb2)).symm.trans H1
      refine W_seq ?_
      refine W_reg (by kernel_rfl) ?_
      refine wla rfl rfl (q_move (v := (u32 a0x)) rfl rfl) ?_
      refine wla rfl rfl (q_shr32 16 rfl rfl rfl rfl) ?_
      refine wla rfl rfl (q_assign (v := (u32 ((shr32 a0x 16)))) rfl rfl) ?_
      refine wl_nil ?_
      refine W_th ?_
      refine W_reg (by kernel_rfl) ?_
      refine wla rfl rfl (q_assign (v := (i64 16)) rfl rfl) ?_
      refine wl_nil ?_
      obtain rfl := Option.some.inj H1
      exact ⟨rfl, rfl, rfl, hE⟩
    · replace H1 := (if_neg (of_decide_eq_false hb2)).symm.trans H1
      refine W_skip ?_
      obtain rfl := Option.some.inj H1
      exact ⟨rfl, rfl, rfl, hE⟩
  · rintro _ w3 ⟨s0_3, s2_3, s19_3, hE3⟩
    refine W_th ?_
    refine W_seq ?_
    refine W_seq ?_
    refine W_reg (by kernel_rfl) ?_
    refine wla rfl rfl (q_move (v := (u32 x1.1)) rfl s0_3) ?_
    refine wla rfl rfl (q_ge32 rfl rfl (cst32 (256 : UInt32) rfl)) ?_
    refine wl_nil ?_
    refine W_th ?_
    refine W_cond _ rfl rfl (fun hb4 => ?_) (fun hb4 => ?_)
    · replace H := (if_pos (of_decide_eq_true hb4)).symm.trans H
      refine W_seq ?_
      refine W_reg (by kernel_rfl) ?_
      refine wla rfl rfl (q_move (v := (u32 x1.1)) rfl s0_3) ?_
      refine wla rfl rfl (q_shr32 8 rfl rfl rfl rfl) ?_
      refine wla rfl rfl (q_assign (v := (u32 ((shr32 x1.1 8)))) rfl rfl) ?_
      refine wl_nil ?_
      refine W_th ?_
      refine W_reg (by kernel_rfl) ?_
      refine wla rfl rfl (q_move (v := (i64 x1.2)) rfl s2_3) ?_
      refine wla rfl rfl (q_addI rfl rfl rfl) ?_
      refine wla rfl rfl (q_assign (v := (i64 ((wI (x1.2 + 8))))) rfl rfl) ?_
      refine wl_nil ?_
      refine W_th ?_
      refine W_seq ?_
      refine W_reg (by kernel_rfl) ?_
      refine wla rfl rfl (q_move (v := (i64 ((wI (x1.2 + 8))))) rfl rfl) ?_
      refine wla rfl rfl (q_move (v := (u32 ((shr32 x1.1 8)))) rfl rfl) ?_
      refine wla rfl rfl (q_cvt832 rfl rfl rfl rfl) ?_
      obtain ⟨c5, hc5, H⟩ := Option.bind_eq_some_iff.1 H
      refine wla rfl rfl (q_indexS rfl Try.underlying9 rfl rfl hc5) ?_
      refine wla rfl rfl (q_cvtI8 rfl rfl rfl rfl) ?_
      refine wla rfl rfl (q_addI rfl rfl rfl) ?_
      refine wla rfl rfl (q_assign (v := (i64 ((wI ((wI (x1.2 + 8)) + (c5.toNat : Int)))))) rfl rfl) ?_
      refine wl_nil ?_
      refine W_th ?_
      refine W_ret ?_
      obtain rfl := Option.some.inj H
      refine rt1 (i64 ((wI ((wI (x1.2 + 8)) + (c5.toNat : Int))))) rfl rfl rfl s19_3 ?_
      exact ⟨rfl, hE3⟩
    · replace H := (if_neg (of_decide_eq_false hb4)).symm.trans H
      refine W_skip ?_
      refine W_th ?_
      refine W_seq ?_
      refine W_reg (by kernel_rfl) ?_
      refine wla rfl rfl (q_move (v := (i64 x1.2)) rfl s2_3) ?_
      refine wla rfl rfl (q_move (v := (u32 x1.1)) rfl s0_3) ?_
      refine wla rfl rfl (q_cvt832 rfl rfl rfl rfl) ?_
      obtain ⟨c6, hc6, H⟩ := Option.bind_eq_some_iff.1 H
      refine wla rfl rfl (q_indexS rfl Try.underlying9 rfl rfl hc6) ?_
      refine wla rfl rfl (q_cvtI8 rfl rfl rfl rfl) ?_
      refine wla rfl rfl (q_addI rfl rfl rfl) ?_
      refine wla rfl rfl (q_assign (v := (i64 ((wI (x1.2 + (c6.toNat : Int)))))) rfl rfl) ?_
      refine wl_nil ?_
      refine W_th ?_
      refine W_ret ?_
      obtain rfl := Option.some.inj H
      refine rt1 (i64 ((wI (x1.2 + (c6.toNat : Int))))) rfl rfl rfl s19_3 ?_
      exact ⟨rfl, hE3⟩

/-! math/bits.Len64 -/
noncomputable def math_bits_Len64 (a0x : UInt64) : Option Int :=
(((if (4294967296 : UInt64) ≤ a0x then some ((shr64 a0x 32), 32)
else some (a0x, 0))).bind fun x1 =>
(((if (65536 : UInt64) ≤ x1.1 then some ((shr64 x1.1 16), (wI (x1.2 + 16)))
else some (x1.1, x1.2))).bind fun x4 =>
(if (256 : UInt64) ≤ x4.1 then
((idx (([0, 1, 2, 2, 3, 3, 3, 3, 4, 4, 4, 4, 4, 4, 4, 4, 5, 5, 5, 5, 5, 5, 5, 5, 5, 5, 5, 5, 5, 5, 5, 5, 6, 6, 6, 6, 6, 6, 6, 6, 6, 6, 6, 6, 6, 6, 6, 6, 6, 6, 6, 6, 6, 6, 6, 6, 6, 6, 6, 6, 6, 6, 6, 6, 7, 7, 7, 7, 7, 7, 7, 7, 7, 7, 7, 7, 7, 7, 7, 7, 7, 7, 7, 7, 7, 7, 7, 7, 7, 7, 7, 7, 7, 7, 7, 7, 7, 7, 7, 7, 7, 7, 7, 7, 7, 7, 7, 7, 7, 7, 7, 7, 7, 7, 7, 7, 7, 7, 7, 7, 7, 7, 7, 7, 7, 7, 7, 7, 8, 8, 8, 8, 8, 8, 8, 8, 8, 8, 8, 8, 8, 8, 8, 8, 8, 8, 8, 8, 8, 8, 8, 8, 8, 8, 8, 8, 8, 8, 8, 8, 8, 8, 8, 8, 8, 8, 8, 8, 8, 8, 8, 8, 8, 8, 8, 8, 8, 8, 8, 8, 8, 8, 8, 8, 8, 8, 8, 8, 8, 8, 8, 8, 8, 8, 8, 8, 8, 8, 8, 8, 8, 8, 8, 8, 8, 8, 8, 8, 8, 8, 8, 8, 8, 8, 8, 8, 8, 8, 8, 8, 8, 8, 8, 8, 8, 8, 8, 8, 8, 8, 8, 8, 8, 8, 8, 8, 8, 8, 8, 8, 8, 8, 8, 8, 8, 8, 8, 8, 8, 8, 8, 8, 8, 8, 8, 8] : List UInt8)) (((((shr64 x4.1 8)).toUInt8)).toNat : Int)).bind fun c8 => some (wI ((wI (x4.2 + 8)) + (c8.toNat : Int))))
else
((idx (([0, 1, 2, 2, 3, 3, 3, 3, 4, 4, 4, 4, 4, 4, 4, 4, 5, 5, 5, 5, 5, 5, 5, 5, 5, 5, 5, 5, 5, 5, 5, 5, 6, 6, 6, 6, 6, 6, 6, 6, 6, 6, 6, 6, 6, 6, 6, 6, 6, 6, 6, 6, 6, 6, 6, 6, 6, 6, 6, 6, 6, 6, 6, 6, 7, 7, 7, 7, 7, 7, 7, 7, 7, 7, 7, 7, 7, 7, 7, 7, 7, 7, 7, 7, 7, 7, 7, 7, 7, 7, 7, 7, 7, 7, 7, 7, 7, 7, 7, 7, 7, 7, 7, 7, 7, 7, 7, 7, 7, 7, 7, 7, 7, 7, 7, 7, 7, 7, 7, 7, 7, 7, 7, 7, 7, 7, 7, 7, 8, 8, 8, 8, 8, 8, 8, 8, 8, 8, 8, 8, 8, 8, 8, 8, 8, 8, 8, 8, 8, 8, 8, 8, 8, 8, 8, 8, 8, 8, 8, 8, 8, 8, 8, 8, 8, 8, 8, 8, 8, 8, 8, 8, 8, 8, 8, 8, 8, 8, 8, 8, 8, 8, 8, 8, 8, 8, 8, 8, 8, 8, 8, 8, 8, 8, 8, 8, 8, 8, 8, 8, 8, 8, 8, 8, 8, 8, 8, 8, 8, 8, 8, 8, 8, 8, 8, 8, 8, 8, 8, 8, 8, 8, 8, 8, 8, 8, 8, 8, 8, 8, 8, 8, 8, 8, 8, 8, 8, 8, 8, 8, 8, 8, 8, 8, 8, 8, 8, 8, 8, 8, 8, 8, 8, 8, 8, 8] : List UInt8)) (((x4.1.toUInt8)).toNat : Int)).bind fun c9 => some (wI (x4.2 + (c9.toNat : Int)))))))
set_option maxRecDepth 100000 in
set_option maxHeartbeats 8000000 in
theorem math_bits_Len64_calls (a0x : UInt64) (r : Int) (w0 : World) (H : math_bits_Len64 a0x = some r) :
    Calls Try.prog 89 [(u64 a0x)].toArray w0 (fun e w' => e = .returned (i64 r) ∧ Ext w0 w') := by
  have hE : Ext w0 w0 := Ext.refl w0
  unfold math_bits_Len64 at H
  refine calls_W (n := 25) Try.func89 rfl rfl rfl ?_
  refine W_seq ?_
  refine W_reg (by kernel_rfl) ?_
  refine wla rfl rfl (q_assign (v := (i64 0)) rfl rfl) ?_
  refine wl_nil ?_
  refine W_th ?_
  refine W_seq ?_
  obtain ⟨x1, H1, H⟩ := Option.bind_eq_some_iff.1 H
  refine W_mid (fun f w => f 0 = (u64 x1.1) ∧ f 2 = (i64 x1.2) ∧ f 25 = undef ∧ Ext w0 w) ?_ ?_
  · refine W_seq ?_
    refine W_reg (by kernel_rfl) ?_
    refine wla rfl rfl (q_move (v := (u64 a0x)) rfl rfl) ?_
    refine wla rfl rfl (q_ge64 rfl rfl (cst64 (4294967296 : UInt64) rfl)) ?_
    refine wl_nil ?_
    refine W_th ?_
    refine W_cond _ rfl rfl (fun hb2 => ?_) (fun hb2 => ?_)
    · replace H1 := (if_pos (of_decide_eq_true hb2)).symm.trans H1
      refine W_seq ?_
      refine W_reg (by kernel_rfl) ?_
      refine wla rfl rfl (q_move (v := (u64 a0x)) rfl rfl) ?_
      refine wla rfl rfl (q_shr64 32 rfl rfl rfl rfl) ?_
      refine wla rfl rfl (q_assign (v := (u64 ((shr64 a0x 32)))) rfl rfl) ?_
      refine wl_nil ?_
      refine W_th ?_
      refine W_reg (by kernel_rfl) ?_
      refine wla rfl rfl (q_assign (v := (i64 32)) rfl rfl) ?_
      refine wl_nil ?_
      obtain rfl := Option.some.inj H1
      exact ⟨rfl, rfl, rfl, hE⟩
    · replace H1 := (if_neg (of_decide_eq_false hb2)).symm.trans H1
      refine W_skip ?_
      obtain rfl := Option.some.inj H1
      exact ⟨rfl, rfl, rfl, hE⟩
  · rintro _ w3 ⟨s0_3, s2_3, s25_3, hE3⟩
    refine W_th ?_
    refine W_seq ?_
    obtain ⟨x4, H4, H⟩ := Option.bind_eq_some_iff.1 H
    refine W_mid (fun f w => f 0 = (u64 x4.1) ∧ f 2 = (i64 x4.2) ∧ f 25 = undef ∧ Ext w0 w) ?_ ?_
    · refine W_seq ?_
      refine W_reg (by kernel_rfl) ?_
      refine wla rfl rfl (q_move (v := (u64 x1.1)) rfl s0_3) ?_
      refine wla rfl rfl (q_ge64 rfl rfl (cst64 (65536 : UInt64) rfl)) ?_
      refine wl_nil ?_
      refine W_th ?_
      refine W_cond _ rfl rfl (fun hb5 => ?_) (fun hb5 => ?_)
      · replace H4 := (if_pos (of_decide_eq_true hb5)).symm.trans H4
        refine W_seq ?_
        refine W_reg (by kernel_rfl) ?_
        refine wla rfl rfl (q_move (v := (u64 x1.1)) rfl s0_3) ?_
        refine wla rfl rfl (q_shr64 16 rfl rfl rfl rfl) ?_
        refine wla rfl rfl (q_assign (v := (u64 ((shr64 x1.1 16)))) rfl rfl) ?_
        refine wl_nil ?_
        refine W_th ?_
        refine W_reg (by kernel_rfl) ?_
        refine wla rfl rfl (q_move (v := (i64 x1.2)) rfl s2_3) ?_
        refine wla rfl rfl (q_addI rfl rfl rfl) ?_
        refine wla rfl rfl (q_assign (v := (i64 ((wI (x1.2 + 16))))) rfl rfl) ?_
        refine wl_nil ?_
        obtain rfl := Option.some.inj H4
        exact ⟨rfl, rfl, s25_3, hE3⟩
      · replace H4 := (if_neg (of_decide_eq_false hb5)).symm.trans H4
        refine W_skip ?_
        obtain rfl := Option.some.inj H4
        exact ⟨s0_3, s2_3, s25_3, hE3⟩
    · rintro _ w6 ⟨s0_6, s2_6, s25_6, hE6⟩
      refine W_th ?_
      refine W_seq ?_
      refine W_seq ?_
      refine W_reg (by kernel_rfl) ?_
      refine wla rfl rfl (q_move (v := (u64 x4.1)) rfl s0_6) ?_
      refine wla rfl rfl (q_ge64 rfl rfl (cst64 (256 : UInt64) rfl)) ?_
      refine wl_nil ?_
      refine W_th ?_
      refine W_cond _ rfl rfl (fun hb7 => ?_) (fun hb7 => ?_)
      · replace H := (if_pos (of_decide_eq_true hb7)).symm.trans H
        refine W_seq ?_
        refine W_reg (by kernel_rfl) ?_
        refine wla rfl rfl (q_move (v := (u64 x4.1)) rfl s0_6) ?_
        refine wla rfl rfl (q_shr64 8 rfl rfl rfl rfl) ?_
        refine wla rfl rfl (q_assign (v := (u64 ((shr64 x4.1 8)))) rfl rfl) ?_
        refine wl_nil ?_
        refine W_th ?_
        refine W_reg (by kernel_rfl) ?_
        refine wla rfl rfl (q_move (v := (i64 x4.2)) rfl s2_6) ?_
        refine wla rfl rfl (q_addI rfl rfl rfl) ?_
        refine wla rfl rfl (q_assign (v := (i64 ((wI (x4.2 + 8))))) rfl rfl) ?_
        refine wl_nil ?_
        refine W_th ?_
        refine W_seq ?_
        refine W_reg (by kernel_rfl) ?_
        refine wla rfl rfl (q_move (v := (i64 ((wI (x4.2 + 8))))) rfl rfl) ?_
        refine wla rfl rfl (q_move (v := (u64 ((shr64 x4.1 8)))) rfl rfl) ?_
        refine wla rfl rfl (q_cvt864 rfl rfl rfl rfl) ?_
        obtain ⟨c8, hc8, H⟩ := Option.bind_eq_some_iff.1 H
        refine wla rfl rfl (q_indexS rfl Try.underlying9 rfl rfl hc8) ?_
        refine wla rfl rfl (q_cvtI8 rfl rfl rfl rfl) ?_
        refine wla rfl rfl (q_addI rfl rfl rfl) ?_
        refine wla rfl rfl (q_assign (v := (i64 ((wI ((wI (x4.2 + 8)) + (c8.toNat : Int)))))) rfl rfl) ?_
        refine wl_nil ?_
        refine W_th ?_
        refine W_ret ?_
        obtain rfl := Option.some.inj H
        refine rt1 (i64 ((wI ((wI (x4.2 + 8)) + (c8.toNat : Int))))) rfl rfl rfl s25_6 ?_
        exact ⟨rfl, hE6⟩
      · replace H := (if_neg (of_decide_eq_false hb7)).symm.trans H
        refine W_skip ?_
        refine W_th ?_
        refine W_seq ?_
        refine W_reg (by kernel_rfl) ?_
        refine wla rfl rfl (q_move (v := (i64 x4.2)) rfl s2_6) ?_
        refine wla rfl rfl (q_move (v := (u64 x4.1)) rfl s0_6) ?_
        refine wla rfl rfl (q_cvt864 rfl rfl rfl rfl) ?_
        obtain ⟨c9, hc9, H⟩ := Option.bind_eq_some_iff.1 H
        refine wla rfl rfl (q_indexS rfl Try.underlying9 rfl rfl hc9) ?_
        refine wla rfl rfl (q_cvtI8 rfl rfl rfl rfl) ?_
        refine wla rfl rfl (q_addI rfl rfl rfl) ?_
        refine wla rfl rfl (q_assign (v := (i64 ((wI (x4.2 + (c9.toNat : Int)))))) rfl rfl) ?_
        refine wl_nil ?_
        refine W_th ?_
        refine W_ret ?_
        obtain rfl := Option.some.inj H
        refine rt1 (i64 ((wI (x4.2 + (c9.toNat : Int))))) rfl rfl rfl s25_6 ?_
        exact ⟨rfl, hE6⟩

/-! math/bits.Len -/
noncomputable def math_bits_Len (a0x : UInt64) : Option Int :=
((math_bits_Len64 a0x).bind fun r1 => some r1)
set_option maxRecDepth 100000 in
set_option maxHeartbeats 8000000 in
theorem math_bits_Len_calls (a0x : UInt64) (r : Int) (w0 : World) (H : math_bits_Len a0x = some r) :
    Calls Try.prog 77 [(u64 a0x)].toArray w0 (fun e w' => e = .returned (i64 r) ∧ Ext w0 w') := by
  have hE : Ext w0 w0 := Ext.refl w0
  unfold math_bits_Len at H
  refine calls_W (n := 8) Try.func77 rfl rfl rfl ?_
  refine W_seq ?_
  refine W_reg (by kernel_rfl) ?_
  refine wla rfl rfl (q_assign (v := (i64 0)) rfl rfl) ?_
  refine wl_nil ?_
  refine W_th ?_
  refine W_seq ?_
  refine W_cond false rfl rfl (fun hb => by cases hb) (fun _ => ?_)
  refine W_skip ?_
  refine W_th ?_
  refine W_seq ?_
  refine W_reg (by kernel_rfl) ?_
  refine wla rfl rfl (q_move (v := (u64 a0x)) rfl rfl) ?_
  obtain ⟨r1, hr1, H⟩ := Option.bind_eq_some_iff.1 H
  refine wls rfl rfl (stp_call (vs := [(u64 a0x)]) Try.func89 rfl rfl rfl (ar1 rfl) (math_bits_Len64_calls a0x  r1 _  hr1) ?_)
  rintro _ w1 ⟨rfl, x1⟩
  refine ⟨_, rfl, ?_⟩
  have e2 := hE.trans x1
  refine wla rfl rfl (q_assign (v := (i64 r1)) rfl rfl) ?_
  refine wl_nil ?_
  refine W_th ?_
  refine W_ret ?_
  obtain rfl := Option.some.inj H
  refine rt1 (i64 r1) rfl rfl rfl rfl ?_
  exact ⟨rfl, e2⟩

/-! slices.Equal[[]byte,byte] -/
noncomputable def slices_Equal_sbytebyte (a0s1 : List UInt8) (a1s2 : List UInt8) : Option Bool :=
(if (a0s1.length : Int) = (a1s2.length : Int) then
((iterC (fun s2 : Int =>
(if s2 < (a0s1.length : Int) then
((idx a0s1 s2).bind fun c7 =>
((idx a1s2 s2).bind fun c8 =>
(if c7 = c8 then some (.inl (wI (s2 + 1)))
else some (.inr (.inr false)))))
else some (.inr (.inl ())))) 0).bind (Sum.elim (fun y2 => some true) (fun q2 => some q2)))
else some false)
set_option maxRecDepth 100000 in
set_option maxHeartbeats 8000000 in
theorem slices_Equal_sbytebyte_calls (a0s1 : List UInt8) (a1s2 : List UInt8) (p0 : Value) (p1 : Value) (r : Bool) (w0 : World) (hp0 : By w0 [] p0 a0s1) (hp1 : By w0 [] p1 a1s2) (H : slices_Equal_sbytebyte a0s1 a1s2 = some r) :
    Calls Try.prog 54 [p0, p1].toArray w0 (fun e w' => e = .returned (.bool r) ∧ Ext w0 w') := by
  have hE : Ext w0 w0 := Ext.refl w0
  unfold slices_Equal_sbytebyte at H
  refine calls_W (n := 26) Try.func54 rfl rfl rfl ?_
  refine W_seq ?_
  refine W_reg (by kernel_rfl) ?_
  refine wla rfl rfl (q_assign (v := (.bool false)) rfl rfl) ?_
  refine wl_nil ?_
  refine W_th ?_
  refine W_seq ?_
  refine W_seq ?_
  refine W_reg (by kernel_rfl) ?_
  refine wla rfl rfl (q_move (v := p0) rfl rfl) ?_
  refine wla rfl rfl (q_len rfl T22.sl rfl (hp0.lift (Lift.ext hE _))) ?_
  refine wla rfl rfl (q_move (v := p1) rfl rfl) ?_
  refine wla rfl rfl (q_len rfl T22.sl rfl (hp1.lift (Lift.ext hE _))) ?_
  refine wla rfl rfl (q_neI rfl rfl rfl) ?_
  refine wl_nil ?_
  refine W_th ?_
  refine W_cond _ rfl rfl (fun hb1 => ?_) (fun hb1 => ?_)
  · replace H := (if_neg (ndec_t hb1)).symm.trans H
    refine W_seq ?_
    refine W_reg (by kernel_rfl) ?_
    refine wla rfl rfl (q_assign (v := (.bool false)) rfl rfl) ?_
    refine wl_nil ?_
    refine W_th ?_
    refine W_ret ?_
    refine th_r ?_
    obtain rfl := Option.some.inj H
    refine rt1 (.bool false) rfl rfl rfl rfl ?_
    exact ⟨rfl, hE⟩
  · replace H := (if_pos (ndec_f hb1)).symm.trans H
    refine W_skip ?_
    refine W_th ?_
    refine W_seq ?_
    refine W_seq ?_
    refine W_reg (by kernel_rfl) ?_
    refine wla rfl rfl (q_move (v := p0) rfl rfl) ?_
    refine wla rfl rfl (q_len rfl T22.sl rfl (hp0.lift (Lift.ext hE _))) ?_
    refine wla rfl rfl (q_move (v := (i64 0)) rfl rfl) ?_
    refine wl_nil ?_
    refine W_th ?_
    obtain ⟨x2, G2, H⟩ := Option.bind_eq_some_iff.1 H
    refine W_mid (fun f w => ∃ y2, x2 = .inl y2 ∧ f 26 = undef ∧ Ext w0 w) ?_ ?_
    · refine W_block ?_
      refine W_loop (fun s2 f w => f 0 = p0 ∧ f 1 = p1 ∧ f 12 = (i64 ((a0s1.length : Int))) ∧ f 13 = (i64 s2) ∧ f 26 = undef ∧ Ext w0 w) G2 ?_ ?_
      · exact ⟨rfl, rfl, rfl, rfl, rfl, hE⟩
      · rintro s2 _ _ w3 ⟨s0_3, s1_3, s12_3, s13_3, s26_3, hE3⟩ H2 hr2
        refine W_seq ?_
        refine W_reg (by kernel_rfl) ?_
        refine wla rfl rfl (q_ltI rfl s13_3 s12_3) ?_
        refine wl_nil ?_
        refine W_th ?_
        refine W_seq ?_
        refine W_cond _ rfl rfl (fun hb4 => ?_) (fun hb4 => ?_)
        · replace H2 := (if_pos (of_decide_eq_true hb4)).symm.trans H2
          refine W_skip ?_
          refine W_th ?_
          refine W_seq ?_
          refine W_block ?_
          refine W_seq ?_
          refine W_reg (by kernel_rfl) ?_
          refine wla rfl rfl (q_move (v := (i64 s2)) rfl s13_3) ?_
          refine wla rfl rfl (q_assign (v := (i64 s2)) rfl rfl) ?_
          refine wl_nil ?_
          refine W_th ?_
          refine W_seq ?_
          refine W_draw [3, 7] [(0, 0), (1, 0), (2, 0), (3, 1), (4, 0), (5, 0), (6, 0), (7, 1), (8, 0)] mixed (by kernel_rfl) (by kernel_rfl) (by kernel_rfl) (by kernel_rfl) ?_
          have x5 := Ext.drew w3
          have e6 := hE3.trans x5
          refine wsa rfl rfl rfl (q_move (v := p0) rfl s0_3) ?_
          refine wsa rfl rfl rfl (q_move (v := (i64 s2)) rfl rfl) ?_
          obtain ⟨c7, hc7, H2⟩ := Option.bind_eq_some_iff.1 H2
          refine wsa rfl rfl rfl (q_adr rfl T22 rfl rfl (hp0.lift (Lift.ext e6 _)) hc7) ?_
          refine wsq rfl rfl rfl (q_loadS rfl T22 rfl (hp0.lift (Lift.ext e6 _)) hc7) ?_
          refine wsa rfl rfl rfl (q_move (v := p1) rfl s1_3) ?_
          refine wsa rfl rfl rfl (q_move (v := (i64 s2)) rfl rfl) ?_
          obtain ⟨c8, hc8, H2⟩ := Option.bind_eq_some_iff.1 H2
          refine wsa rfl rfl rfl (q_adr rfl T22 rfl rfl (hp1.lift (Lift.ext e6 _)) hc8) ?_
          refine wsq rfl rfl rfl (q_loadS rfl T22 rfl (hp1.lift (Lift.ext e6 _)) hc8) ?_
          refine wsa rfl rfl rfl (q_ne8 rfl rfl rfl) ?_
          refine ws_nil ?_
          refine W_th ?_
          refine W_cond _ rfl rfl (fun hb9 => ?_) (fun hb9 => ?_)
          · replace H2 := (if_neg (ndec_t hb9)).symm.trans H2
            refine W_seq ?_
            refine W_reg (by kernel_rfl) ?_
            refine wla rfl rfl (q_assign (v := (.bool false)) rfl rfl) ?_
            refine wl_nil ?_
            refine W_th ?_
            refine W_ret ?_
            refine bk_r ?_
            refine th_r ?_
            obtain rfl := Option.some.inj H2
            obtain rfl := hr2 _ rfl
            simp only [Sum.elim_inr] at H
            refine th_r ?_
            refine bk_r ?_
            refine th_r ?_
            refine th_r ?_
            obtain rfl := Option.some.inj H
            refine rt1 (.bool false) rfl rfl rfl s26_3 ?_
            exact ⟨rfl, e6⟩
          · replace H2 := (if_pos (ndec_f hb9)).symm.trans H2
            refine W_skip ?_
            refine bk_n ?_
            refine W_th ?_
            refine W_reg (by kernel_rfl) ?_
            refine wla rfl rfl (q_addI rfl s13_3 rfl) ?_
            refine wla rfl rfl (q_move (v := (i64 ((wI (s2 + 1))))) rfl rfl) ?_
            refine wl_nil ?_
            obtain rfl := Option.some.inj H2
            exact ⟨_, rfl, s0_3, s1_3, s12_3, rfl, s26_3, e6⟩
        · replace H2 := (if_neg (of_decide_eq_false hb4)).symm.trans H2
          refine W_exit ?_
          refine th_x ?_
          obtain rfl := Option.some.inj H2
          obtain rfl := hr2 _ rfl
          refine th_x ?_
          refine bk_x ?_
          exact ⟨_, rfl, s26_3, hE3⟩
    · rintro _ w11 ⟨y2, rfl, s26_11, hE11⟩
      simp only [Sum.elim_inl] at H
      refine W_th ?_
      refine W_seq ?_
      refine W_reg (by kernel_rfl) ?_
      refine wla rfl rfl (q_assign (v := (.bool true)) rfl rfl) ?_
      refine wl_nil ?_
      refine W_th ?_
      refine W_ret ?_
      obtain rfl := Option.some.inj H
      refine rt1 (.bool true) rfl rfl rfl s26_11 ?_
      exact ⟨rfl, hE11⟩

end Gk

/- Printed by gen.py: for each Go function a pure function, and that the Go code comes to it. No condition beside the equation that says what the pure function gives. -/

set_option linter.unusedVariables false
set_option linter.unusedSimpArgs false
namespace Gk
open Go Go.Proofs

/-! largesse/tally.item -/
noncomputable def tally_item (a0b : List UInt8) : Option (List UInt8) :=
((hash_Sum ([([(0 : UInt8)] : List UInt8), a0b] : List (List UInt8))).bind fun r5 => some r5)
set_option maxRecDepth 100000 in
set_option maxHeartbeats 8000000 in
theorem tally_item_calls (a0b : List UInt8) (p0 : Value) (r : List UInt8) (w0 : World) (hp0 : By w0 [] p0 a0b) (H : tally_item a0b = some r) :
    Calls Try.prog 44 [p0].toArray w0 (fun e w' => ∃ u0 : Value, e = .returned u0 ∧ Ext w0 w' ∧ Nw w0 u0 ∧ OwK (Sc u8) w' [] 5 u0 r) := by
  have hE : Ext w0 w0 := Ext.refl w0
  unfold tally_item at H
  refine calls_W (n := 7) Try.func44 rfl rfl rfl ?_
  refine W_seq ?_
  refine W_reg (by kernel_rfl) ?_
  refine wla rfl rfl (q_assign (v := (.slice none 0 0)) rfl rfl) ?_
  refine wl_nil ?_
  refine W_th ?_
  refine W_seq ?_
  refine W_reg (by kernel_rfl) ?_
  refine wls rfl rfl (stp_lit (L := []) (R := (Sc u8)) [(u8 0)] ([(0 : UInt8)] : List UInt8) rfl T22 rfl (by exact ⟨rfl, (cst8 (0 : UInt8) rfl), trivial⟩) rfl (litC u8 (oneC_u8) (us := [(u8 0)]) (l := ([(0 : UInt8)] : List UInt8)) rfl) rfl (litS u8 (us := [(u8 0)]) (l := ([(0 : UInt8)] : List UInt8)) rfl) ?_)
  intro v1 w1 o1 n1 g1 l1
  have x1 := grown_ext g1
  have i1 : By w1 [] v1 (([(0 : UInt8)] : List UInt8)) := OwK.slk (Sc.stab _) _ o1 (fun k hk => (Old.nil _) k (n1 k hk)) (fun _ h => h.2)
  have e2 := hE.trans x1
  refine wla rfl rfl (q_move (v := p0) rfl rfl) ?_
  refine wls rfl rfl (stp_lit (L := []) (R := By) [v1, p0] ([([(0 : UInt8)] : List UInt8), a0b] : List (List UInt8)) rfl T27 rfl (by exact ⟨rfl, rfl, rfl, rfl, trivial⟩) rfl (LitR.cells (R := By) (w := w1) (L := []) (l := ([([(0 : UInt8)] : List UInt8), a0b] : List (List UInt8))) (LitR.cons i1 (LitR.cons (hp0.lift (Lift.arg e2 nv_nil)) LitR.nil)) (fun u x h => cells_sl u x h)) rfl (LitR.all (R := By) (w := w1) (L := []) (l := ([([(0 : UInt8)] : List UInt8), a0b] : List (List UInt8))) (SlK.stab (Sc.stab _)) (LitR.cons i1 (LitR.cons (hp0.lift (Lift.arg e2 nv_nil)) LitR.nil))) ?_)
  intro v3 w3 o3 n3 g3 l3
  have x3 := grown_ext g3
  have i3 : Rw w3 [] v3 (([([(0 : UInt8)] : List UInt8), a0b] : List (List UInt8))) := OwK.slk (SlK.stab (Sc.stab _)) _ o3 (fun k hk => (Old.nil _) k (n3 k hk)) (fun _ h => h.2)
  replace i1 := i1.lift (Lift.ext x3 _)
  have e4 := e2.trans x3
  obtain ⟨r5, hr5, H⟩ := Option.bind_eq_some_iff.1 H
  refine wls rfl rfl (stp_call (vs := [v3]) Try.func12 rfl rfl rfl (ar1 rfl) (hash_Sum_calls ([([(0 : UInt8)] : List UInt8), a0b] : List (List UInt8)) v3 r5 _ (i3.lift (Lift.sub (fun _ _ => trivial))) hr5) ?_)
  rintro _ w5 ⟨v5, rfl, x5, n5_0, o5_0⟩
  refine ⟨_, rfl, ?_⟩
  have o5 : OwK (Sc u8) w5 (v5 :: []) 5 v5 r5 := OwK.scal o5_0 _
  replace i1 := i1.lift (Lift.call _ x5 n5_0)
  replace i3 := i3.lift (Lift.call _ x5 n5_0)
  have n7 := Nw.ext e4 n5_0
  have e6 := e4.trans x5
  refine wla rfl rfl (q_assign (v := v5) rfl rfl) ?_
  refine wl_nil ?_
  refine W_th ?_
  refine W_ret ?_
  obtain rfl := Option.some.inj H
  refine rt1 v5 rfl rfl rfl rfl ?_
  exact ⟨v5, rfl, e6, n7, (o5.weak (Sc.stab _) (fun _ _ => trivial))⟩

/-! largesse/tally.both -/
noncomputable def tally_both (a0a : List UInt8) (a1b : List UInt8) : Option (List UInt8) :=
((hash_Sum ([([(1 : UInt8)] : List UInt8), a0a, a1b] : List (List UInt8))).bind fun r5 => some r5)
set_option maxRecDepth 100000 in
set_option maxHeartbeats 8000000 in
theorem tally_both_calls (a0a : List UInt8) (a1b : List UInt8) (p0 : Value) (p1 : Value) (r : List UInt8) (w0 : World) (hp0 : By w0 [] p0 a0a) (hp1 : By w0 [] p1 a1b) (H : tally_both a0a a1b = some r) :
    Calls Try.prog 46 [p0, p1].toArray w0 (fun e w' => ∃ u0 : Value, e = .returned u0 ∧ Ext w0 w' ∧ Nw w0 u0 ∧ OwK (Sc u8) w' [] 5 u0 r) := by
  have hE : Ext w0 w0 := Ext.refl w0
  unfold tally_both at H
  refine calls_W (n := 10) Try.func46 rfl rfl rfl ?_
  refine W_seq ?_
  refine W_reg (by kernel_rfl) ?_
  refine wla rfl rfl (q_assign (v := (.slice none 0 0)) rfl rfl) ?_
  refine wl_nil ?_
  refine W_th ?_
  refine W_seq ?_
  refine W_reg (by kernel_rfl) ?_
  refine wls rfl rfl (stp_lit (L := []) (R := (Sc u8)) [(u8 1)] ([(1 : UInt8)] : List UInt8) rfl T22 rfl (by exact ⟨rfl, (cst8 (1 : UInt8) rfl), trivial⟩) rfl (litC u8 (oneC_u8) (us := [(u8 1)]) (l := ([(1 : UInt8)] : List UInt8)) rfl) rfl (litS u8 (us := [(u8 1)]) (l := ([(1 : UInt8)] : List UInt8)) rfl) ?_)
  intro v1 w1 o1 n1 g1 l1
  have x1 := grown_ext g1
  have i1 : By w1 [] v1 (([(1 : UInt8)] : List UInt8)) := OwK.slk (Sc.stab _) _ o1 (fun k hk => (Old.nil _) k (n1 k hk)) (fun _ h => h.2)
  have e2 := hE.trans x1
  refine wla rfl rfl (q_move (v := p0) rfl rfl) ?_
  refine wla rfl rfl (q_move (v := p1) rfl rfl) ?_
  refine wls rfl rfl (stp_lit (L := []) (R := By) [v1, p0, p1] ([([(1 : UInt8)] : List UInt8), a0a, a1b] : List (List UInt8)) rfl T27 rfl (by exact ⟨rfl, rfl, rfl, rfl, rfl, rfl, trivial⟩) rfl (LitR.cells (R := By) (w := w1) (L := []) (l := ([([(1 : UInt8)] : List UInt8), a0a, a1b] : List (List UInt8))) (LitR.cons i1 (LitR.cons (hp0.lift (Lift.arg e2 nv_nil)) (LitR.cons (hp1.lift (Lift.arg e2 nv_nil)) LitR.nil))) (fun u x h => cells_sl u x h)) rfl (LitR.all (R := By) (w := w1) (L := []) (l := ([([(1 : UInt8)] : List UInt8), a0a, a1b] : List (List UInt8))) (SlK.stab (Sc.stab _)) (LitR.cons i1 (LitR.cons (hp0.lift (Lift.arg e2 nv_nil)) (LitR.cons (hp1.lift (Lift.arg e2 nv_nil)) LitR.nil)))) ?_)
  intro v3 w3 o3 n3 g3 l3
  have x3 := grown_ext g3
  have i3 : Rw w3 [] v3 (([([(1 : UInt8)] : List UInt8), a0a, a1b] : List (List UInt8))) := OwK.slk (SlK.stab (Sc.stab _)) _ o3 (fun k hk => (Old.nil _) k (n3 k hk)) (fun _ h => h.2)
  replace i1 := i1.lift (Lift.ext x3 _)
  have e4 := e2.trans x3
  obtain ⟨r5, hr5, H⟩ := Option.bind_eq_some_iff.1 H
  refine wls rfl rfl (stp_call (vs := [v3]) Try.func12 rfl rfl rfl (ar1 rfl) (hash_Sum_calls ([([(1 : UInt8)] : List UInt8), a0a, a1b] : List (List UInt8)) v3 r5 _ (i3.lift (Lift.sub (fun _ _ => trivial))) hr5) ?_)
  rintro _ w5 ⟨v5, rfl, x5, n5_0, o5_0⟩
  refine ⟨_, rfl, ?_⟩
  have o5 : OwK (Sc u8) w5 (v5 :: []) 5 v5 r5 := OwK.scal o5_0 _
  replace i1 := i1.lift (Lift.call _ x5 n5_0)
  replace i3 := i3.lift (Lift.call _ x5 n5_0)
  have n7 := Nw.ext e4 n5_0
  have e6 := e4.trans x5
  refine wla rfl rfl (q_assign (v := v5) rfl rfl) ?_
  refine wl_nil ?_
  refine W_th ?_
  refine W_ret ?_
  obtain rfl := Option.some.inj H
  refine rt1 v5 rfl rfl rfl rfl ?_
  exact ⟨v5, rfl, e6, n7, (o5.weak (Sc.stab _) (fun _ _ => trivial))⟩

/-! largesse/tally.left -/
noncomputable def tally_left (a0n : Int) : Option Int :=
((math_bits_Len (UInt64.ofInt ((wI (a0n - 1))))).bind fun r1 =>
((cnt ((wI (r1 - 1)))).bind fun c3 => some (shlI 1 c3)))
set_option maxRecDepth 100000 in
set_option maxHeartbeats 8000000 in
theorem tally_left_calls (a0n : Int) (r : Int) (w0 : World) (H : tally_left a0n = some r) :
    Calls Try.prog 45 [(i64 a0n)].toArray w0 (fun e w' => e = .returned (i64 r) ∧ Ext w0 w') := by
  have hE : Ext w0 w0 := Ext.refl w0
  unfold tally_left at H
  refine calls_W (n := 9) Try.func45 rfl rfl rfl ?_
  refine W_seq ?_
  refine W_reg (by kernel_rfl) ?_
  refine wla rfl rfl (q_assign (v := (i64 0)) rfl rfl) ?_
  refine wl_nil ?_
  refine W_th ?_
  refine W_seq ?_
  refine W_reg (by kernel_rfl) ?_
  refine wla rfl rfl (q_move (v := (i64 a0n)) rfl rfl) ?_
  refine wla rfl rfl (q_subI rfl rfl rfl) ?_
  refine wla rfl rfl (q_cvt64I rfl rfl rfl rfl) ?_
  obtain ⟨r1, hr1, H⟩ := Option.bind_eq_some_iff.1 H
  refine wls rfl rfl (stp_call (vs := [(u64 ((UInt64.ofInt ((wI (a0n - 1))))))]) Try.func77 rfl rfl rfl (ar1 rfl) (math_bits_Len_calls (UInt64.ofInt ((wI (a0n - 1))))  r1 _  hr1) ?_)
  rintro _ w1 ⟨rfl, x1⟩
  refine ⟨_, rfl, ?_⟩
  have e2 := hE.trans x1
  refine wla rfl rfl (q_subI rfl rfl rfl) ?_
  obtain ⟨c3, hc3, H⟩ := Option.bind_eq_some_iff.1 H
  refine wla rfl rfl (q_shlI c3 rfl rfl rfl (cnt_eq hc3)) ?_
  refine wla rfl rfl (q_assign (v := (i64 ((shlI 1 c3)))) rfl rfl) ?_
  refine wl_nil ?_
  refine W_th ?_
  refine W_ret ?_
  obtain rfl := Option.some.inj H
  refine rt1 (i64 ((shlI 1 c3))) rfl rfl rfl rfl ?_
  exact ⟨rfl, e2⟩

/-! largesse/tally.Tree -/
noncomputable def tally_Tree_n : Nat → (List (List UInt8)) → Option (List UInt8)
| 0, _ => none
| fu + 1, a0items =>
(if (a0items.length : Int) = 0 then
((hash_Sum ([] : List (List UInt8))).bind fun r2 => some r2)
else
(if (a0items.length : Int) = 1 then
((idx a0items 0).bind fun c6 =>
((tally_item c6).bind fun r8 => some r8))
else
((tally_left (a0items.length : Int)).bind fun r11 =>
((subL a0items 0 r11).bind fun c15 =>
((subL a0items r11 ((a0items.length : Int))).bind fun c16 =>
((tally_Tree_n fu c15).bind fun r17 =>
((tally_Tree_n fu c16).bind fun r19 =>
((tally_both r17 r19).bind fun r21 => some r21))))))))
noncomputable def tally_Tree (a0items : List (List UInt8)) : Option (List UInt8) := tally_Tree_n (a0items.length+1) a0items
set_option maxRecDepth 100000 in
set_option maxHeartbeats 8000000 in
theorem tally_Tree_n_calls (fu : Nat) : ∀ (a0items : List (List UInt8)) (p0 : Value) (r : List UInt8) (w0 : World) (hp0 : Rw w0 [] p0 a0items) (H : tally_Tree_n fu a0items = some r),
    Calls Try.prog 16 [p0].toArray w0 (fun e w' => ∃ u0 : Value, e = .returned u0 ∧ Ext w0 w' ∧ Nw w0 u0 ∧ OwK (Sc u8) w' [] 5 u0 r) := by
  induction fu with
  | zero => intro a0items p0 r w0 hp0 H; cases H
  | succ fu ih =>
    intro a0items p0 r w0 hp0 H
    have hE : Ext w0 w0 := Ext.refl w0
    rw [tally_Tree_n] at H
    refine calls_W (n := 28) Try.func16 rfl rfl rfl ?_
    refine W_seq ?_
    refine W_reg (by kernel_rfl) ?_
    refine wla rfl rfl (q_assign (v := (.slice none 0 0)) rfl rfl) ?_
    refine wl_nil ?_
    refine W_th ?_
    refine W_seq ?_
    refine W_reg (by kernel_rfl) ?_
    refine wla rfl rfl (q_move (v := p0) rfl rfl) ?_
    refine wla rfl rfl (q_len rfl T27.sl rfl (hp0.lift (Lift.ext hE _))) ?_
    refine wla rfl rfl (q_assign (v := (i64 ((a0items.length : Int)))) rfl rfl) ?_
    refine wl_nil ?_
    refine W_th ?_
    refine W_seq ?_
    refine W_reg (by kernel_rfl) ?_
    refine wla rfl rfl (q_move (v := (i64 ((a0items.length : Int)))) rfl rfl) ?_
    refine wl_nil ?_
    refine W_th ?_
    refine W_block ?_
    refine W_seq ?_
    refine W_reg (by kernel_rfl) ?_
    refine wla rfl rfl (q_eqI rfl rfl rfl) ?_
    refine wla rfl rfl (q_assign (v := (.bool ((decide ((a0items.length : Int) = 0))))) rfl rfl) ?_
    refine wl_nil ?_
    refine W_th ?_
    refine W_cond _ rfl rfl (fun hb1 => ?_) (fun hb1 => ?_)
    · replace H := (if_pos (of_decide_eq_true hb1)).symm.trans H
      refine W_seq ?_
      refine W_reg (by kernel_rfl) ?_
      obtain ⟨r2, hr2, H⟩ := Option.bind_eq_some_iff.1 H
      refine wls rfl rfl (stp_call (vs := [(.slice none 0 0)]) Try.func12 rfl rfl rfl (ar1 rfl) (hash_Sum_calls ([] : List (List UInt8)) (.slice none 0 0) r2 _ (SlK.nil _ _ _) hr2) ?_)
      rintro _ w2 ⟨v2, rfl, x2, n2_0, o2_0⟩
      refine ⟨_, rfl, ?_⟩
      have o2 : OwK (Sc u8) w2 (v2 :: []) 5 v2 r2 := OwK.scal o2_0 _
      have n4 := Nw.ext hE n2_0
      have e3 := hE.trans x2
      refine wla rfl rfl (q_assign (v := v2) rfl rfl) ?_
      refine wl_nil ?_
      refine W_th ?_
      refine W_ret ?_
      refine bk_r ?_
      obtain rfl := Option.some.inj H
      refine rt1 v2 rfl rfl rfl rfl ?_
      exact ⟨v2, rfl, e3, n4, (o2.weak (Sc.stab _) (fun _ _ => trivial))⟩
    · replace H := (if_neg (of_decide_eq_false hb1)).symm.trans H
      refine W_seq ?_
      refine W_reg (by kernel_rfl) ?_
      refine wla rfl rfl (q_eqI rfl rfl rfl) ?_
      refine wla rfl rfl (q_assign (v := (.bool ((decide ((a0items.length : Int) = 1))))) rfl rfl) ?_
      refine wl_nil ?_
      refine W_th ?_
      refine W_cond _ rfl rfl (fun hb5 => ?_) (fun hb5 => ?_)
      · replace H := (if_pos (of_decide_eq_true hb5)).symm.trans H
        refine W_seq ?_
        refine W_reg (by kernel_rfl) ?_
        refine wla rfl rfl (q_move (v := p0) rfl rfl) ?_
        obtain ⟨c6, hc6, H⟩ := Option.bind_eq_some_iff.1 H
        refine wla rfl rfl (q_adr rfl T27 rfl rfl (hp0.lift (Lift.ext hE _)) hc6) ?_
        refine wlq_load rfl rfl rfl T27 rfl hp0 hc6 hE (fun v7 ha7 => ?_)
        obtain ⟨r8, hr8, H⟩ := Option.bind_eq_some_iff.1 H
        refine wls rfl rfl (stp_call (vs := [v7]) Try.func44 rfl rfl rfl (ar1 rfl) (tally_item_calls c6 v7 r8 _ (ha7.lift (Lift.ext hE _)) hr8) ?_)
        rintro _ w8 ⟨v8, rfl, x8, n8_0, o8_0⟩
        refine ⟨_, rfl, ?_⟩
        have o8 : OwK (Sc u8) w8 (v8 :: []) 5 v8 r8 := OwK.scal o8_0 _
        have n10 := Nw.ext hE n8_0
        have e9 := hE.trans x8
        refine wla rfl rfl (q_assign (v := v8) rfl rfl) ?_
        refine wl_nil ?_
        refine W_th ?_
        refine W_ret ?_
        refine bk_r ?_
        obtain rfl := Option.some.inj H
        refine rt1 v8 rfl rfl rfl rfl ?_
        exact ⟨v8, rfl, e9, n10, (o8.weak (Sc.stab _) (fun _ _ => trivial))⟩
      · replace H := (if_neg (of_decide_eq_false hb5)).symm.trans H
        refine W_seq ?_
        refine W_reg (by kernel_rfl) ?_
        refine wla rfl rfl (q_move (v := (i64 ((a0items.length : Int)))) rfl rfl) ?_
        obtain ⟨r11, hr11, H⟩ := Option.bind_eq_some_iff.1 H
        refine wls rfl rfl (stp_call (vs := [(i64 ((a0items.length : Int)))]) Try.func45 rfl rfl rfl (ar1 rfl) (tally_left_calls (a0items.length : Int)  r11 _  hr11) ?_)
        rintro _ w11 ⟨rfl, x11⟩
        refine ⟨_, rfl, ?_⟩
        have e12 := hE.trans x11
        refine wla rfl rfl (q_assign (v := (i64 r11)) rfl rfl) ?_
        refine wl_nil ?_
        refine W_th ?_
        refine W_seq ?_
        refine W_draw [] [(0, 0), (1, 0), (2, 0), (4, 0), (5, 0), (6, 0), (3, 2), (7, 2), (8, 2), (9, 0)] mixed (by kernel_rfl) (by kernel_rfl) (by kernel_rfl) (by kernel_rfl) ?_
        have x13 := Ext.drew w11
        have e14 := e12.trans x13
        refine wsa rfl rfl rfl (q_move (v := p0) rfl rfl) ?_
        refine wsa rfl rfl rfl (q_move (v := (i64 r11)) rfl rfl) ?_
        obtain ⟨c15, hc15, H⟩ := Option.bind_eq_some_iff.1 H
        refine wsa rfl rfl rfl (q_slice (a := 0) (b := r11) rfl T27 rfl (hp0.lift (Lift.ext e14 _)) rfl rfl hc15) ?_
        refine wsa rfl rfl rfl (q_move (v := p0) rfl rfl) ?_
        refine wsa rfl rfl rfl (q_move (v := (i64 r11)) rfl rfl) ?_
        obtain ⟨c16, hc16, H⟩ := Option.bind_eq_some_iff.1 H
        refine wsa rfl rfl rfl (q_slice (a := r11) (b := (a0items.length : Int)) rfl T27 rfl (hp0.lift (Lift.ext e14 _)) rfl rfl hc16) ?_
        obtain ⟨r17, hr17, H⟩ := Option.bind_eq_some_iff.1 H
        refine wsc rfl (by kernel_rfl) rfl rfl (stp_call (vs := [(subV p0 (0 : Int).toNat (r11 : Int).toNat)]) Try.func16 rfl rfl rfl (ar1 rfl) (ih c15 (subV p0 (0 : Int).toNat (r11 : Int).toNat) r17 _ (SlK.cut (L := []) (hp0.lift (Lift.ext e14 _)) hc15) hr17) ?_)
        rintro _ w17 ⟨v17, rfl, x17, n17_0, o17_0⟩
        refine ⟨_, rfl, ?_⟩
        have i17_0 : By w17 [] v17 r17 := OwK.slk (Sc.stab _) _ (OwK.scal o17_0 (v17 :: [])) (fun k hk => (Old.nil _) k (n17_0 k hk)) (fun _ h => h.2)
        have e18 := e14.trans x17
        obtain ⟨r19, hr19, H⟩ := Option.bind_eq_some_iff.1 H
        refine wsc rfl (by kernel_rfl) rfl rfl (stp_call (vs := [(subV p0 (r11 : Int).toNat ((a0items.length : Int) : Int).toNat)]) Try.func16 rfl rfl rfl (ar1 rfl) (ih c16 (subV p0 (r11 : Int).toNat ((a0items.length : Int) : Int).toNat) r19 _ (SlK.cut (L := []) (hp0.lift (Lift.ext e18 _)) hc16) hr19) ?_)
        rintro _ w19 ⟨v19, rfl, x19, n19_0, o19_0⟩
        refine ⟨_, rfl, ?_⟩
        have i19_0 : By w19 [] v19 r19 := OwK.slk (Sc.stab _) _ (OwK.scal o19_0 (v19 :: [])) (fun k hk => (Old.nil _) k (n19_0 k hk)) (fun _ h => h.2)
        replace i17_0 := i17_0.lift (Lift.ext x19 _)
        have e20 := e18.trans x19
        obtain ⟨r21, hr21, H⟩ := Option.bind_eq_some_iff.1 H
        refine wsc rfl (by kernel_rfl) rfl rfl (stp_call (vs := [v17, v19]) Try.func46 rfl rfl rfl (ar2 rfl rfl) (tally_both_calls r17 r19 v17 v19 r21 _ (i17_0.lift (Lift.sub (fun _ _ => trivial))) (i19_0.lift (Lift.sub (fun _ _ => trivial))) hr21) ?_)
        rintro _ w21 ⟨v21, rfl, x21, n21_0, o21_0⟩
        refine ⟨_, rfl, ?_⟩
        have o21 : OwK (Sc u8) w21 (v21 :: []) 5 v21 r21 := OwK.scal o21_0 _
        replace i17_0 := i17_0.lift (Lift.call _ x21 n21_0)
        replace i19_0 := i19_0.lift (Lift.call _ x21 n21_0)
        have n23 := Nw.ext e20 n21_0
        have e22 := e20.trans x21
        refine wsa rfl rfl rfl (q_assign (v := v21) rfl rfl) ?_
        refine ws_nil ?_
        refine W_th ?_
        refine W_ret ?_
        refine bk_r ?_
        obtain rfl := Option.some.inj H
        refine rt1 v21 rfl rfl rfl rfl ?_
        exact ⟨v21, rfl, e22, n23, (o21.weak (Sc.stab _) (fun _ _ => trivial))⟩

theorem tally_Tree_calls (a0items : List (List UInt8)) (p0 : Value) (r : List UInt8) (w0 : World) (hp0 : Rw w0 [] p0 a0items) (H : tally_Tree a0items = some r) :
    Calls Try.prog 16 [p0].toArray w0 (fun e w' => ∃ u0 : Value, e = .returned u0 ∧ Ext w0 w' ∧ Nw w0 u0 ∧ OwK (Sc u8) w' [] 5 u0 r) := tally_Tree_n_calls _ a0items p0 r w0 hp0 H

/-! largesse/tally.way -/
noncomputable def tally_way_n : Nat → (List (List UInt8)) → Int → Option (List (List UInt8))
| 0, _, _ => none
| fu + 1, a0items, a1i =>
(if (a0items.length : Int) < 2 then some ([] : List (List UInt8))
else
((tally_left (a0items.length : Int)).bind fun r2 =>
(if a1i < r2 then
((subL a0items 0 r2).bind fun c7 =>
((subL a0items r2 ((a0items.length : Int))).bind fun c8 =>
((tally_way_n fu c7 a1i).bind fun r9 =>
((tally_Tree c8).bind fun r12 =>
((appL r9 (([r12] : List (List UInt8)))).bind fun c16 => some c16)))))
else
((subL a0items r2 ((a0items.length : Int))).bind fun c21 =>
((subL a0items 0 r2).bind fun c22 =>
((tally_way_n fu c21 (wI (a1i - r2))).bind fun r23 =>
((tally_Tree c22).bind fun r26 =>
((appL r23 (([r26] : List (List UInt8)))).bind fun c30 => some c30))))))))
noncomputable def tally_way (a0items : List (List UInt8)) (a1i : Int) : Option (List (List UInt8)) := tally_way_n (a0items.length+1) a0items a1i
set_option maxRecDepth 100000 in
set_option maxHeartbeats 8000000 in
theorem tally_way_n_calls (fu : Nat) : ∀ (a0items : List (List UInt8)) (a1i : Int) (p0 : Value) (r : List (List UInt8)) (w0 : World) (L0 : List Value) (hL0 : Old w0 L0) (hp0 : Rw w0 [] p0 a0items) (H : tally_way_n fu a0items a1i = some r),
    Calls Try.prog 50 [p0, (i64 a1i)].toArray w0 (fun e w' => ∃ u0 : Value, e = .returned u0 ∧ Ext w0 w' ∧ Nw w0 u0 ∧ OwK By w' (u0 :: L0) 22 u0 r) := by
  induction fu with
  | zero => intro a0items a1i p0 r w0 L0 hL0 hp0 H; cases H
  | succ fu ih =>
    intro a0items a1i p0 r w0 L0 hL0 hp0 H
    have hE : Ext w0 w0 := Ext.refl w0
    rw [tally_way_n] at H
    refine calls_W (n := 40) Try.func50 rfl rfl rfl ?_
    refine W_seq ?_
    refine W_reg (by kernel_rfl) ?_
    refine wla rfl rfl (q_assign (v := (.slice none 0 0)) rfl rfl) ?_
    refine wl_nil ?_
    refine W_th ?_
    refine W_seq ?_
    refine W_reg (by kernel_rfl) ?_
    refine wla rfl rfl (q_move (v := p0) rfl rfl) ?_
    refine wla rfl rfl (q_len rfl T27.sl rfl (hp0.lift (Lift.ext hE _))) ?_
    refine wla rfl rfl (q_assign (v := (i64 ((a0items.length : Int)))) rfl rfl) ?_
    refine wl_nil ?_
    refine W_th ?_
    refine W_seq ?_
    refine W_seq ?_
    refine W_reg (by kernel_rfl) ?_
    refine wla rfl rfl (q_move (v := (i64 ((a0items.length : Int)))) rfl rfl) ?_
    refine wla rfl rfl (q_ltI rfl rfl rfl) ?_
    refine wl_nil ?_
    refine W_th ?_
    refine W_cond _ rfl rfl (fun hb1 => ?_) (fun hb1 => ?_)
    · replace H := (if_pos (of_decide_eq_true hb1)).symm.trans H
      refine W_seq ?_
      refine W_reg (by kernel_rfl) ?_
      refine wla rfl rfl (q_assign (v := (.slice none 0 0)) rfl rfl) ?_
      refine wl_nil ?_
      refine W_th ?_
      refine W_ret ?_
      refine th_r ?_
      obtain rfl := Option.some.inj H
      refine rt1 (.slice none 0 0) rfl rfl rfl rfl ?_
      exact ⟨(.slice none 0 0), rfl, hE, Nw.nil _, (OwK.nil _ _ _ _)⟩
    · replace H := (if_neg (of_decide_eq_false hb1)).symm.trans H
      refine W_skip ?_
      refine W_th ?_
      refine W_seq ?_
      refine W_reg (by kernel_rfl) ?_
      refine wla rfl rfl (q_move (v := (i64 ((a0items.length : Int)))) rfl rfl) ?_
      obtain ⟨r2, hr2, H⟩ := Option.bind_eq_some_iff.1 H
      refine wls rfl rfl (stp_call (vs := [(i64 ((a0items.length : Int)))]) Try.func45 rfl rfl rfl (ar1 rfl) (tally_left_calls (a0items.length : Int)  r2 _  hr2) ?_)
      rintro _ w2 ⟨rfl, x2⟩
      refine ⟨_, rfl, ?_⟩
      have e3 := hE.trans x2
      refine wla rfl rfl (q_assign (v := (i64 r2)) rfl rfl) ?_
      refine wl_nil ?_
      refine W_th ?_
      refine W_seq ?_
      refine W_seq ?_
      refine W_reg (by kernel_rfl) ?_
      refine wla rfl rfl (q_move (v := (i64 a1i)) rfl rfl) ?_
      refine wla rfl rfl (q_move (v := (i64 r2)) rfl rfl) ?_
      refine wla rfl rfl (q_ltI rfl rfl rfl) ?_
      refine wl_nil ?_
      refine W_th ?_
      refine W_cond _ rfl rfl (fun hb4 => ?_) (fun hb4 => ?_)
      · replace H := (if_pos (of_decide_eq_true hb4)).symm.trans H
        refine W_seq ?_
        refine W_draw [] [(0, 0), (1, 0), (2, 0), (3, 0), (5, 0), (6, 0), (7, 0), (4, 2), (8, 2), (9, 2), (10, 2), (11, 0)] mixed (by kernel_rfl) (by kernel_rfl) (by kernel_rfl) (by kernel_rfl) ?_
        have x5 := Ext.drew w2
        have e6 := e3.trans x5
        refine wsa rfl rfl rfl (q_move (v := p0) rfl rfl) ?_
        refine wsa rfl rfl rfl (q_move (v := (i64 r2)) rfl rfl) ?_
        obtain ⟨c7, hc7, H⟩ := Option.bind_eq_some_iff.1 H
        refine wsa rfl rfl rfl (q_slice (a := 0) (b := r2) rfl T27 rfl (hp0.lift (Lift.ext e6 _)) rfl rfl hc7) ?_
        refine wsa rfl rfl rfl (q_move (v := (i64 a1i)) rfl rfl) ?_
        refine wsa rfl rfl rfl (q_move (v := p0) rfl rfl) ?_
        refine wsa rfl rfl rfl (q_move (v := (i64 r2)) rfl rfl) ?_
        obtain ⟨c8, hc8, H⟩ := Option.bind_eq_some_iff.1 H
        refine wsa rfl rfl rfl (q_slice (a := r2) (b := (a0items.length : Int)) rfl T27 rfl (hp0.lift (Lift.ext e6 _)) rfl rfl hc8) ?_
        obtain ⟨r9, hr9, H⟩ := Option.bind_eq_some_iff.1 H
        refine wsc rfl (by kernel_rfl) rfl rfl (stp_call (vs := [(subV p0 (0 : Int).toNat (r2 : Int).toNat), (i64 a1i)]) Try.func50 rfl rfl rfl (ar2 rfl rfl) (ih c7 a1i (subV p0 (0 : Int).toNat (r2 : Int).toNat) r9 _ (L0) (hL0.ext e6) (SlK.cut (L := []) (hp0.lift (Lift.ext e6 _)) hc7) hr9) ?_)
        rintro _ w9 ⟨v9, rfl, x9, n9_0, o9_0⟩
        refine ⟨_, rfl, ?_⟩
        have o9 : OwK By w9 (v9 :: (L0)) 22 v9 r9 := o9_0
        have n11 := Nw.ext e6 n9_0
        have e10 := e6.trans x9
        obtain ⟨r12, hr12, H⟩ := Option.bind_eq_some_iff.1 H
        refine wsc rfl (by kernel_rfl) rfl rfl (stp_call (vs := [(subV p0 (r2 : Int).toNat ((a0items.length : Int) : Int).toNat)]) Try.func16 rfl rfl rfl (ar1 rfl) (tally_Tree_calls c8 (subV p0 (r2 : Int).toNat ((a0items.length : Int) : Int).toNat) r12 _ (SlK.cut (L := []) (hp0.lift (Lift.ext e10 _)) hc8) hr12) ?_)
        rintro _ w12 ⟨v12, rfl, x12, n12_0, o12_0⟩
        refine ⟨_, rfl, ?_⟩
        have i12_0 : By w12 (v9 :: L0) v12 r12 := OwK.slk (Sc.stab _) _ (OwK.scal o12_0 (v12 :: (v9 :: L0))) (fun k hk => (Old.cons (hL0.ext e10) o9.lt) k (n12_0 k hk)) (fun _ h => h.2)
        replace o9 := o9.extL (SlK.stab (Sc.stab _)) x12 (Lift.ext x12 _)
        have e13 := e10.trans x12
        refine wsc rfl (by kernel_rfl) rfl rfl (stp_lit (L := (v9 :: L0)) (R := By) [v12] ([r12] : List (List UInt8)) rfl T27 rfl (by exact ⟨rfl, rfl, trivial⟩) rfl (LitR.cells (R := By) (w := w12) (L := (v9 :: L0)) (l := ([r12] : List (List UInt8))) (LitR.cons i12_0 LitR.nil) (fun u x h => cells_sl u x h)) rfl (LitR.all (R := By) (w := w12) (L := (v9 :: L0)) (l := ([r12] : List (List UInt8))) (SlK.stab (Sc.stab _)) (LitR.cons i12_0 LitR.nil)) ?_)
        intro v14 w14 o14 n14 g14 l14
        have x14 := grown_ext g14
        have i14 : Rw w14 (v9 :: L0) v14 (([r12] : List (List UInt8))) := OwK.slk (SlK.stab (Sc.stab _)) _ o14 (fun k hk => (Old.cons (hL0.ext e13) o9.lt) k (n14 k hk)) (fun _ h => h.2)
        replace i12_0 := i12_0.lift (Lift.ext x14 _)
        replace o9 := o9.extL (SlK.stab (Sc.stab _)) x14 (Lift.ext x14 _)
        have e15 := e13.trans x14
        obtain ⟨c16, hc16, H⟩ := Option.bind_eq_some_iff.1 H
        refine wsc rfl (by kernel_rfl) rfl rfl (stp_append (R := By) (v := v9) (u := v14) (SlK.stab (Sc.stab _)) [] (L0) rfl T27 rfl rfl o9 i14 (fun _ _ h => h) hc16 oc_sl ?_)
        intro v16 w16 o16 g16 nx16 l16
        replace i12_0 := i12_0.lift l16
        replace i14 := i14.lift l16
        have e17 := e15.grown g16 n11
        have n18 := Nw.nxt e15 n11 nx16
        refine wsa rfl rfl rfl (q_assign (v := v16) rfl rfl) ?_
        refine ws_nil ?_
        refine W_th ?_
        refine W_ret ?_
        refine th_r ?_
        obtain rfl := Option.some.inj H
        refine rt1 v16 rfl rfl rfl rfl ?_
        exact ⟨v16, rfl, e17, n18, (o16.weak (SlK.stab (Sc.stab _)) (fun _ h => ⟨h.1, h.2⟩))⟩
      · replace H := (if_neg (of_decide_eq_false hb4)).symm.trans H
        refine W_skip ?_
        refine W_th ?_
        refine W_seq ?_
        refine W_draw [] [(0, 0), (1, 0), (2, 0), (3, 0), (4, 0), (5, 0), (7, 0), (8, 0), (9, 0), (6, 2), (10, 2), (11, 2), (12, 2), (13, 0)] mixed (by kernel_rfl) (by kernel_rfl) (by kernel_rfl) (by kernel_rfl) ?_
        have x19 := Ext.drew w2
        have e20 := e3.trans x19
        refine wsa rfl rfl rfl (q_move (v := p0) rfl rfl) ?_
        refine wsa rfl rfl rfl (q_move (v := (i64 r2)) rfl rfl) ?_
        obtain ⟨c21, hc21, H⟩ := Option.bind_eq_some_iff.1 H
        refine wsa rfl rfl rfl (q_slice (a := r2) (b := (a0items.length : Int)) rfl T27 rfl (hp0.lift (Lift.ext e20 _)) rfl rfl hc21) ?_
        refine wsa rfl rfl rfl (q_move (v := (i64 a1i)) rfl rfl) ?_
        refine wsa rfl rfl rfl (q_move (v := (i64 r2)) rfl rfl) ?_
        refine wsa rfl rfl rfl (q_subI rfl rfl rfl) ?_
        refine wsa rfl rfl rfl (q_move (v := p0) rfl rfl) ?_
        refine wsa rfl rfl rfl (q_move (v := (i64 r2)) rfl rfl) ?_
        obtain ⟨c22, hc22, H⟩ := Option.bind_eq_some_iff.1 H
        refine wsa rfl rfl rfl (q_slice (a := 0) (b := r2) rfl T27 rfl (hp0.lift (Lift.ext e20 _)) rfl rfl hc22) ?_
        obtain ⟨r23, hr23, H⟩ := Option.bind_eq_some_iff.1 H
        refine wsc rfl (by kernel_rfl) rfl rfl (stp_call (vs := [(subV p0 (r2 : Int).toNat ((a0items.length : Int) : Int).toNat), (i64 ((wI (a1i - r2))))]) Try.func50 rfl rfl rfl (ar2 rfl rfl) (ih c21 (wI (a1i - r2)) (subV p0 (r2 : Int).toNat ((a0items.length : Int) : Int).toNat) r23 _ (L0) (hL0.ext e20) (SlK.cut (L := []) (hp0.lift (Lift.ext e20 _)) hc21) hr23) ?_)
        rintro _ w23 ⟨v23, rfl, x23, n23_0, o23_0⟩
        refine ⟨_, rfl, ?_⟩
        have o23 : OwK By w23 (v23 :: (L0)) 22 v23 r23 := o23_0
        have n25 := Nw.ext e20 n23_0
        have e24 := e20.trans x23
        obtain ⟨r26, hr26, H⟩ := Option.bind_eq_some_iff.1 H
        refine wsc rfl (by kernel_rfl) rfl rfl (stp_call (vs := [(subV p0 (0 : Int).toNat (r2 : Int).toNat)]) Try.func16 rfl rfl rfl (ar1 rfl) (tally_Tree_calls c22 (subV p0 (0 : Int).toNat (r2 : Int).toNat) r26 _ (SlK.cut (L := []) (hp0.lift (Lift.ext e24 _)) hc22) hr26) ?_)
        rintro _ w26 ⟨v26, rfl, x26, n26_0, o26_0⟩
        refine ⟨_, rfl, ?_⟩
        have i26_0 : By w26 (v23 :: L0) v26 r26 := OwK.slk (Sc.stab _) _ (OwK.scal o26_0 (v26 :: (v23 :: L0))) (fun k hk => (Old.cons (hL0.ext e24) o23.lt) k (n26_0 k hk)) (fun _ h => h.2)
        replace o23 := o23.extL (SlK.stab (Sc.stab _)) x26 (Lift.ext x26 _)
        have e27 := e24.trans x26
        refine wsc rfl (by kernel_rfl) rfl rfl (stp_lit (L := (v23 :: L0)) (R := By) [v26] ([r26] : List (List UInt8)) rfl T27 rfl (by exact ⟨rfl, rfl, trivial⟩) rfl (LitR.cells (R := By) (w := w26) (L := (v23 :: L0)) (l := ([r26] : List (List UInt8))) (LitR.cons i26_0 LitR.nil) (fun u x h => cells_sl u x h)) rfl (LitR.all (R := By) (w := w26) (L := (v23 :: L0)) (l := ([r26] : List (List UInt8))) (SlK.stab (Sc.stab _)) (LitR.cons i26_0 LitR.nil)) ?_)
        intro v28 w28 o28 n28 g28 l28
        have x28 := grown_ext g28
        have i28 : Rw w28 (v23 :: L0) v28 (([r26] : List (List UInt8))) := OwK.slk (SlK.stab (Sc.stab _)) _ o28 (fun k hk => (Old.cons (hL0.ext e27) o23.lt) k (n28 k hk)) (fun _ h => h.2)
        replace i26_0 := i26_0.lift (Lift.ext x28 _)
        replace o23 := o23.extL (SlK.stab (Sc.stab _)) x28 (Lift.ext x28 _)
        have e29 := e27.trans x28
        obtain ⟨c30, hc30, H⟩ := Option.bind_eq_some_iff.1 H
        refine wsc rfl (by kernel_rfl) rfl rfl (stp_append (R := By) (v := v23) (u := v28) (SlK.stab (Sc.stab _)) [] (L0) rfl T27 rfl rfl o23 i28 (fun _ _ h => h) hc30 oc_sl ?_)
        intro v30 w30 o30 g30 nx30 l30
        replace i26_0 := i26_0.lift l30
        replace i28 := i28.lift l30
        have e31 := e29.grown g30 n25
        have n32 := Nw.nxt e29 n25 nx30
        refine wsa rfl rfl rfl (q_assign (v := v30) rfl rfl) ?_
        refine ws_nil ?_
        refine W_th ?_
        refine W_ret ?_
        obtain rfl := Option.some.inj H
        refine rt1 v30 rfl rfl rfl rfl ?_
        exact ⟨v30, rfl, e31, n32, (o30.weak (SlK.stab (Sc.stab _)) (fun _ h => ⟨h.1, h.2⟩))⟩

theorem tally_way_calls (a0items : List (List UInt8)) (a1i : Int) (p0 : Value) (r : List (List UInt8)) (w0 : World) (L0 : List Value) (hL0 : Old w0 L0) (hp0 : Rw w0 [] p0 a0items) (H : tally_way a0items a1i = some r) :
    Calls Try.prog 50 [p0, (i64 a1i)].toArray w0 (fun e w' => ∃ u0 : Value, e = .returned u0 ∧ Ext w0 w' ∧ Nw w0 u0 ∧ OwK By w' (u0 :: L0) 22 u0 r) := tally_way_n_calls _ a0items a1i p0 r w0 L0 hL0 hp0 H

/-! largesse/tally.Way -/
noncomputable def tally_Way (a0items : List (List UInt8)) (a1i : Int) : Option (List (List UInt8) × Int) :=
(if a1i < 0 then some (([] : List (List UInt8)), 2)
else
(if (a0items.length : Int) ≤ a1i then some (([] : List (List UInt8)), 2)
else
((tally_way a0items a1i).bind fun r3 => some (r3, 0))))
set_option maxRecDepth 100000 in
set_option maxHeartbeats 8000000 in
theorem tally_Way_calls (a0items : List (List UInt8)) (a1i : Int) (p0 : Value) (r : List (List UInt8) × Int) (w0 : World) (L0 : List Value) (hL0 : Old w0 L0) (hp0 : Rw w0 [] p0 a0items) (H : tally_Way a0items a1i = some r) :
    Calls Try.prog 18 [p0, (i64 a1i)].toArray w0 (fun e w' => ∃ u0 : Value, e = .returned (.tuple #[u0, (i64 r.2)]) ∧ Ext w0 w' ∧ Nw w0 u0 ∧ OwK By w' (u0 :: L0) 22 u0 r.1) := by
  have hE : Ext w0 w0 := Ext.refl w0
  unfold tally_Way at H
  refine calls_W (n := 17) Try.func18 rfl rfl rfl ?_
  refine W_seq ?_
  refine W_reg (by kernel_rfl) ?_
  refine wla rfl rfl (q_assign (v := (.slice none 0 0)) rfl rfl) ?_
  refine wla rfl rfl (q_assign (v := (i64 0)) rfl rfl) ?_
  refine wl_nil ?_
  refine W_th ?_
  refine W_seq ?_
  refine W_seq ?_
  refine W_reg (by kernel_rfl) ?_
  refine wla rfl rfl (q_move (v := (i64 a1i)) rfl rfl) ?_
  refine wla rfl rfl (q_ltI rfl rfl rfl) ?_
  refine wlb rfl rfl (q_move (v := (.bool ((decide (a1i < 0))))) rfl rfl) (fun hb1 => ?_) (fun hb1 => ?_)
  · replace H := (if_pos (of_decide_eq_true hb1)).symm.trans H
    refine wlk rfl rfl ?_
    refine wlk rfl rfl ?_
    refine wlk rfl rfl ?_
    refine wlk rfl rfl ?_
    refine wla rfl rfl (q_pick_t (v := (.bool true)) rfl rfl rfl) ?_
    refine wl_nil ?_
    refine W_th ?_
    refine W_cond true rfl rfl (fun _ => ?_) (fun hb => by cases hb)
    refine W_seq ?_
    refine W_reg (by kernel_rfl) ?_
    refine wla rfl rfl (q_assign (v := (.slice none 0 0)) rfl rfl) ?_
    refine wla rfl rfl (q_assign (v := (i64 2)) rfl rfl) ?_
    refine wl_nil ?_
    refine W_th ?_
    refine W_ret ?_
    refine th_r ?_
    obtain rfl := Option.some.inj H
    refine rt2 (.slice none 0 0) (i64 2) rfl rfl rfl rfl rfl rfl ?_
    exact ⟨(.slice none 0 0), rfl, hE, Nw.nil _, (OwK.nil _ _ _ _)⟩
  · replace H := (if_neg (of_decide_eq_false hb1)).symm.trans H
    refine wla rfl rfl (q_move (v := (i64 a1i)) rfl rfl) ?_
    refine wla rfl rfl (q_move (v := p0) rfl rfl) ?_
    refine wla rfl rfl (q_len rfl T27.sl rfl (hp0.lift (Lift.ext hE _))) ?_
    refine wla rfl rfl (q_geI rfl rfl rfl) ?_
    refine wla rfl rfl (q_pick_f (v := (.bool ((decide ((a0items.length : Int) ≤ a1i))))) rfl rfl rfl) ?_
    refine wl_nil ?_
    refine W_th ?_
    refine W_cond _ rfl rfl (fun hb2 => ?_) (fun hb2 => ?_)
    · replace H := (if_pos (of_decide_eq_true hb2)).symm.trans H
      refine W_seq ?_
      refine W_reg (by kernel_rfl) ?_
      refine wla rfl rfl (q_assign (v := (.slice none 0 0)) rfl rfl) ?_
      refine wla rfl rfl (q_assign (v := (i64 2)) rfl rfl) ?_
      refine wl_nil ?_
      refine W_th ?_
      refine W_ret ?_
      refine th_r ?_
      obtain rfl := Option.some.inj H
      refine rt2 (.slice none 0 0) (i64 2) rfl rfl rfl rfl rfl rfl ?_
      exact ⟨(.slice none 0 0), rfl, hE, Nw.nil _, (OwK.nil _ _ _ _)⟩
    · replace H := (if_neg (of_decide_eq_false hb2)).symm.trans H
      refine W_skip ?_
      refine W_th ?_
      refine W_seq ?_
      refine W_reg (by kernel_rfl) ?_
      refine wla rfl rfl (q_move (v := p0) rfl rfl) ?_
      refine wla rfl rfl (q_move (v := (i64 a1i)) rfl rfl) ?_
      obtain ⟨r3, hr3, H⟩ := Option.bind_eq_some_iff.1 H
      refine wls rfl rfl (stp_call (vs := [p0, (i64 a1i)]) Try.func50 rfl rfl rfl (ar2 rfl rfl) (tally_way_calls a0items a1i p0 r3 _ (L0) (hL0.ext hE) (hp0.lift (Lift.ext hE _)) hr3) ?_)
      rintro _ w3 ⟨v3, rfl, x3, n3_0, o3_0⟩
      refine ⟨_, rfl, ?_⟩
      have o3 : OwK By w3 (v3 :: (L0)) 22 v3 r3 := o3_0
      have n5 := Nw.ext hE n3_0
      have e4 := hE.trans x3
      refine wla rfl rfl (q_assign (v := v3) rfl rfl) ?_
      refine wla rfl rfl (q_assign (v := (i64 0)) rfl rfl) ?_
      refine wl_nil ?_
      refine W_th ?_
      refine W_ret ?_
      obtain rfl := Option.some.inj H
      refine rt2 v3 (i64 0) rfl rfl rfl rfl rfl rfl ?_
      exact ⟨v3, rfl, e4, n5, (o3.weak (SlK.stab (Sc.stab _)) (fun _ h => ⟨h.1, h.2⟩))⟩

/-! largesse/tally.sides -/
noncomputable def tally_sides_n : Nat → Int → Int → Option (List Bool)
| 0, _, _ => none
| fu + 1, a0i, a1n =>
(if a1n < 2 then some ([] : List Bool)
else
((tally_left a1n).bind fun r2 =>
(if a0i < r2 then
((tally_sides_n fu a0i r2).bind fun r5 =>
((appL r5 (([true] : List Bool))).bind fun c10 => some c10))
else
((tally_sides_n fu (wI (a0i - r2)) (wI (a1n - r2))).bind fun r13 =>
((appL r13 (([false] : List Bool))).bind fun c18 => some c18)))))
noncomputable def tally_sides (a0i : Int) (a1n : Int) : Option (List Bool) := tally_sides_n (a1n.toNat+1) a0i a1n
set_option maxRecDepth 100000 in
set_option maxHeartbeats 8000000 in
theorem tally_sides_n_calls (fu : Nat) : ∀ (a0i : Int) (a1n : Int) (r : List Bool) (w0 : World) (H : tally_sides_n fu a0i a1n = some r),
    Calls Try.prog 53 [(i64 a0i), (i64 a1n)].toArray w0 (fun e w' => ∃ u0 : Value, e = .returned u0 ∧ Ext w0 w' ∧ Nw w0 u0 ∧ OwK (Sc bl) w' [] 4 u0 r) := by
  induction fu with
  | zero => intro a0i a1n r w0 H; cases H
  | succ fu ih =>
    intro a0i a1n r w0 H
    have hE : Ext w0 w0 := Ext.refl w0
    rw [tally_sides_n] at H
    refine calls_W (n := 27) Try.func53 rfl rfl rfl ?_
    refine W_seq ?_
    refine W_reg (by kernel_rfl) ?_
    refine wla rfl rfl (q_assign (v := (.slice none 0 0)) rfl rfl) ?_
    refine wl_nil ?_
    refine W_th ?_
    refine W_seq ?_
    refine W_seq ?_
    refine W_reg (by kernel_rfl) ?_
    refine wla rfl rfl (q_move (v := (i64 a1n)) rfl rfl) ?_
    refine wla rfl rfl (q_ltI rfl rfl rfl) ?_
    refine wl_nil ?_
    refine W_th ?_
    refine W_cond _ rfl rfl (fun hb1 => ?_) (fun hb1 => ?_)
    · replace H := (if_pos (of_decide_eq_true hb1)).symm.trans H
      refine W_seq ?_
      refine W_reg (by kernel_rfl) ?_
      refine wla rfl rfl (q_assign (v := (.slice none 0 0)) rfl rfl) ?_
      refine wl_nil ?_
      refine W_th ?_
      refine W_ret ?_
      refine th_r ?_
      obtain rfl := Option.some.inj H
      refine rt1 (.slice none 0 0) rfl rfl rfl rfl ?_
      exact ⟨(.slice none 0 0), rfl, hE, Nw.nil _, (OwK.nil _ _ _ _)⟩
    · replace H := (if_neg (of_decide_eq_false hb1)).symm.trans H
      refine W_skip ?_
      refine W_th ?_
      refine W_seq ?_
      refine W_reg (by kernel_rfl) ?_
      refine wla rfl rfl (q_move (v := (i64 a1n)) rfl rfl) ?_
      obtain ⟨r2, hr2, H⟩ := Option.bind_eq_some_iff.1 H
      refine wls rfl rfl (stp_call (vs := [(i64 a1n)]) Try.func45 rfl rfl rfl (ar1 rfl) (tally_left_calls a1n  r2 _  hr2) ?_)
      rintro _ w2 ⟨rfl, x2⟩
      refine ⟨_, rfl, ?_⟩
      have e3 := hE.trans x2
      refine wla rfl rfl (q_assign (v := (i64 r2)) rfl rfl) ?_
      refine wl_nil ?_
      refine W_th ?_
      refine W_seq ?_
      refine W_seq ?_
      refine W_reg (by kernel_rfl) ?_
      refine wla rfl rfl (q_move (v := (i64 a0i)) rfl rfl) ?_
      refine wla rfl rfl (q_move (v := (i64 r2)) rfl rfl) ?_
      refine wla rfl rfl (q_ltI rfl rfl rfl) ?_
      refine wl_nil ?_
      refine W_th ?_
      refine W_cond _ rfl rfl (fun hb4 => ?_) (fun hb4 => ?_)
      · replace H := (if_pos (of_decide_eq_true hb4)).symm.trans H
        refine W_seq ?_
        refine W_reg (by kernel_rfl) ?_
        refine wla rfl rfl (q_move (v := (i64 a0i)) rfl rfl) ?_
        refine wla rfl rfl (q_move (v := (i64 r2)) rfl rfl) ?_
        obtain ⟨r5, hr5, H⟩ := Option.bind_eq_some_iff.1 H
        refine wls rfl rfl (stp_call (vs := [(i64 a0i), (i64 r2)]) Try.func53 rfl rfl rfl (ar2 rfl rfl) (ih a0i r2  r5 _  hr5) ?_)
        rintro _ w5 ⟨v5, rfl, x5, n5_0, o5_0⟩
        refine ⟨_, rfl, ?_⟩
        have o5 : OwK (Sc bl) w5 (v5 :: []) 4 v5 r5 := OwK.scal o5_0 _
        have n7 := Nw.ext e3 n5_0
        have e6 := e3.trans x5
        refine wls rfl rfl (stp_lit (L := [v5]) (R := (Sc bl)) [(.bool true)] ([true] : List Bool) rfl T79 rfl (by exact ⟨rfl, rfl, trivial⟩) rfl (litC bl (oneC_bool) (us := [(.bool true)]) (l := ([true] : List Bool)) rfl) rfl (litS bl (us := [(.bool true)]) (l := ([true] : List Bool)) rfl) ?_)
        intro v8 w8 o8 n8 g8 l8
        have x8 := grown_ext g8
        have i8 : Bo w8 [v5] v8 (([true] : List Bool)) := OwK.slk (Sc.stab _) _ o8 (fun k hk => (Old.cons (Old.nil _) o5.lt) k (n8 k hk)) (fun _ h => h.2)
        replace o5 := o5.extL (Sc.stab _) x8 (Lift.ext x8 _)
        have e9 := e6.trans x8
        obtain ⟨c10, hc10, H⟩ := Option.bind_eq_some_iff.1 H
        refine wls rfl rfl (stp_append (R := (Sc bl)) (v := v5) (u := v8) (Sc.stab _) [] [] rfl T79 rfl rfl o5 i8 (fun _ _ h => h) hc10 oc_bl ?_)
        intro v10 w10 o10 g10 nx10 l10
        replace i8 := i8.lift l10
        have e11 := e9.grown g10 n7
        have n12 := Nw.nxt e9 n7 nx10
        refine wla rfl rfl (q_assign (v := v10) rfl rfl) ?_
        refine wl_nil ?_
        refine W_th ?_
        refine W_ret ?_
        refine th_r ?_
        obtain rfl := Option.some.inj H
        refine rt1 v10 rfl rfl rfl rfl ?_
        exact ⟨v10, rfl, e11, n12, (o10.weak (Sc.stab _) (fun _ _ => trivial))⟩
      · replace H := (if_neg (of_decide_eq_false hb4)).symm.trans H
        refine W_skip ?_
        refine W_th ?_
        refine W_seq ?_
        refine W_reg (by kernel_rfl) ?_
        refine wla rfl rfl (q_move (v := (i64 a0i)) rfl rfl) ?_
        refine wla rfl rfl (q_move (v := (i64 r2)) rfl rfl) ?_
        refine wla rfl rfl (q_subI rfl rfl rfl) ?_
        refine wla rfl rfl (q_move (v := (i64 a1n)) rfl rfl) ?_
        refine wla rfl rfl (q_move (v := (i64 r2)) rfl rfl) ?_
        refine wla rfl rfl (q_subI rfl rfl rfl) ?_
        obtain ⟨r13, hr13, H⟩ := Option.bind_eq_some_iff.1 H
        refine wls rfl rfl (stp_call (vs := [(i64 ((wI (a0i - r2)))), (i64 ((wI (a1n - r2))))]) Try.func53 rfl rfl rfl (ar2 rfl rfl) (ih (wI (a0i - r2)) (wI (a1n - r2))  r13 _  hr13) ?_)
        rintro _ w13 ⟨v13, rfl, x13, n13_0, o13_0⟩
        refine ⟨_, rfl, ?_⟩
        have o13 : OwK (Sc bl) w13 (v13 :: []) 4 v13 r13 := OwK.scal o13_0 _
        have n15 := Nw.ext e3 n13_0
        have e14 := e3.trans x13
        refine wls rfl rfl (stp_lit (L := [v13]) (R := (Sc bl)) [(.bool false)] ([false] : List Bool) rfl T79 rfl (by exact ⟨rfl, rfl, trivial⟩) rfl (litC bl (oneC_bool) (us := [(.bool false)]) (l := ([false] : List Bool)) rfl) rfl (litS bl (us := [(.bool false)]) (l := ([false] : List Bool)) rfl) ?_)
        intro v16 w16 o16 n16 g16 l16
        have x16 := grown_ext g16
        have i16 : Bo w16 [v13] v16 (([false] : List Bool)) := OwK.slk (Sc.stab _) _ o16 (fun k hk => (Old.cons (Old.nil _) o13.lt) k (n16 k hk)) (fun _ h => h.2)
        replace o13 := o13.extL (Sc.stab _) x16 (Lift.ext x16 _)
        have e17 := e14.trans x16
        obtain ⟨c18, hc18, H⟩ := Option.bind_eq_some_iff.1 H
        refine wls rfl rfl (stp_append (R := (Sc bl)) (v := v13) (u := v16) (Sc.stab _) [] [] rfl T79 rfl rfl o13 i16 (fun _ _ h => h) hc18 oc_bl ?_)
        intro v18 w18 o18 g18 nx18 l18
        replace i16 := i16.lift l18
        have e19 := e17.grown g18 n15
        have n20 := Nw.nxt e17 n15 nx18
        refine wla rfl rfl (q_assign (v := v18) rfl rfl) ?_
        refine wl_nil ?_
        refine W_th ?_
        refine W_ret ?_
        obtain rfl := Option.some.inj H
        refine rt1 v18 rfl rfl rfl rfl ?_
        exact ⟨v18, rfl, e19, n20, (o18.weak (Sc.stab _) (fun _ _ => trivial))⟩

theorem tally_sides_calls (a0i : Int) (a1n : Int) (r : List Bool) (w0 : World) (H : tally_sides a0i a1n = some r) :
    Calls Try.prog 53 [(i64 a0i), (i64 a1n)].toArray w0 (fun e w' => ∃ u0 : Value, e = .returned u0 ∧ Ext w0 w' ∧ Nw w0 u0 ∧ OwK (Sc bl) w' [] 4 u0 r) := tally_sides_n_calls _ a0i a1n r w0 H

/-! largesse/tally.Check -/
noncomputable def tally_Check (a0root : List UInt8) (a1b : List UInt8) (a2i : Int) (a3n : Int) (a4way : List (List UInt8)) : Option Bool :=
(if a2i < 0 then some false
else
(if a3n ≤ a2i then some false
else
((tally_sides a2i a3n).bind fun r3 =>
(if (r3.length : Int) = (a4way.length : Int) then
((tally_item a1b).bind fun r6 =>
((iterC (fun s8 : List UInt8 × Int =>
(if s8.2 < (r3.length : Int) then
((idx r3 s8.2).bind fun c11 =>
((idx a4way s8.2).bind fun c12 =>
(if (c12.length : Int) = 32 then
(if c11 = true then
((idx a4way s8.2).bind fun c16 =>
((tally_both s8.1 c16).bind fun r18 => some (.inl (r18, (wI (s8.2 + 1))))))
else
((idx a4way s8.2).bind fun c20 =>
((tally_both c20 s8.1).bind fun r22 => some (.inl (r22, (wI (s8.2 + 1)))))))
else some (.inr (.inr false)))))
else some (.inr (.inl s8.1)))) (r6, 0)).bind (Sum.elim (fun y8 =>
((slices_Equal_sbytebyte y8 a0root).bind fun r26 => some r26)) (fun q8 => some q8))))
else some false))))
set_option maxRecDepth 100000 in
set_option maxHeartbeats 8000000 in
theorem tally_Check_calls (a0root : List UInt8) (a1b : List UInt8) (a2i : Int) (a3n : Int) (a4way : List (List UInt8)) (p0 : Value) (p1 : Value) (p4 : Value) (r : Bool) (w0 : World) (hp0 : By w0 [] p0 a0root) (hp1 : By w0 [] p1 a1b) (hp4 : Rw w0 [] p4 a4way) (H : tally_Check a0root a1b a2i a3n a4way = some r) :
    Calls Try.prog 25 [p0, p1, (i64 a2i), (i64 a3n), p4].toArray w0 (fun e w' => e = .returned (.bool r) ∧ Ext w0 w') := by
  have hE : Ext w0 w0 := Ext.refl w0
  unfold tally_Check at H
  refine calls_W (n := 64) Try.func25 rfl rfl rfl ?_
  refine W_seq ?_
  refine W_reg (by kernel_rfl) ?_
  refine wla rfl rfl (q_assign (v := (.bool false)) rfl rfl) ?_
  refine wl_nil ?_
  refine W_th ?_
  refine W_seq ?_
  refine W_seq ?_
  refine W_reg (by kernel_rfl) ?_
  refine wla rfl rfl (q_move (v := (i64 a2i)) rfl rfl) ?_
  refine wla rfl rfl (q_ltI rfl rfl rfl) ?_
  refine wlb rfl rfl (q_move (v := (.bool ((decide (a2i < 0))))) rfl rfl) (fun hb1 => ?_) (fun hb1 => ?_)
  · replace H := (if_pos (of_decide_eq_true hb1)).symm.trans H
    refine wlk rfl rfl ?_
    refine wlk rfl rfl ?_
    refine wlk rfl rfl ?_
    refine wla rfl rfl (q_pick_t (v := (.bool true)) rfl rfl rfl) ?_
    refine wl_nil ?_
    refine W_th ?_
    refine W_cond true rfl rfl (fun _ => ?_) (fun hb => by cases hb)
    refine W_seq ?_
    refine W_reg (by kernel_rfl) ?_
    refine wla rfl rfl (q_assign (v := (.bool false)) rfl rfl) ?_
    refine wl_nil ?_
    refine W_th ?_
    refine W_ret ?_
    refine th_r ?_
    obtain rfl := Option.some.inj H
    refine rt1 (.bool false) rfl rfl rfl rfl ?_
    exact ⟨rfl, hE⟩
  · replace H := (if_neg (of_decide_eq_false hb1)).symm.trans H
    refine wla rfl rfl (q_move (v := (i64 a2i)) rfl rfl) ?_
    refine wla rfl rfl (q_move (v := (i64 a3n)) rfl rfl) ?_
    refine wla rfl rfl (q_geI rfl rfl rfl) ?_
    refine wla rfl rfl (q_pick_f (v := (.bool ((decide (a3n ≤ a2i))))) rfl rfl rfl) ?_
    refine wl_nil ?_
    refine W_th ?_
    refine W_cond _ rfl rfl (fun hb2 => ?_) (fun hb2 => ?_)
    · replace H := (if_pos (of_decide_eq_true hb2)).symm.trans H
      refine W_seq ?_
      refine W_reg (by kernel_rfl) ?_
      refine wla rfl rfl (q_assign (v := (.bool false)) rfl rfl) ?_
      refine wl_nil ?_
      refine W_th ?_
      refine W_ret ?_
      refine th_r ?_
      obtain rfl := Option.some.inj H
      refine rt1 (.bool false) rfl rfl rfl rfl ?_
      exact ⟨rfl, hE⟩
    · replace H := (if_neg (of_decide_eq_false hb2)).symm.trans H
      refine W_skip ?_
      refine W_th ?_
      refine W_seq ?_
      refine W_reg (by kernel_rfl) ?_
      refine wla rfl rfl (q_move (v := (i64 a2i)) rfl rfl) ?_
      refine wla rfl rfl (q_move (v := (i64 a3n)) rfl rfl) ?_
      obtain ⟨r3, hr3, H⟩ := Option.bind_eq_some_iff.1 H
      refine wls rfl rfl (stp_call (vs := [(i64 a2i), (i64 a3n)]) Try.func53 rfl rfl rfl (ar2 rfl rfl) (tally_sides_calls a2i a3n  r3 _  hr3) ?_)
      rintro _ w3 ⟨v3, rfl, x3, n3_0, o3_0⟩
      refine ⟨_, rfl, ?_⟩
      have i3_0 : Bo w3 [] v3 r3 := OwK.slk (Sc.stab _) _ (OwK.scal o3_0 (v3 :: [])) (fun k hk => (Old.nil _) k (n3_0 k hk)) (fun _ h => h.2)
      have e4 := hE.trans x3
      refine wla rfl rfl (q_assign (v := v3) rfl rfl) ?_
      refine wl_nil ?_
      refine W_th ?_
      refine W_seq ?_
      refine W_seq ?_
      refine W_reg (by kernel_rfl) ?_
      refine wla rfl rfl (q_move (v := v3) rfl rfl) ?_
      refine wla rfl rfl (q_len rfl T79.sl rfl i3_0) ?_
      refine wla rfl rfl (q_move (v := p4) rfl rfl) ?_
      refine wla rfl rfl (q_len rfl T27.sl rfl (hp4.lift (Lift.ext e4 _))) ?_
      refine wla rfl rfl (q_neI rfl rfl rfl) ?_
      refine wl_nil ?_
      refine W_th ?_
      refine W_cond _ rfl rfl (fun hb5 => ?_) (fun hb5 => ?_)
      · replace H := (if_neg (ndec_t hb5)).symm.trans H
        refine W_seq ?_
        refine W_reg (by kernel_rfl) ?_
        refine wla rfl rfl (q_assign (v := (.bool false)) rfl rfl) ?_
        refine wl_nil ?_
        refine W_th ?_
        refine W_ret ?_
        refine th_r ?_
        obtain rfl := Option.some.inj H
        refine rt1 (.bool false) rfl rfl rfl rfl ?_
        exact ⟨rfl, e4⟩
      · replace H := (if_pos (ndec_f hb5)).symm.trans H
        refine W_skip ?_
        refine W_th ?_
        refine W_seq ?_
        refine W_reg (by kernel_rfl) ?_
        refine wla rfl rfl (q_move (v := p1) rfl rfl) ?_
        obtain ⟨r6, hr6, H⟩ := Option.bind_eq_some_iff.1 H
        refine wls rfl rfl (stp_call (vs := [p1]) Try.func44 rfl rfl rfl (ar1 rfl) (tally_item_calls a1b p1 r6 _ (hp1.lift (Lift.ext e4 _)) hr6) ?_)
        rintro _ w6 ⟨v6, rfl, x6, n6_0, o6_0⟩
        refine ⟨_, rfl, ?_⟩
        have i6_0 : By w6 [] v6 r6 := OwK.slk (Sc.stab _) _ (OwK.scal o6_0 (v6 :: [])) (fun k hk => (Old.nil _) k (n6_0 k hk)) (fun _ h => h.2)
        replace i3_0 := i3_0.lift (Lift.ext x6 _)
        have e7 := e4.trans x6
        refine wla rfl rfl (q_assign (v := v6) rfl rfl) ?_
        refine wl_nil ?_
        refine W_th ?_
        refine W_seq ?_
        refine W_seq ?_
        refine W_reg (by kernel_rfl) ?_
        refine wla rfl rfl (q_move (v := v3) rfl rfl) ?_
        refine wla rfl rfl (q_len rfl T79.sl rfl i3_0) ?_
        refine wla rfl rfl (q_move (v := (i64 0)) rfl rfl) ?_
        refine wl_nil ?_
        refine W_th ?_
        obtain ⟨x8, G8, H⟩ := Option.bind_eq_some_iff.1 H
        refine W_mid (fun f w => ∃ y8, x8 = .inl y8 ∧ ∃ v12_28 : Value, f 0 = p0 ∧ f 12 = v12_28 ∧ f 64 = undef ∧ Ext w0 w ∧ By w [] v12_28 y8) ?_ ?_
        · refine W_block ?_
          refine W_loop (fun s8 f w => ∃ v12_24 : Value, f 0 = p0 ∧ f 4 = p4 ∧ f 12 = v12_24 ∧ f 32 = v3 ∧ f 33 = (i64 ((r3.length : Int))) ∧ f 34 = (i64 s8.2) ∧ f 64 = undef ∧ Ext w0 w ∧ By w [] v12_24 s8.1 ∧ Bo w [] v3 r3) G8 ?_ ?_
          · exact ⟨v6, rfl, rfl, rfl, rfl, rfl, rfl, rfl, e7, i6_0, i3_0⟩
          · rintro s8 _ _ w9 ⟨v12_9, s0_9, s4_9, s12_9, s32_9, s33_9, s34_9, s64_9, hE9, i0_9, i1_9⟩ H8 hr8
            refine W_seq ?_
            refine W_reg (by kernel_rfl) ?_
            refine wla rfl rfl (q_ltI rfl s34_9 s33_9) ?_
            refine wl_nil ?_
            refine W_th ?_
            refine W_seq ?_
            refine W_cond _ rfl rfl (fun hb10 => ?_) (fun hb10 => ?_)
            · replace H8 := (if_pos (of_decide_eq_true hb10)).symm.trans H8
              refine W_skip ?_
              refine W_th ?_
              refine W_seq ?_
              refine W_block ?_
              refine W_seq ?_
              refine W_reg (by kernel_rfl) ?_
              refine wla rfl rfl (q_move (v := (i64 s8.2)) rfl s34_9) ?_
              obtain ⟨c11, hc11, H8⟩ := Option.bind_eq_some_iff.1 H8
              refine wla rfl rfl (q_adr rfl T79 s32_9 s34_9 i1_9 hc11) ?_
              refine wlq rfl rfl (q_loadS rfl T79 rfl i1_9 hc11) ?_
              refine wla rfl rfl (q_assign (v := (i64 s8.2)) rfl rfl) ?_
              refine wla rfl rfl (q_assign (v := (.bool c11)) rfl rfl) ?_
              refine wl_nil ?_
              refine W_th ?_
              refine W_block ?_
              refine W_seq ?_
              refine W_reg (by kernel_rfl) ?_
              refine wla rfl rfl (q_move (v := p4) rfl s4_9) ?_
              refine wla rfl rfl (q_move (v := (i64 s8.2)) rfl rfl) ?_
              obtain ⟨c12, hc12, H8⟩ := Option.bind_eq_some_iff.1 H8
              refine wla rfl rfl (q_adr rfl T27 rfl rfl (hp4.lift (Lift.ext hE9 _)) hc12) ?_
              refine wlq_load rfl rfl rfl T27 rfl hp4 hc12 hE9 (fun v13 ha13 => ?_)
              refine wla rfl rfl (q_len rfl T22.sl rfl (ha13.lift (Lift.ext hE9 _))) ?_
              refine wla rfl rfl (q_neI rfl rfl rfl) ?_
              refine wla rfl rfl (q_assign (v := (.bool ((!decide ((c12.length : Int) = 32))))) rfl rfl) ?_
              refine wl_nil ?_
              refine W_th ?_
              refine W_cond _ rfl rfl (fun hb14 => ?_) (fun hb14 => ?_)
              · replace H8 := (if_neg (ndec_t hb14)).symm.trans H8
                refine W_seq ?_
                refine W_reg (by kernel_rfl) ?_
                refine wla rfl rfl (q_assign (v := (.bool false)) rfl rfl) ?_
                refine wl_nil ?_
                refine W_th ?_
                refine W_ret ?_
                refine bk_r ?_
                refine bk_r ?_
                refine th_r ?_
                obtain rfl := Option.some.inj H8
                obtain rfl := hr8 _ rfl
                simp only [Sum.elim_inr] at H
                refine th_r ?_
                refine bk_r ?_
                refine th_r ?_
                refine th_r ?_
                obtain rfl := Option.some.inj H
                refine rt1 (.bool false) rfl rfl rfl s64_9 ?_
                exact ⟨rfl, hE9⟩
              · replace H8 := (if_pos (ndec_f hb14)).symm.trans H8
                refine W_seq ?_
                refine W_reg (by kernel_rfl) ?_
                refine wla rfl rfl (q_move (v := (.bool c11)) rfl rfl) ?_
                refine wla rfl rfl (q_assign (v := (.bool c11)) rfl rfl) ?_
                refine wl_nil ?_
                refine W_th ?_
                refine W_cond _ rfl rfl (fun hb15 => ?_) (fun hb15 => ?_)
                · replace H8 := (if_pos hb15).symm.trans H8
                  refine W_reg (by kernel_rfl) ?_
                  refine wla rfl rfl (q_move (v := v12_9) rfl s12_9) ?_
                  refine wla rfl rfl (q_move (v := p4) rfl s4_9) ?_
                  refine wla rfl rfl (q_move (v := (i64 s8.2)) rfl rfl) ?_
                  obtain ⟨c16, hc16, H8⟩ := Option.bind_eq_some_iff.1 H8
                  refine wla rfl rfl (q_adr rfl T27 rfl rfl (hp4.lift (Lift.ext hE9 _)) hc16) ?_
                  refine wlq_load rfl rfl rfl T27 rfl hp4 hc16 hE9 (fun v17 ha17 => ?_)
                  obtain ⟨r18, hr18, H8⟩ := Option.bind_eq_some_iff.1 H8
                  refine wls rfl rfl (stp_call (vs := [v12_9, v17]) Try.func46 rfl rfl rfl (ar2 rfl rfl) (tally_both_calls s8.1 c16 v12_9 v17 r18 _ (i0_9.lift (Lift.sub (fun _ _ => trivial))) (ha17.lift (Lift.ext hE9 _)) hr18) ?_)
                  rintro _ w18 ⟨v18, rfl, x18, n18_0, o18_0⟩
                  refine ⟨_, rfl, ?_⟩
                  have i18_0 : By w18 [] v18 r18 := OwK.slk (Sc.stab _) _ (OwK.scal o18_0 (v18 :: [])) (fun k hk => (Old.nil _) k (n18_0 k hk)) (fun _ h => h.2)
                  replace i0_9 := i0_9.lift (Lift.ext x18 _)
                  replace i1_9 := i1_9.lift (Lift.ext x18 _)
                  have e19 := hE9.trans x18
                  refine wla rfl rfl (q_assign (v := v18) rfl rfl) ?_
                  refine wl_nil ?_
                  refine bk_n ?_
                  refine bk_n ?_
                  refine W_th ?_
                  refine W_reg (by kernel_rfl) ?_
                  refine wla rfl rfl (q_addI rfl s34_9 rfl) ?_
                  refine wla rfl rfl (q_move (v := (i64 ((wI (s8.2 + 1))))) rfl rfl) ?_
                  refine wl_nil ?_
                  obtain rfl := Option.some.inj H8
                  exact ⟨_, rfl, v18, s0_9, s4_9, rfl, s32_9, s33_9, rfl, s64_9, e19, i18_0, i1_9⟩
                · replace H8 := (if_neg (ne_true_of_eq_false hb15)).symm.trans H8
                  refine W_reg (by kernel_rfl) ?_
                  refine wla rfl rfl (q_move (v := p4) rfl s4_9) ?_
                  refine wla rfl rfl (q_move (v := (i64 s8.2)) rfl rfl) ?_
                  obtain ⟨c20, hc20, H8⟩ := Option.bind_eq_some_iff.1 H8
                  refine wla rfl rfl (q_adr rfl T27 rfl rfl (hp4.lift (Lift.ext hE9 _)) hc20) ?_
                  refine wlq_load rfl rfl rfl T27 rfl hp4 hc20 hE9 (fun v21 ha21 => ?_)
                  refine wla rfl rfl (q_move (v := v12_9) rfl s12_9) ?_
                  obtain ⟨r22, hr22, H8⟩ := Option.bind_eq_some_iff.1 H8
                  refine wls rfl rfl (stp_call (vs := [v21, v12_9]) Try.func46 rfl rfl rfl (ar2 rfl rfl) (tally_both_calls c20 s8.1 v21 v12_9 r22 _ (ha21.lift (Lift.ext hE9 _)) (i0_9.lift (Lift.sub (fun _ _ => trivial))) hr22) ?_)
                  rintro _ w22 ⟨v22, rfl, x22, n22_0, o22_0⟩
                  refine ⟨_, rfl, ?_⟩
                  have i22_0 : By w22 [] v22 r22 := OwK.slk (Sc.stab _) _ (OwK.scal o22_0 (v22 :: [])) (fun k hk => (Old.nil _) k (n22_0 k hk)) (fun _ h => h.2)
                  replace i0_9 := i0_9.lift (Lift.ext x22 _)
                  replace i1_9 := i1_9.lift (Lift.ext x22 _)
                  have e23 := hE9.trans x22
                  refine wla rfl rfl (q_assign (v := v22) rfl rfl) ?_
                  refine wl_nil ?_
                  refine bk_n ?_
                  refine bk_n ?_
                  refine W_th ?_
                  refine W_reg (by kernel_rfl) ?_
                  refine wla rfl rfl (q_addI rfl s34_9 rfl) ?_
                  refine wla rfl rfl (q_move (v := (i64 ((wI (s8.2 + 1))))) rfl rfl) ?_
                  refine wl_nil ?_
                  obtain rfl := Option.some.inj H8
                  exact ⟨_, rfl, v22, s0_9, s4_9, rfl, s32_9, s33_9, rfl, s64_9, e23, i22_0, i1_9⟩
            · replace H8 := (if_neg (of_decide_eq_false hb10)).symm.trans H8
              refine W_exit ?_
              refine th_x ?_
              obtain rfl := Option.some.inj H8
              obtain rfl := hr8 _ rfl
              refine th_x ?_
              refine bk_x ?_
              exact ⟨_, rfl, v12_9, s0_9, s12_9, s64_9, hE9, i0_9⟩
        · rintro _ w25 ⟨y8, rfl, v12_25, s0_25, s12_25, s64_25, hE25, i0_25⟩
          simp only [Sum.elim_inl] at H
          refine W_th ?_
          refine W_seq ?_
          refine W_reg (by kernel_rfl) ?_
          refine wla rfl rfl (q_move (v := v12_25) rfl s12_25) ?_
          refine wla rfl rfl (q_move (v := p0) rfl s0_25) ?_
          obtain ⟨r26, hr26, H⟩ := Option.bind_eq_some_iff.1 H
          refine wls rfl rfl (stp_call (vs := [v12_25, p0]) Try.func54 rfl rfl rfl (ar2 rfl rfl) (slices_Equal_sbytebyte_calls y8 a0root v12_25 p0 r26 _ (i0_25.lift (Lift.sub (fun _ _ => trivial))) (hp0.lift (Lift.ext hE25 _)) hr26) ?_)
          rintro _ w26 ⟨rfl, x26⟩
          refine ⟨_, rfl, ?_⟩
          replace i0_25 := i0_25.lift (Lift.ext x26 _)
          have e27 := hE25.trans x26
          refine wla rfl rfl (q_assign (v := (.bool r26)) rfl rfl) ?_
          refine wl_nil ?_
          refine W_th ?_
          refine W_ret ?_
          obtain rfl := Option.some.inj H
          refine rt1 (.bool r26) rfl rfl rfl s64_25 ?_
          exact ⟨rfl, e27⟩

end Gk

/- Printed by gen.py: for each Go function a pure function, and that the Go code comes to it. No condition beside the equation that says what the pure function gives. -/

set_option linter.unusedVariables false
set_option linter.unusedSimpArgs false
namespace Gk
open Go Go.Proofs

/-! largesse/largesseref32.left -/
noncomputable def ref32_left (a0n : Int) : Option Int :=
((iterC (fun s1 : Int =>
(if (wI (2 * s1)) < a0n then some (.inl (wI (2 * s1)))
else some (.inr s1))) 1).bind fun x1 => some x1)
set_option maxRecDepth 100000 in
set_option maxHeartbeats 8000000 in
theorem ref32_left_calls (a0n : Int) (r : Int) (w0 : World) (H : ref32_left a0n = some r) :
    Calls Try.prog 48 [(i64 a0n)].toArray w0 (fun e w' => e = .returned (i64 r) ∧ Ext w0 w') := by
  have hE : Ext w0 w0 := Ext.refl w0
  unfold ref32_left at H
  refine calls_W (n := 11) Try.func48 rfl rfl rfl ?_
  refine W_seq ?_
  refine W_reg (by kernel_rfl) ?_
  refine wla rfl rfl (q_assign (v := (i64 0)) rfl rfl) ?_
  refine wl_nil ?_
  refine W_th ?_
  refine W_seq ?_
  refine W_reg (by kernel_rfl) ?_
  refine wla rfl rfl (q_assign (v := (i64 1)) rfl rfl) ?_
  refine wl_nil ?_
  refine W_th ?_
  refine W_seq ?_
  obtain ⟨x1, G1, H⟩ := Option.bind_eq_some_iff.1 H
  refine W_mid (fun f w => f 3 = (i64 x1) ∧ f 11 = undef ∧ Ext w0 w) ?_ ?_
  · refine W_block ?_
    refine W_loop (fun s1 f w => f 0 = (i64 a0n) ∧ f 3 = (i64 s1) ∧ f 11 = undef ∧ Ext w0 w) G1 ?_ ?_
    · exact ⟨rfl, rfl, rfl, hE⟩
    · rintro s1 _ _ w2 ⟨s0_2, s3_2, s11_2, hE2⟩ H1 hr1
      refine W_seq ?_
      refine W_seq ?_
      refine W_reg (by kernel_rfl) ?_
      refine wla rfl rfl (q_move (v := (i64 s1)) rfl s3_2) ?_
      refine wla rfl rfl (q_mulI rfl rfl rfl) ?_
      refine wla rfl rfl (q_move (v := (i64 a0n)) rfl s0_2) ?_
      refine wla rfl rfl (q_ltI rfl rfl rfl) ?_
      refine wl_nil ?_
      refine W_th ?_
      refine W_cond _ rfl rfl (fun hb3 => ?_) (fun hb3 => ?_)
      · replace H1 := (if_pos (of_decide_eq_true hb3)).symm.trans H1
        refine W_skip ?_
        refine W_th ?_
        refine W_block ?_
        refine W_reg (by kernel_rfl) ?_
        refine wla rfl rfl (q_move (v := (i64 s1)) rfl s3_2) ?_
        refine wla rfl rfl (q_mulI rfl rfl rfl) ?_
        refine wla rfl rfl (q_assign (v := (i64 ((wI (2 * s1))))) rfl rfl) ?_
        refine wl_nil ?_
        refine bk_n ?_
        obtain rfl := Option.some.inj H1
        exact ⟨_, rfl, s0_2, rfl, s11_2, hE2⟩
      · replace H1 := (if_neg (of_decide_eq_false hb3)).symm.trans H1
        refine W_exit ?_
        refine th_x ?_
        obtain rfl := Option.some.inj H1
        obtain rfl := hr1 _ rfl
        refine th_x ?_
        refine bk_x ?_
        exact ⟨s3_2, s11_2, hE2⟩
  · rintro _ w5 ⟨s3_5, s11_5, hE5⟩
    refine W_th ?_
    refine W_seq ?_
    refine W_reg (by kernel_rfl) ?_
    refine wla rfl rfl (q_move (v := (i64 x1)) rfl s3_5) ?_
    refine wla rfl rfl (q_assign (v := (i64 x1)) rfl rfl) ?_
    refine wl_nil ?_
    refine W_th ?_
    refine W_ret ?_
    obtain rfl := Option.some.inj H
    refine rt1 (i64 x1) rfl rfl rfl s11_5 ?_
    exact ⟨rfl, hE5⟩

/-! largesse/largesseref32.Both -/
noncomputable def ref32_Both (a0a : List UInt8) (a1b : List UInt8) : Option (List UInt8) :=
((appL (([(1 : UInt8)] : List UInt8)) a0a).bind fun c4 =>
((appL c4 a1b).bind fun c7 =>
((ref07_Sum c7).bind fun r10 => some r10)))
set_option maxRecDepth 100000 in
set_option maxHeartbeats 8000000 in
theorem ref32_Both_calls (a0a : List UInt8) (a1b : List UInt8) (p0 : Value) (p1 : Value) (r : List UInt8) (w0 : World) (hp0 : By w0 [] p0 a0a) (hp1 : By w0 [] p1 a1b) (H : ref32_Both a0a a1b = some r) :
    Calls Try.prog 49 [p0, p1].toArray w0 (fun e w' => ∃ u0 : Value, e = .returned u0 ∧ Ext w0 w' ∧ Nw w0 u0 ∧ OwK (Sc u8) w' [] 5 u0 r) := by
  have hE : Ext w0 w0 := Ext.refl w0
  unfold ref32_Both at H
  refine calls_W (n := 11) Try.func49 rfl rfl rfl ?_
  refine W_seq ?_
  refine W_reg (by kernel_rfl) ?_
  refine wla rfl rfl (q_assign (v := (.slice none 0 0)) rfl rfl) ?_
  refine wl_nil ?_
  refine W_th ?_
  refine W_seq ?_
  refine W_reg (by kernel_rfl) ?_
  refine wls rfl rfl (stp_lit (L := []) (R := (Sc u8)) [(u8 1)] ([(1 : UInt8)] : List UInt8) rfl T22 rfl (by exact ⟨rfl, (cst8 (1 : UInt8) rfl), trivial⟩) rfl (litC u8 (oneC_u8) (us := [(u8 1)]) (l := ([(1 : UInt8)] : List UInt8)) rfl) rfl (litS u8 (us := [(u8 1)]) (l := ([(1 : UInt8)] : List UInt8)) rfl) ?_)
  intro v1 w1 o1 n1 g1 l1
  have x1 := grown_ext g1
  have n3 := Nw.ext hE n1
  have e2 := hE.trans x1
  refine wla rfl rfl (q_move (v := p0) rfl rfl) ?_
  obtain ⟨c4, hc4, H⟩ := Option.bind_eq_some_iff.1 H
  refine wls rfl rfl (stp_append (R := (Sc u8)) (v := v1) (u := p0) (Sc.stab _) [] [] rfl T22 rfl rfl o1 (hp0.lift (Lift.ext e2 _)) (fun _ _ h => h) hc4 oc_u8 ?_)
  intro v4 w4 o4 g4 nx4 l4
  have e5 := e2.grown g4 n3
  have n6 := Nw.nxt e2 n3 nx4
  refine wla rfl rfl (q_move (v := p1) rfl rfl) ?_
  obtain ⟨c7, hc7, H⟩ := Option.bind_eq_some_iff.1 H
  refine wls rfl rfl (stp_append (R := (Sc u8)) (v := v4) (u := p1) (Sc.stab _) [] [] rfl T22 rfl rfl o4 (hp1.lift (Lift.ext e5 _)) (fun _ _ h => h) hc7 oc_u8 ?_)
  intro v7 w7 o7 g7 nx7 l7
  have e8 := e5.grown g7 n6
  have n9 := Nw.nxt e5 n6 nx7
  obtain ⟨r10, hr10, H⟩ := Option.bind_eq_some_iff.1 H
  refine wls rfl rfl (stp_call (vs := [v7]) Try.func13 rfl rfl rfl (ar1 rfl) (ref07_Sum_calls c7 v7 r10 _ (o7.rd (Sc.stab _)) hr10) ?_)
  rintro _ w10 ⟨v10, rfl, x10, n10_0, o10_0⟩
  refine ⟨_, rfl, ?_⟩
  have o10 : OwK (Sc u8) w10 (v10 :: [v7]) 5 v10 r10 := OwK.scal o10_0 _
  have q11 : Nq v7 v10 := o7.nq n10_0
  replace o7 := o7.extL (Sc.stab _) x10 (Lift.call _ x10 n10_0)
  have n13 := Nw.ext e8 n10_0
  have e12 := e8.trans x10
  refine wla rfl rfl (q_assign (v := v10) rfl rfl) ?_
  refine wl_nil ?_
  refine W_th ?_
  refine W_ret ?_
  obtain rfl := Option.some.inj H
  refine rt1 v10 rfl rfl rfl rfl ?_
  exact ⟨v10, rfl, e12, n13, (o10.weak (Sc.stab _) (fun _ _ => trivial))⟩

/-! largesse/largesseref32.Item -/
noncomputable def ref32_Item (a0b : List UInt8) : Option (List UInt8) :=
((appL (([(0 : UInt8)] : List UInt8)) a0b).bind fun c4 =>
((ref07_Sum c4).bind fun r7 => some r7))
set_option maxRecDepth 100000 in
set_option maxHeartbeats 8000000 in
theorem ref32_Item_calls (a0b : List UInt8) (p0 : Value) (r : List UInt8) (w0 : World) (hp0 : By w0 [] p0 a0b) (H : ref32_Item a0b = some r) :
    Calls Try.prog 47 [p0].toArray w0 (fun e w' => ∃ u0 : Value, e = .returned u0 ∧ Ext w0 w' ∧ Nw w0 u0 ∧ OwK (Sc u8) w' [] 5 u0 r) := by
  have hE : Ext w0 w0 := Ext.refl w0
  unfold ref32_Item at H
  refine calls_W (n := 7) Try.func47 rfl rfl rfl ?_
  refine W_seq ?_
  refine W_reg (by kernel_rfl) ?_
  refine wla rfl rfl (q_assign (v := (.slice none 0 0)) rfl rfl) ?_
  refine wl_nil ?_
  refine W_th ?_
  refine W_seq ?_
  refine W_reg (by kernel_rfl) ?_
  refine wls rfl rfl (stp_lit (L := []) (R := (Sc u8)) [(u8 0)] ([(0 : UInt8)] : List UInt8) rfl T22 rfl (by exact ⟨rfl, (cst8 (0 : UInt8) rfl), trivial⟩) rfl (litC u8 (oneC_u8) (us := [(u8 0)]) (l := ([(0 : UInt8)] : List UInt8)) rfl) rfl (litS u8 (us := [(u8 0)]) (l := ([(0 : UInt8)] : List UInt8)) rfl) ?_)
  intro v1 w1 o1 n1 g1 l1
  have x1 := grown_ext g1
  have n3 := Nw.ext hE n1
  have e2 := hE.trans x1
  refine wla rfl rfl (q_move (v := p0) rfl rfl) ?_
  obtain ⟨c4, hc4, H⟩ := Option.bind_eq_some_iff.1 H
  refine wls rfl rfl (stp_append (R := (Sc u8)) (v := v1) (u := p0) (Sc.stab _) [] [] rfl T22 rfl rfl o1 (hp0.lift (Lift.ext e2 _)) (fun _ _ h => h) hc4 oc_u8 ?_)
  intro v4 w4 o4 g4 nx4 l4
  have e5 := e2.grown g4 n3
  have n6 := Nw.nxt e2 n3 nx4
  obtain ⟨r7, hr7, H⟩ := Option.bind_eq_some_iff.1 H
  refine wls rfl rfl (stp_call (vs := [v4]) Try.func13 rfl rfl rfl (ar1 rfl) (ref07_Sum_calls c4 v4 r7 _ (o4.rd (Sc.stab _)) hr7) ?_)
  rintro _ w7 ⟨v7, rfl, x7, n7_0, o7_0⟩
  refine ⟨_, rfl, ?_⟩
  have o7 : OwK (Sc u8) w7 (v7 :: [v4]) 5 v7 r7 := OwK.scal o7_0 _
  have q8 : Nq v4 v7 := o4.nq n7_0
  replace o4 := o4.extL (Sc.stab _) x7 (Lift.call _ x7 n7_0)
  have n10 := Nw.ext e5 n7_0
  have e9 := e5.trans x7
  refine wla rfl rfl (q_assign (v := v7) rfl rfl) ?_
  refine wl_nil ?_
  refine W_th ?_
  refine W_ret ?_
  obtain rfl := Option.some.inj H
  refine rt1 v7 rfl rfl rfl rfl ?_
  exact ⟨v7, rfl, e9, n10, (o7.weak (Sc.stab _) (fun _ _ => trivial))⟩

/-! largesse/largesseref32.Tree -/
noncomputable def ref32_Tree_n : Nat → (List (List UInt8)) → Option (List UInt8)
| 0, _ => none
| fu + 1, a0l =>
(if (a0l.length : Int) = 0 then
((ref07_Sum ([] : List UInt8)).bind fun r2 => some r2)
else
(if (a0l.length : Int) = 1 then
((idx a0l 0).bind fun c6 =>
((ref32_Item c6).bind fun r8 => some r8))
else
((ref32_left (a0l.length : Int)).bind fun r11 =>
((subL a0l 0 r11).bind fun c15 =>
((subL a0l r11 ((a0l.length : Int))).bind fun c16 =>
((ref32_Tree_n fu c15).bind fun r17 =>
((ref32_Tree_n fu c16).bind fun r19 =>
((ref32_Both r17 r19).bind fun r21 => some r21))))))))
noncomputable def ref32_Tree (a0l : List (List UInt8)) : Option (List UInt8) := ref32_Tree_n (a0l.length+1) a0l
set_option maxRecDepth 100000 in
set_option maxHeartbeats 8000000 in
theorem ref32_Tree_n_calls (fu : Nat) : ∀ (a0l : List (List UInt8)) (p0 : Value) (r : List UInt8) (w0 : World) (hp0 : Rw w0 [] p0 a0l) (H : ref32_Tree_n fu a0l = some r),
    Calls Try.prog 17 [p0].toArray w0 (fun e w' => ∃ u0 : Value, e = .returned u0 ∧ Ext w0 w' ∧ Nw w0 u0 ∧ OwK (Sc u8) w' [] 5 u0 r) := by
  induction fu with
  | zero => intro a0l p0 r w0 hp0 H; cases H
  | succ fu ih =>
    intro a0l p0 r w0 hp0 H
    have hE : Ext w0 w0 := Ext.refl w0
    rw [ref32_Tree_n] at H
    refine calls_W (n := 27) Try.func17 rfl rfl rfl ?_
    refine W_seq ?_
    refine W_reg (by kernel_rfl) ?_
    refine wla rfl rfl (q_assign (v := (.slice none 0 0)) rfl rfl) ?_
    refine wl_nil ?_
    refine W_th ?_
    refine W_seq ?_
    refine W_seq ?_
    refine W_reg (by kernel_rfl) ?_
    refine wla rfl rfl (q_move (v := p0) rfl rfl) ?_
    refine wla rfl rfl (q_len rfl T27.sl rfl (hp0.lift (Lift.ext hE _))) ?_
    refine wla rfl rfl (q_eqI rfl rfl rfl) ?_
    refine wl_nil ?_
    refine W_th ?_
    refine W_cond _ rfl rfl (fun hb1 => ?_) (fun hb1 => ?_)
    · replace H := (if_pos (of_decide_eq_true hb1)).symm.trans H
      refine W_seq ?_
      refine W_reg (by kernel_rfl) ?_
      obtain ⟨r2, hr2, H⟩ := Option.bind_eq_some_iff.1 H
      refine wls rfl rfl (stp_call (vs := [(.slice none 0 0)]) Try.func13 rfl rfl rfl (ar1 rfl) (ref07_Sum_calls ([] : List UInt8) (.slice none 0 0) r2 _ (SlK.nil _ _ _) hr2) ?_)
      rintro _ w2 ⟨v2, rfl, x2, n2_0, o2_0⟩
      refine ⟨_, rfl, ?_⟩
      have o2 : OwK (Sc u8) w2 (v2 :: []) 5 v2 r2 := OwK.scal o2_0 _
      have n4 := Nw.ext hE n2_0
      have e3 := hE.trans x2
      refine wla rfl rfl (q_assign (v := v2) rfl rfl) ?_
      refine wl_nil ?_
      refine W_th ?_
      refine W_ret ?_
      refine th_r ?_
      obtain rfl := Option.some.inj H
      refine rt1 v2 rfl rfl rfl rfl ?_
      exact ⟨v2, rfl, e3, n4, (o2.weak (Sc.stab _) (fun _ _ => trivial))⟩
    · replace H := (if_neg (of_decide_eq_false hb1)).symm.trans H
      refine W_skip ?_
      refine W_th ?_
      refine W_seq ?_
      refine W_seq ?_
      refine W_reg (by kernel_rfl) ?_
      refine wla rfl rfl (q_move (v := p0) rfl rfl) ?_
      refine wla rfl rfl (q_len rfl T27.sl rfl (hp0.lift (Lift.ext hE _))) ?_
      refine wla rfl rfl (q_eqI rfl rfl rfl) ?_
      refine wl_nil ?_
      refine W_th ?_
      refine W_cond _ rfl rfl (fun hb5 => ?_) (fun hb5 => ?_)
      · replace H := (if_pos (of_decide_eq_true hb5)).symm.trans H
        refine W_seq ?_
        refine W_reg (by kernel_rfl) ?_
        refine wla rfl rfl (q_move (v := p0) rfl rfl) ?_
        obtain ⟨c6, hc6, H⟩ := Option.bind_eq_some_iff.1 H
        refine wla rfl rfl (q_adr rfl T27 rfl rfl (hp0.lift (Lift.ext hE _)) hc6) ?_
        refine wlq_load rfl rfl rfl T27 rfl hp0 hc6 hE (fun v7 ha7 => ?_)
        obtain ⟨r8, hr8, H⟩ := Option.bind_eq_some_iff.1 H
        refine wls rfl rfl (stp_call (vs := [v7]) Try.func47 rfl rfl rfl (ar1 rfl) (ref32_Item_calls c6 v7 r8 _ (ha7.lift (Lift.ext hE _)) hr8) ?_)
        rintro _ w8 ⟨v8, rfl, x8, n8_0, o8_0⟩
        refine ⟨_, rfl, ?_⟩
        have o8 : OwK (Sc u8) w8 (v8 :: []) 5 v8 r8 := OwK.scal o8_0 _
        have n10 := Nw.ext hE n8_0
        have e9 := hE.trans x8
        refine wla rfl rfl (q_assign (v := v8) rfl rfl) ?_
        refine wl_nil ?_
        refine W_th ?_
        refine W_ret ?_
        refine th_r ?_
        obtain rfl := Option.some.inj H
        refine rt1 v8 rfl rfl rfl rfl ?_
        exact ⟨v8, rfl, e9, n10, (o8.weak (Sc.stab _) (fun _ _ => trivial))⟩
      · replace H := (if_neg (of_decide_eq_false hb5)).symm.trans H
        refine W_skip ?_
        refine W_th ?_
        refine W_seq ?_
        refine W_reg (by kernel_rfl) ?_
        refine wla rfl rfl (q_move (v := p0) rfl rfl) ?_
        refine wla rfl rfl (q_len rfl T27.sl rfl (hp0.lift (Lift.ext hE _))) ?_
        obtain ⟨r11, hr11, H⟩ := Option.bind_eq_some_iff.1 H
        refine wls rfl rfl (stp_call (vs := [(i64 ((a0l.length : Int)))]) Try.func48 rfl rfl rfl (ar1 rfl) (ref32_left_calls (a0l.length : Int)  r11 _  hr11) ?_)
        rintro _ w11 ⟨rfl, x11⟩
        refine ⟨_, rfl, ?_⟩
        have e12 := hE.trans x11
        refine wla rfl rfl (q_assign (v := (i64 r11)) rfl rfl) ?_
        refine wl_nil ?_
        refine W_th ?_
        refine W_seq ?_
        refine W_draw [] [(0, 0), (1, 0), (2, 0), (4, 0), (5, 0), (6, 0), (3, 2), (7, 2), (8, 2), (9, 0)] mixed (by kernel_rfl) (by kernel_rfl) (by kernel_rfl) (by kernel_rfl) ?_
        have x13 := Ext.drew w11
        have e14 := e12.trans x13
        refine wsa rfl rfl rfl (q_move (v := p0) rfl rfl) ?_
        refine wsa rfl rfl rfl (q_move (v := (i64 r11)) rfl rfl) ?_
        obtain ⟨c15, hc15, H⟩ := Option.bind_eq_some_iff.1 H
        refine wsa rfl rfl rfl (q_slice (a := 0) (b := r11) rfl T27 rfl (hp0.lift (Lift.ext e14 _)) rfl rfl hc15) ?_
        refine wsa rfl rfl rfl (q_move (v := p0) rfl rfl) ?_
        refine wsa rfl rfl rfl (q_move (v := (i64 r11)) rfl rfl) ?_
        obtain ⟨c16, hc16, H⟩ := Option.bind_eq_some_iff.1 H
        refine wsa rfl rfl rfl (q_slice (a := r11) (b := (a0l.length : Int)) rfl T27 rfl (hp0.lift (Lift.ext e14 _)) rfl rfl hc16) ?_
        obtain ⟨r17, hr17, H⟩ := Option.bind_eq_some_iff.1 H
        refine wsc rfl (by kernel_rfl) rfl rfl (stp_call (vs := [(subV p0 (0 : Int).toNat (r11 : Int).toNat)]) Try.func17 rfl rfl rfl (ar1 rfl) (ih c15 (subV p0 (0 : Int).toNat (r11 : Int).toNat) r17 _ (SlK.cut (L := []) (hp0.lift (Lift.ext e14 _)) hc15) hr17) ?_)
        rintro _ w17 ⟨v17, rfl, x17, n17_0, o17_0⟩
        refine ⟨_, rfl, ?_⟩
        have i17_0 : By w17 [] v17 r17 := OwK.slk (Sc.stab _) _ (OwK.scal o17_0 (v17 :: [])) (fun k hk => (Old.nil _) k (n17_0 k hk)) (fun _ h => h.2)
        have e18 := e14.trans x17
        obtain ⟨r19, hr19, H⟩ := Option.bind_eq_some_iff.1 H
        refine wsc rfl (by kernel_rfl) rfl rfl (stp_call (vs := [(subV p0 (r11 : Int).toNat ((a0l.length : Int) : Int).toNat)]) Try.func17 rfl rfl rfl (ar1 rfl) (ih c16 (subV p0 (r11 : Int).toNat ((a0l.length : Int) : Int).toNat) r19 _ (SlK.cut (L := []) (hp0.lift (Lift.ext e18 _)) hc16) hr19) ?_)
        rintro _ w19 ⟨v19, rfl, x19, n19_0, o19_0⟩
        refine ⟨_, rfl, ?_⟩
        have i19_0 : By w19 [] v19 r19 := OwK.slk (Sc.stab _) _ (OwK.scal o19_0 (v19 :: [])) (fun k hk => (Old.nil _) k (n19_0 k hk)) (fun _ h => h.2)
        replace i17_0 := i17_0.lift (Lift.ext x19 _)
        have e20 := e18.trans x19
        obtain ⟨r21, hr21, H⟩ := Option.bind_eq_some_iff.1 H
        refine wsc rfl (by kernel_rfl) rfl rfl (stp_call (vs := [v17, v19]) Try.func49 rfl rfl rfl (ar2 rfl rfl) (ref32_Both_calls r17 r19 v17 v19 r21 _ (i17_0.lift (Lift.sub (fun _ _ => trivial))) (i19_0.lift (Lift.sub (fun _ _ => trivial))) hr21) ?_)
        rintro _ w21 ⟨v21, rfl, x21, n21_0, o21_0⟩
        refine ⟨_, rfl, ?_⟩
        have o21 : OwK (Sc u8) w21 (v21 :: []) 5 v21 r21 := OwK.scal o21_0 _
        replace i17_0 := i17_0.lift (Lift.call _ x21 n21_0)
        replace i19_0 := i19_0.lift (Lift.call _ x21 n21_0)
        have n23 := Nw.ext e20 n21_0
        have e22 := e20.trans x21
        refine wsa rfl rfl rfl (q_assign (v := v21) rfl rfl) ?_
        refine ws_nil ?_
        refine W_th ?_
        refine W_ret ?_
        obtain rfl := Option.some.inj H
        refine rt1 v21 rfl rfl rfl rfl ?_
        exact ⟨v21, rfl, e22, n23, (o21.weak (Sc.stab _) (fun _ _ => trivial))⟩

theorem ref32_Tree_calls (a0l : List (List UInt8)) (p0 : Value) (r : List UInt8) (w0 : World) (hp0 : Rw w0 [] p0 a0l) (H : ref32_Tree a0l = some r) :
    Calls Try.prog 17 [p0].toArray w0 (fun e w' => ∃ u0 : Value, e = .returned u0 ∧ Ext w0 w' ∧ Nw w0 u0 ∧ OwK (Sc u8) w' [] 5 u0 r) := ref32_Tree_n_calls _ a0l p0 r w0 hp0 H

/-! largesse/largesseref32.Way -/
noncomputable def ref32_Way_n : Nat → (List (List UInt8)) → Int → Option (List (List UInt8))
| 0, _, _ => none
| fu + 1, a0l, a1i =>
(if (a0l.length : Int) < 2 then some ([] : List (List UInt8))
else
((ref32_left (a0l.length : Int)).bind fun r2 =>
(if a1i < r2 then
((subL a0l 0 r2).bind fun c7 =>
((subL a0l r2 ((a0l.length : Int))).bind fun c8 =>
((ref32_Way_n fu c7 a1i).bind fun r9 =>
((ref32_Tree c8).bind fun r12 =>
((appL r9 (([r12] : List (List UInt8)))).bind fun c16 => some c16)))))
else
((subL a0l r2 ((a0l.length : Int))).bind fun c21 =>
((subL a0l 0 r2).bind fun c22 =>
((ref32_Way_n fu c21 (wI (a1i - r2))).bind fun r23 =>
((ref32_Tree c22).bind fun r26 =>
((appL r23 (([r26] : List (List UInt8)))).bind fun c30 => some c30))))))))
noncomputable def ref32_Way (a0l : List (List UInt8)) (a1i : Int) : Option (List (List UInt8)) := ref32_Way_n (a0l.length+1) a0l a1i
set_option maxRecDepth 100000 in
set_option maxHeartbeats 8000000 in
theorem ref32_Way_n_calls (fu : Nat) : ∀ (a0l : List (List UInt8)) (a1i : Int) (p0 : Value) (r : List (List UInt8)) (w0 : World) (L0 : List Value) (hL0 : Old w0 L0) (hp0 : Rw w0 [] p0 a0l) (H : ref32_Way_n fu a0l a1i = some r),
    Calls Try.prog 20 [p0, (i64 a1i)].toArray w0 (fun e w' => ∃ u0 : Value, e = .returned u0 ∧ Ext w0 w' ∧ Nw w0 u0 ∧ OwK By w' (u0 :: L0) 22 u0 r) := by
  induction fu with
  | zero => intro a0l a1i p0 r w0 L0 hL0 hp0 H; cases H
  | succ fu ih =>
    intro a0l a1i p0 r w0 L0 hL0 hp0 H
    have hE : Ext w0 w0 := Ext.refl w0
    rw [ref32_Way_n] at H
    refine calls_W (n := 39) Try.func20 rfl rfl rfl ?_
    refine W_seq ?_
    refine W_reg (by kernel_rfl) ?_
    refine wla rfl rfl (q_assign (v := (.slice none 0 0)) rfl rfl) ?_
    refine wl_nil ?_
    refine W_th ?_
    refine W_seq ?_
    refine W_seq ?_
    refine W_reg (by kernel_rfl) ?_
    refine wla rfl rfl (q_move (v := p0) rfl rfl) ?_
    refine wla rfl rfl (q_len rfl T27.sl rfl (hp0.lift (Lift.ext hE _))) ?_
    refine wla rfl rfl (q_ltI rfl rfl rfl) ?_
    refine wl_nil ?_
    refine W_th ?_
    refine W_cond _ rfl rfl (fun hb1 => ?_) (fun hb1 => ?_)
    · replace H := (if_pos (of_decide_eq_true hb1)).symm.trans H
      refine W_seq ?_
      refine W_reg (by kernel_rfl) ?_
      refine wla rfl rfl (q_assign (v := (.slice none 0 0)) rfl rfl) ?_
      refine wl_nil ?_
      refine W_th ?_
      refine W_ret ?_
      refine th_r ?_
      obtain rfl := Option.some.inj H
      refine rt1 (.slice none 0 0) rfl rfl rfl rfl ?_
      exact ⟨(.slice none 0 0), rfl, hE, Nw.nil _, (OwK.nil _ _ _ _)⟩
    · replace H := (if_neg (of_decide_eq_false hb1)).symm.trans H
      refine W_skip ?_
      refine W_th ?_
      refine W_seq ?_
      refine W_reg (by kernel_rfl) ?_
      refine wla rfl rfl (q_move (v := p0) rfl rfl) ?_
      refine wla rfl rfl (q_len rfl T27.sl rfl (hp0.lift (Lift.ext hE _))) ?_
      obtain ⟨r2, hr2, H⟩ := Option.bind_eq_some_iff.1 H
      refine wls rfl rfl (stp_call (vs := [(i64 ((a0l.length : Int)))]) Try.func48 rfl rfl rfl (ar1 rfl) (ref32_left_calls (a0l.length : Int)  r2 _  hr2) ?_)
      rintro _ w2 ⟨rfl, x2⟩
      refine ⟨_, rfl, ?_⟩
      have e3 := hE.trans x2
      refine wla rfl rfl (q_assign (v := (i64 r2)) rfl rfl) ?_
      refine wl_nil ?_
      refine W_th ?_
      refine W_seq ?_
      refine W_seq ?_
      refine W_reg (by kernel_rfl) ?_
      refine wla rfl rfl (q_move (v := (i64 a1i)) rfl rfl) ?_
      refine wla rfl rfl (q_move (v := (i64 r2)) rfl rfl) ?_
      refine wla rfl rfl (q_ltI rfl rfl rfl) ?_
      refine wl_nil ?_
      refine W_th ?_
      refine W_cond _ rfl rfl (fun hb4 => ?_) (fun hb4 => ?_)
      · replace H := (if_pos (of_decide_eq_true hb4)).symm.trans H
        refine W_seq ?_
        refine W_draw [] [(0, 0), (1, 0), (2, 0), (3, 0), (5, 0), (6, 0), (7, 0), (4, 2), (8, 2), (9, 2), (10, 2), (11, 0)] mixed (by kernel_rfl) (by kernel_rfl) (by kernel_rfl) (by kernel_rfl) ?_
        have x5 := Ext.drew w2
        have e6 := e3.trans x5
        refine wsa rfl rfl rfl (q_move (v := p0) rfl rfl) ?_
        refine wsa rfl rfl rfl (q_move (v := (i64 r2)) rfl rfl) ?_
        obtain ⟨c7, hc7, H⟩ := Option.bind_eq_some_iff.1 H
        refine wsa rfl rfl rfl (q_slice (a := 0) (b := r2) rfl T27 rfl (hp0.lift (Lift.ext e6 _)) rfl rfl hc7) ?_
        refine wsa rfl rfl rfl (q_move (v := (i64 a1i)) rfl rfl) ?_
        refine wsa rfl rfl rfl (q_move (v := p0) rfl rfl) ?_
        refine wsa rfl rfl rfl (q_move (v := (i64 r2)) rfl rfl) ?_
        obtain ⟨c8, hc8, H⟩ := Option.bind_eq_some_iff.1 H
        refine wsa rfl rfl rfl (q_slice (a := r2) (b := (a0l.length : Int)) rfl T27 rfl (hp0.lift (Lift.ext e6 _)) rfl rfl hc8) ?_
        obtain ⟨r9, hr9, H⟩ := Option.bind_eq_some_iff.1 H
        refine wsc rfl (by kernel_rfl) rfl rfl (stp_call (vs := [(subV p0 (0 : Int).toNat (r2 : Int).toNat), (i64 a1i)]) Try.func20 rfl rfl rfl (ar2 rfl rfl) (ih c7 a1i (subV p0 (0 : Int).toNat (r2 : Int).toNat) r9 _ (L0) (hL0.ext e6) (SlK.cut (L := []) (hp0.lift (Lift.ext e6 _)) hc7) hr9) ?_)
        rintro _ w9 ⟨v9, rfl, x9, n9_0, o9_0⟩
        refine ⟨_, rfl, ?_⟩
        have o9 : OwK By w9 (v9 :: (L0)) 22 v9 r9 := o9_0
        have n11 := Nw.ext e6 n9_0
        have e10 := e6.trans x9
        obtain ⟨r12, hr12, H⟩ := Option.bind_eq_some_iff.1 H
        refine wsc rfl (by kernel_rfl) rfl rfl (stp_call (vs := [(subV p0 (r2 : Int).toNat ((a0l.length : Int) : Int).toNat)]) Try.func17 rfl rfl rfl (ar1 rfl) (ref32_Tree_calls c8 (subV p0 (r2 : Int).toNat ((a0l.length : Int) : Int).toNat) r12 _ (SlK.cut (L := []) (hp0.lift (Lift.ext e10 _)) hc8) hr12) ?_)
        rintro _ w12 ⟨v12, rfl, x12, n12_0, o12_0⟩
        refine ⟨_, rfl, ?_⟩
        have i12_0 : By w12 (v9 :: L0) v12 r12 := OwK.slk (Sc.stab _) _ (OwK.scal o12_0 (v12 :: (v9 :: L0))) (fun k hk => (Old.cons (hL0.ext e10) o9.lt) k (n12_0 k hk)) (fun _ h => h.2)
        replace o9 := o9.extL (SlK.stab (Sc.stab _)) x12 (Lift.ext x12 _)
        have e13 := e10.trans x12
        refine wsc rfl (by kernel_rfl) rfl rfl (stp_lit (L := (v9 :: L0)) (R := By) [v12] ([r12] : List (List UInt8)) rfl T27 rfl (by exact ⟨rfl, rfl, trivial⟩) rfl (LitR.cells (R := By) (w := w12) (L := (v9 :: L0)) (l := ([r12] : List (List UInt8))) (LitR.cons i12_0 LitR.nil) (fun u x h => cells_sl u x h)) rfl (LitR.all (R := By) (w := w12) (L := (v9 :: L0)) (l := ([r12] : List (List UInt8))) (SlK.stab (Sc.stab _)) (LitR.cons i12_0 LitR.nil)) ?_)
        intro v14 w14 o14 n14 g14 l14
        have x14 := grown_ext g14
        have i14 : Rw w14 (v9 :: L0) v14 (([r12] : List (List UInt8))) := OwK.slk (SlK.stab (Sc.stab _)) _ o14 (fun k hk => (Old.cons (hL0.ext e13) o9.lt) k (n14 k hk)) (fun _ h => h.2)
        replace i12_0 := i12_0.lift (Lift.ext x14 _)
        replace o9 := o9.extL (SlK.stab (Sc.stab _)) x14 (Lift.ext x14 _)
        have e15 := e13.trans x14
        obtain ⟨c16, hc16, H⟩ := Option.bind_eq_some_iff.1 H
        refine wsc rfl (by kernel_rfl) rfl rfl (stp_append (R := By) (v := v9) (u := v14) (SlK.stab (Sc.stab _)) [] (L0) rfl T27 rfl rfl o9 i14 (fun _ _ h => h) hc16 oc_sl ?_)
        intro v16 w16 o16 g16 nx16 l16
        replace i12_0 := i12_0.lift l16
        replace i14 := i14.lift l16
        have e17 := e15.grown g16 n11
        have n18 := Nw.nxt e15 n11 nx16
        refine wsa rfl rfl rfl (q_assign (v := v16) rfl rfl) ?_
        refine ws_nil ?_
        refine W_th ?_
        refine W_ret ?_
        refine th_r ?_
        obtain rfl := Option.some.inj H
        refine rt1 v16 rfl rfl rfl rfl ?_
        exact ⟨v16, rfl, e17, n18, (o16.weak (SlK.stab (Sc.stab _)) (fun _ h => ⟨h.1, h.2⟩))⟩
      · replace H := (if_neg (of_decide_eq_false hb4)).symm.trans H
        refine W_skip ?_
        refine W_th ?_
        refine W_seq ?_
        refine W_draw [] [(0, 0), (1, 0), (2, 0), (3, 0), (4, 0), (5, 0), (7, 0), (8, 0), (9, 0), (6, 2), (10, 2), (11, 2), (12, 2), (13, 0)] mixed (by kernel_rfl) (by kernel_rfl) (by kernel_rfl) (by kernel_rfl) ?_
        have x19 := Ext.drew w2
        have e20 := e3.trans x19
        refine wsa rfl rfl rfl (q_move (v := p0) rfl rfl) ?_
        refine wsa rfl rfl rfl (q_move (v := (i64 r2)) rfl rfl) ?_
        obtain ⟨c21, hc21, H⟩ := Option.bind_eq_some_iff.1 H
        refine wsa rfl rfl rfl (q_slice (a := r2) (b := (a0l.length : Int)) rfl T27 rfl (hp0.lift (Lift.ext e20 _)) rfl rfl hc21) ?_
        refine wsa rfl rfl rfl (q_move (v := (i64 a1i)) rfl rfl) ?_
        refine wsa rfl rfl rfl (q_move (v := (i64 r2)) rfl rfl) ?_
        refine wsa rfl rfl rfl (q_subI rfl rfl rfl) ?_
        refine wsa rfl rfl rfl (q_move (v := p0) rfl rfl) ?_
        refine wsa rfl rfl rfl (q_move (v := (i64 r2)) rfl rfl) ?_
        obtain ⟨c22, hc22, H⟩ := Option.bind_eq_some_iff.1 H
        refine wsa rfl rfl rfl (q_slice (a := 0) (b := r2) rfl T27 rfl (hp0.lift (Lift.ext e20 _)) rfl rfl hc22) ?_
        obtain ⟨r23, hr23, H⟩ := Option.bind_eq_some_iff.1 H
        refine wsc rfl (by kernel_rfl) rfl rfl (stp_call (vs := [(subV p0 (r2 : Int).toNat ((a0l.length : Int) : Int).toNat), (i64 ((wI (a1i - r2))))]) Try.func20 rfl rfl rfl (ar2 rfl rfl) (ih c21 (wI (a1i - r2)) (subV p0 (r2 : Int).toNat ((a0l.length : Int) : Int).toNat) r23 _ (L0) (hL0.ext e20) (SlK.cut (L := []) (hp0.lift (Lift.ext e20 _)) hc21) hr23) ?_)
        rintro _ w23 ⟨v23, rfl, x23, n23_0, o23_0⟩
        refine ⟨_, rfl, ?_⟩
        have o23 : OwK By w23 (v23 :: (L0)) 22 v23 r23 := o23_0
        have n25 := Nw.ext e20 n23_0
        have e24 := e20.trans x23
        obtain ⟨r26, hr26, H⟩ := Option.bind_eq_some_iff.1 H
        refine wsc rfl (by kernel_rfl) rfl rfl (stp_call (vs := [(subV p0 (0 : Int).toNat (r2 : Int).toNat)]) Try.func17 rfl rfl rfl (ar1 rfl) (ref32_Tree_calls c22 (subV p0 (0 : Int).toNat (r2 : Int).toNat) r26 _ (SlK.cut (L := []) (hp0.lift (Lift.ext e24 _)) hc22) hr26) ?_)
        rintro _ w26 ⟨v26, rfl, x26, n26_0, o26_0⟩
        refine ⟨_, rfl, ?_⟩
        have i26_0 : By w26 (v23 :: L0) v26 r26 := OwK.slk (Sc.stab _) _ (OwK.scal o26_0 (v26 :: (v23 :: L0))) (fun k hk => (Old.cons (hL0.ext e24) o23.lt) k (n26_0 k hk)) (fun _ h => h.2)
        replace o23 := o23.extL (SlK.stab (Sc.stab _)) x26 (Lift.ext x26 _)
        have e27 := e24.trans x26
        refine wsc rfl (by kernel_rfl) rfl rfl (stp_lit (L := (v23 :: L0)) (R := By) [v26] ([r26] : List (List UInt8)) rfl T27 rfl (by exact ⟨rfl, rfl, trivial⟩) rfl (LitR.cells (R := By) (w := w26) (L := (v23 :: L0)) (l := ([r26] : List (List UInt8))) (LitR.cons i26_0 LitR.nil) (fun u x h => cells_sl u x h)) rfl (LitR.all (R := By) (w := w26) (L := (v23 :: L0)) (l := ([r26] : List (List UInt8))) (SlK.stab (Sc.stab _)) (LitR.cons i26_0 LitR.nil)) ?_)
        intro v28 w28 o28 n28 g28 l28
        have x28 := grown_ext g28
        have i28 : Rw w28 (v23 :: L0) v28 (([r26] : List (List UInt8))) := OwK.slk (SlK.stab (Sc.stab _)) _ o28 (fun k hk => (Old.cons (hL0.ext e27) o23.lt) k (n28 k hk)) (fun _ h => h.2)
        replace i26_0 := i26_0.lift (Lift.ext x28 _)
        replace o23 := o23.extL (SlK.stab (Sc.stab _)) x28 (Lift.ext x28 _)
        have e29 := e27.trans x28
        obtain ⟨c30, hc30, H⟩ := Option.bind_eq_some_iff.1 H
        refine wsc rfl (by kernel_rfl) rfl rfl (stp_append (R := By) (v := v23) (u := v28) (SlK.stab (Sc.stab _)) [] (L0) rfl T27 rfl rfl o23 i28 (fun _ _ h => h) hc30 oc_sl ?_)
        intro v30 w30 o30 g30 nx30 l30
        replace i26_0 := i26_0.lift l30
        replace i28 := i28.lift l30
        have e31 := e29.grown g30 n25
        have n32 := Nw.nxt e29 n25 nx30
        refine wsa rfl rfl rfl (q_assign (v := v30) rfl rfl) ?_
        refine ws_nil ?_
        refine W_th ?_
        refine W_ret ?_
        obtain rfl := Option.some.inj H
        refine rt1 v30 rfl rfl rfl rfl ?_
        exact ⟨v30, rfl, e31, n32, (o30.weak (SlK.stab (Sc.stab _)) (fun _ h => ⟨h.1, h.2⟩))⟩

theorem ref32_Way_calls (a0l : List (List UInt8)) (a1i : Int) (p0 : Value) (r : List (List UInt8)) (w0 : World) (L0 : List Value) (hL0 : Old w0 L0) (hp0 : Rw w0 [] p0 a0l) (H : ref32_Way a0l a1i = some r) :
    Calls Try.prog 20 [p0, (i64 a1i)].toArray w0 (fun e w' => ∃ u0 : Value, e = .returned u0 ∧ Ext w0 w' ∧ Nw w0 u0 ∧ OwK By w' (u0 :: L0) 22 u0 r) := ref32_Way_n_calls _ a0l a1i p0 r w0 L0 hL0 hp0 H

/-! largesse/largesseref32.Root -/
noncomputable def ref32_Root_n : Nat → (List UInt8) → Int → Int → (List (List UInt8)) → Option (List UInt8 × Bool)
| 0, _, _, _, _ => none
| fu + 1, a0b, a1i, a2n, a3way =>
(if a2n = 1 then
((ref32_Item a0b).bind fun r2 => some (r2, (decide ((a3way.length : Int) = 0))))
else
(if (a3way.length : Int) = 0 then some (([] : List UInt8), false)
else
((idx a3way ((wI ((a3way.length : Int) - 1)))).bind fun c6 =>
((ref32_left a2n).bind fun r8 =>
(if a1i < r8 then
((subL a3way 0 ((wI ((a3way.length : Int) - 1)))).bind fun c11 =>
((ref32_Root_n fu a0b a1i r8 c11).bind fun r12 =>
((ref32_Both r12.1 c6).bind fun r14 =>
(if r12.2 = true then some (r14, (decide ((c6.length : Int) = 32)))
else some (r14, false)))))
else
((subL a3way 0 ((wI ((a3way.length : Int) - 1)))).bind fun c18 =>
((ref32_Root_n fu a0b (wI (a1i - r8)) (wI (a2n - r8)) c18).bind fun r19 =>
((ref32_Both c6 r19.1).bind fun r21 =>
(if r19.2 = true then some (r21, (decide ((c6.length : Int) = 32)))
else some (r21, false))))))))))
noncomputable def ref32_Root (a0b : List UInt8) (a1i : Int) (a2n : Int) (a3way : List (List UInt8)) : Option (List UInt8 × Bool) := ref32_Root_n (a2n.toNat+1) a0b a1i a2n a3way
set_option maxRecDepth 100000 in
set_option maxHeartbeats 8000000 in
theorem ref32_Root_n_calls (fu : Nat) : ∀ (a0b : List UInt8) (a1i : Int) (a2n : Int) (a3way : List (List UInt8)) (p0 : Value) (p3 : Value) (r : List UInt8 × Bool) (w0 : World) (hp0 : By w0 [] p0 a0b) (hp3 : Rw w0 [] p3 a3way) (H : ref32_Root_n fu a0b a1i a2n a3way = some r),
    Calls Try.prog 26 [p0, (i64 a1i), (i64 a2n), p3].toArray w0 (fun e w' => ∃ u0 : Value, e = .returned (.tuple #[u0, (.bool r.2)]) ∧ Ext w0 w' ∧ Nw w0 u0 ∧ OwK (Sc u8) w' [] 5 u0 r.1) := by
  induction fu with
  | zero => intro a0b a1i a2n a3way p0 p3 r w0 hp0 hp3 H; cases H
  | succ fu ih =>
    intro a0b a1i a2n a3way p0 p3 r w0 hp0 hp3 H
    have hE : Ext w0 w0 := Ext.refl w0
    rw [ref32_Root_n] at H
    refine calls_W (n := 83) Try.func26 rfl rfl rfl ?_
    refine W_seq ?_
    refine W_reg (by kernel_rfl) ?_
    refine wla rfl rfl (q_assign (v := (.slice none 0 0)) rfl rfl) ?_
    refine wla rfl rfl (q_assign (v := (.bool false)) rfl rfl) ?_
    refine wl_nil ?_
    refine W_th ?_
    refine W_seq ?_
    refine W_seq ?_
    refine W_reg (by kernel_rfl) ?_
    refine wla rfl rfl (q_move (v := (i64 a2n)) rfl rfl) ?_
    refine wla rfl rfl (q_eqI rfl rfl rfl) ?_
    refine wl_nil ?_
    refine W_th ?_
    refine W_cond _ rfl rfl (fun hb1 => ?_) (fun hb1 => ?_)
    · replace H := (if_pos (of_decide_eq_true hb1)).symm.trans H
      refine W_seq ?_
      refine W_reg (by kernel_rfl) ?_
      refine wla rfl rfl (q_move (v := p0) rfl rfl) ?_
      obtain ⟨r2, hr2, H⟩ := Option.bind_eq_some_iff.1 H
      refine wls rfl rfl (stp_call (vs := [p0]) Try.func47 rfl rfl rfl (ar1 rfl) (ref32_Item_calls a0b p0 r2 _ (hp0.lift (Lift.ext hE _)) hr2) ?_)
      rintro _ w2 ⟨v2, rfl, x2, n2_0, o2_0⟩
      refine ⟨_, rfl, ?_⟩
      have o2 : OwK (Sc u8) w2 (v2 :: []) 5 v2 r2 := OwK.scal o2_0 _
      have n4 := Nw.ext hE n2_0
      have e3 := hE.trans x2
      refine wla rfl rfl (q_move (v := p3) rfl rfl) ?_
      refine wla rfl rfl (q_len rfl T27.sl rfl (hp3.lift (Lift.ext e3 _))) ?_
      refine wla rfl rfl (q_eqI rfl rfl rfl) ?_
      refine wla rfl rfl (q_assign (v := v2) rfl rfl) ?_
      refine wla rfl rfl (q_assign (v := (.bool ((decide ((a3way.length : Int) = 0))))) rfl rfl) ?_
      refine wl_nil ?_
      refine W_th ?_
      refine W_ret ?_
      refine th_r ?_
      obtain rfl := Option.some.inj H
      refine rt2 v2 (.bool ((decide ((a3way.length : Int) = 0)))) rfl rfl rfl rfl rfl rfl ?_
      exact ⟨v2, rfl, e3, n4, (o2.weak (Sc.stab _) (fun _ _ => trivial))⟩
    · replace H := (if_neg (of_decide_eq_false hb1)).symm.trans H
      refine W_skip ?_
      refine W_th ?_
      refine W_seq ?_
      refine W_seq ?_
      refine W_reg (by kernel_rfl) ?_
      refine wla rfl rfl (q_move (v := p3) rfl rfl) ?_
      refine wla rfl rfl (q_len rfl T27.sl rfl (hp3.lift (Lift.ext hE _))) ?_
      refine wla rfl rfl (q_eqI rfl rfl rfl) ?_
      refine wl_nil ?_
      refine W_th ?_
      refine W_cond _ rfl rfl (fun hb5 => ?_) (fun hb5 => ?_)
      · replace H := (if_pos (of_decide_eq_true hb5)).symm.trans H
        refine W_seq ?_
        refine W_reg (by kernel_rfl) ?_
        refine wla rfl rfl (q_assign (v := (.slice none 0 0)) rfl rfl) ?_
        refine wla rfl rfl (q_assign (v := (.bool false)) rfl rfl) ?_
        refine wl_nil ?_
        refine W_th ?_
        refine W_ret ?_
        refine th_r ?_
        obtain rfl := Option.some.inj H
        refine rt2 (.slice none 0 0) (.bool false) rfl rfl rfl rfl rfl rfl ?_
        exact ⟨(.slice none 0 0), rfl, hE, Nw.nil _, (OwK.nil _ _ _ _)⟩
      · replace H := (if_neg (of_decide_eq_false hb5)).symm.trans H
        refine W_skip ?_
        refine W_th ?_
        refine W_seq ?_
        refine W_reg (by kernel_rfl) ?_
        refine wla rfl rfl (q_move (v := p3) rfl rfl) ?_
        refine wla rfl rfl (q_move (v := p3) rfl rfl) ?_
        refine wla rfl rfl (q_len rfl T27.sl rfl (hp3.lift (Lift.ext hE _))) ?_
        refine wla rfl rfl (q_subI rfl rfl rfl) ?_
        obtain ⟨c6, hc6, H⟩ := Option.bind_eq_some_iff.1 H
        refine wla rfl rfl (q_adr rfl T27 rfl rfl (hp3.lift (Lift.ext hE _)) hc6) ?_
        refine wlq_load rfl rfl rfl T27 rfl hp3 hc6 hE (fun v7 ha7 => ?_)
        refine wla rfl rfl (q_assign (v := v7) rfl rfl) ?_
        refine wl_nil ?_
        refine W_th ?_
        refine W_seq ?_
        refine W_reg (by kernel_rfl) ?_
        refine wla rfl rfl (q_move (v := (i64 a2n)) rfl rfl) ?_
        obtain ⟨r8, hr8, H⟩ := Option.bind_eq_some_iff.1 H
        refine wls rfl rfl (stp_call (vs := [(i64 a2n)]) Try.func48 rfl rfl rfl (ar1 rfl) (ref32_left_calls a2n  r8 _  hr8) ?_)
        rintro _ w8 ⟨rfl, x8⟩
        refine ⟨_, rfl, ?_⟩
        have e9 := hE.trans x8
        refine wla rfl rfl (q_assign (v := (i64 r8)) rfl rfl) ?_
        refine wl_nil ?_
        refine W_th ?_
        refine W_seq ?_
        refine W_seq ?_
        refine W_reg (by kernel_rfl) ?_
        refine wla rfl rfl (q_move (v := (i64 a1i)) rfl rfl) ?_
        refine wla rfl rfl (q_move (v := (i64 r8)) rfl rfl) ?_
        refine wla rfl rfl (q_ltI rfl rfl rfl) ?_
        refine wl_nil ?_
        refine W_th ?_
        refine W_cond _ rfl rfl (fun hb10 => ?_) (fun hb10 => ?_)
        · replace H := (if_pos (of_decide_eq_true hb10)).symm.trans H
          refine W_seq ?_
          refine W_reg (by kernel_rfl) ?_
          refine wla rfl rfl (q_move (v := p0) rfl rfl) ?_
          refine wla rfl rfl (q_move (v := (i64 a1i)) rfl rfl) ?_
          refine wla rfl rfl (q_move (v := (i64 r8)) rfl rfl) ?_
          refine wla rfl rfl (q_move (v := p3) rfl rfl) ?_
          refine wla rfl rfl (q_move (v := p3) rfl rfl) ?_
          refine wla rfl rfl (q_len rfl T27.sl rfl (hp3.lift (Lift.ext e9 _))) ?_
          refine wla rfl rfl (q_subI rfl rfl rfl) ?_
          obtain ⟨c11, hc11, H⟩ := Option.bind_eq_some_iff.1 H
          refine wla rfl rfl (q_slice (a := 0) (b := (wI ((a3way.length : Int) - 1))) rfl T27 rfl (hp3.lift (Lift.ext e9 _)) rfl rfl hc11) ?_
          obtain ⟨r12, hr12, H⟩ := Option.bind_eq_some_iff.1 H
          refine wls rfl rfl (stp_call (vs := [p0, (i64 a1i), (i64 r8), (subV p3 (0 : Int).toNat ((wI ((a3way.length : Int) - 1)) : Int).toNat)]) Try.func26 rfl rfl rfl (ar4 rfl rfl rfl rfl) (ih a0b a1i r8 c11 p0 (subV p3 (0 : Int).toNat ((wI ((a3way.length : Int) - 1)) : Int).toNat) r12 _ (hp0.lift (Lift.ext e9 _)) (SlK.cut (L := []) (hp3.lift (Lift.ext e9 _)) hc11) hr12) ?_)
          rintro _ w12 ⟨v12_0, rfl, x12, n12_0, o12_0⟩
          refine ⟨_, rfl, ?_⟩
          have i12_0 : By w12 [] v12_0 r12.1 := OwK.slk (Sc.stab _) _ (OwK.scal o12_0 (v12_0 :: [])) (fun k hk => (Old.nil _) k (n12_0 k hk)) (fun _ h => h.2)
          have e13 := e9.trans x12
          refine wla rfl rfl (q_move (v := (.tuple #[v12_0, (.bool r12.2)])) rfl rfl) ?_
          refine wla rfl rfl (q_extract rfl rfl rfl) ?_
          refine wla rfl rfl (q_extract rfl rfl rfl) ?_
          refine wla rfl rfl (q_assign (v := v12_0) rfl rfl) ?_
          refine wla rfl rfl (q_assign (v := (.bool r12.2)) rfl rfl) ?_
          refine wl_nil ?_
          refine W_th ?_
          refine W_seq ?_
          refine W_reg (by kernel_rfl) ?_
          refine wla rfl rfl (q_move (v := v12_0) rfl rfl) ?_
          refine wla rfl rfl (q_move (v := v7) rfl rfl) ?_
          obtain ⟨r14, hr14, H⟩ := Option.bind_eq_some_iff.1 H
          refine wls rfl rfl (stp_call (vs := [v12_0, v7]) Try.func49 rfl rfl rfl (ar2 rfl rfl) (ref32_Both_calls r12.1 c6 v12_0 v7 r14 _ (i12_0.lift (Lift.sub (fun _ _ => trivial))) (ha7.lift (Lift.ext e13 _)) hr14) ?_)
          rintro _ w14 ⟨v14, rfl, x14, n14_0, o14_0⟩
          refine ⟨_, rfl, ?_⟩
          have o14 : OwK (Sc u8) w14 (v14 :: []) 5 v14 r14 := OwK.scal o14_0 _
          replace i12_0 := i12_0.lift (Lift.call _ x14 n14_0)
          have n16 := Nw.ext e13 n14_0
          have e15 := e13.trans x14
          refine wla rfl rfl (q_move (v := (.bool r12.2)) rfl rfl) ?_
          refine wlb rfl rfl (q_move (v := (.bool r12.2)) rfl rfl) (fun hb17 => ?_) (fun hb17 => ?_)
          · replace H := (if_pos hb17).symm.trans H
            refine wla rfl rfl (q_move (v := v7) rfl rfl) ?_
            refine wla rfl rfl (q_len rfl T22.sl rfl (ha7.lift (Lift.ext e15 _))) ?_
            refine wla rfl rfl (q_eqI rfl rfl rfl) ?_
            refine wla rfl rfl (q_pick_t (v := (.bool ((decide ((c6.length : Int) = 32))))) rfl rfl rfl) ?_
            refine wla rfl rfl (q_assign (v := v14) rfl rfl) ?_
            refine wla rfl rfl (q_assign (v := (.bool ((decide ((c6.length : Int) = 32))))) rfl rfl) ?_
            refine wl_nil ?_
            refine W_th ?_
            refine W_ret ?_
            refine th_r ?_
            obtain rfl := Option.some.inj H
            refine rt2 v14 (.bool ((decide ((c6.length : Int) = 32)))) rfl rfl rfl rfl rfl rfl ?_
            exact ⟨v14, rfl, e15, n16, (o14.weak (Sc.stab _) (fun _ _ => trivial))⟩
          · replace H := (if_neg (ne_true_of_eq_false hb17)).symm.trans H
            refine wlk rfl rfl ?_
            refine wlk rfl rfl ?_
            refine wlk rfl rfl ?_
            refine wla rfl rfl (q_pick_f (v := (.bool false)) rfl rfl rfl) ?_
            refine wla rfl rfl (q_assign (v := v14) rfl rfl) ?_
            refine wla rfl rfl (q_assign (v := (.bool false)) rfl rfl) ?_
            refine wl_nil ?_
            refine W_th ?_
            refine W_ret ?_
            refine th_r ?_
            obtain rfl := Option.some.inj H
            refine rt2 v14 (.bool false) rfl rfl rfl rfl rfl rfl ?_
            exact ⟨v14, rfl, e15, n16, (o14.weak (Sc.stab _) (fun _ _ => trivial))⟩
        · replace H := (if_neg (of_decide_eq_false hb10)).symm.trans H
          refine W_skip ?_
          refine W_th ?_
          refine W_seq ?_
          refine W_reg (by kernel_rfl) ?_
          refine wla rfl rfl (q_move (v := p0) rfl rfl) ?_
          refine wla rfl rfl (q_move (v := (i64 a1i)) rfl rfl) ?_
          refine wla rfl rfl (q_move (v := (i64 r8)) rfl rfl) ?_
          refine wla rfl rfl (q_subI rfl rfl rfl) ?_
          refine wla rfl rfl (q_move (v := (i64 a2n)) rfl rfl) ?_
          refine wla rfl rfl (q_move (v := (i64 r8)) rfl rfl) ?_
          refine wla rfl rfl (q_subI rfl rfl rfl) ?_
          refine wla rfl rfl (q_move (v := p3) rfl rfl) ?_
          refine wla rfl rfl (q_move (v := p3) rfl rfl) ?_
          refine wla rfl rfl (q_len rfl T27.sl rfl (hp3.lift (Lift.ext e9 _))) ?_
          refine wla rfl rfl (q_subI rfl rfl rfl) ?_
          obtain ⟨c18, hc18, H⟩ := Option.bind_eq_some_iff.1 H
          refine wla rfl rfl (q_slice (a := 0) (b := (wI ((a3way.length : Int) - 1))) rfl T27 rfl (hp3.lift (Lift.ext e9 _)) rfl rfl hc18) ?_
          obtain ⟨r19, hr19, H⟩ := Option.bind_eq_some_iff.1 H
          refine wls rfl rfl (stp_call (vs := [p0, (i64 ((wI (a1i - r8)))), (i64 ((wI (a2n - r8)))), (subV p3 (0 : Int).toNat ((wI ((a3way.length : Int) - 1)) : Int).toNat)]) Try.func26 rfl rfl rfl (ar4 rfl rfl rfl rfl) (ih a0b (wI (a1i - r8)) (wI (a2n - r8)) c18 p0 (subV p3 (0 : Int).toNat ((wI ((a3way.length : Int) - 1)) : Int).toNat) r19 _ (hp0.lift (Lift.ext e9 _)) (SlK.cut (L := []) (hp3.lift (Lift.ext e9 _)) hc18) hr19) ?_)
          rintro _ w19 ⟨v19_0, rfl, x19, n19_0, o19_0⟩
          refine ⟨_, rfl, ?_⟩
          have i19_0 : By w19 [] v19_0 r19.1 := OwK.slk (Sc.stab _) _ (OwK.scal o19_0 (v19_0 :: [])) (fun k hk => (Old.nil _) k (n19_0 k hk)) (fun _ h => h.2)
          have e20 := e9.trans x19
          refine wla rfl rfl (q_move (v := (.tuple #[v19_0, (.bool r19.2)])) rfl rfl) ?_
          refine wla rfl rfl (q_extract rfl rfl rfl) ?_
          refine wla rfl rfl (q_extract rfl rfl rfl) ?_
          refine wla rfl rfl (q_assign (v := v19_0) rfl rfl) ?_
          refine wla rfl rfl (q_assign (v := (.bool r19.2)) rfl rfl) ?_
          refine wl_nil ?_
          refine W_th ?_
          refine W_seq ?_
          refine W_reg (by kernel_rfl) ?_
          refine wla rfl rfl (q_move (v := v7) rfl rfl) ?_
          refine wla rfl rfl (q_move (v := v19_0) rfl rfl) ?_
          obtain ⟨r21, hr21, H⟩ := Option.bind_eq_some_iff.1 H
          refine wls rfl rfl (stp_call (vs := [v7, v19_0]) Try.func49 rfl rfl rfl (ar2 rfl rfl) (ref32_Both_calls c6 r19.1 v7 v19_0 r21 _ (ha7.lift (Lift.ext e20 _)) (i19_0.lift (Lift.sub (fun _ _ => trivial))) hr21) ?_)
          rintro _ w21 ⟨v21, rfl, x21, n21_0, o21_0⟩
          refine ⟨_, rfl, ?_⟩
          have o21 : OwK (Sc u8) w21 (v21 :: []) 5 v21 r21 := OwK.scal o21_0 _
          replace i19_0 := i19_0.lift (Lift.call _ x21 n21_0)
          have n23 := Nw.ext e20 n21_0
          have e22 := e20.trans x21
          refine wla rfl rfl (q_move (v := (.bool r19.2)) rfl rfl) ?_
          refine wlb rfl rfl (q_move (v := (.bool r19.2)) rfl rfl) (fun hb24 => ?_) (fun hb24 => ?_)
          · replace H := (if_pos hb24).symm.trans H
            refine wla rfl rfl (q_move (v := v7) rfl rfl) ?_
            refine wla rfl rfl (q_len rfl T22.sl rfl (ha7.lift (Lift.ext e22 _))) ?_
            refine wla rfl rfl (q_eqI rfl rfl rfl) ?_
            refine wla rfl rfl (q_pick_t (v := (.bool ((decide ((c6.length : Int) = 32))))) rfl rfl rfl) ?_
            refine wla rfl rfl (q_assign (v := v21) rfl rfl) ?_
            refine wla rfl rfl (q_assign (v := (.bool ((decide ((c6.length : Int) = 32))))) rfl rfl) ?_
            refine wl_nil ?_
            refine W_th ?_
            refine W_ret ?_
            obtain rfl := Option.some.inj H
            refine rt2 v21 (.bool ((decide ((c6.length : Int) = 32)))) rfl rfl rfl rfl rfl rfl ?_
            exact ⟨v21, rfl, e22, n23, (o21.weak (Sc.stab _) (fun _ _ => trivial))⟩
          · replace H := (if_neg (ne_true_of_eq_false hb24)).symm.trans H
            refine wlk rfl rfl ?_
            refine wlk rfl rfl ?_
            refine wlk rfl rfl ?_
            refine wla rfl rfl (q_pick_f (v := (.bool false)) rfl rfl rfl) ?_
            refine wla rfl rfl (q_assign (v := v21) rfl rfl) ?_
            refine wla rfl rfl (q_assign (v := (.bool false)) rfl rfl) ?_
            refine wl_nil ?_
            refine W_th ?_
            refine W_ret ?_
            obtain rfl := Option.some.inj H
            refine rt2 v21 (.bool false) rfl rfl rfl rfl rfl rfl ?_
            exact ⟨v21, rfl, e22, n23, (o21.weak (Sc.stab _) (fun _ _ => trivial))⟩

theorem ref32_Root_calls (a0b : List UInt8) (a1i : Int) (a2n : Int) (a3way : List (List UInt8)) (p0 : Value) (p3 : Value) (r : List UInt8 × Bool) (w0 : World) (hp0 : By w0 [] p0 a0b) (hp3 : Rw w0 [] p3 a3way) (H : ref32_Root a0b a1i a2n a3way = some r) :
    Calls Try.prog 26 [p0, (i64 a1i), (i64 a2n), p3].toArray w0 (fun e w' => ∃ u0 : Value, e = .returned (.tuple #[u0, (.bool r.2)]) ∧ Ext w0 w' ∧ Nw w0 u0 ∧ OwK (Sc u8) w' [] 5 u0 r.1) := ref32_Root_n_calls _ a0b a1i a2n a3way p0 p3 r w0 hp0 hp3 H

end Gk

/- Printed by gen.py: for each Go function a pure function, and that the Go code comes to it. No condition beside the equation that says what the pure function gives. -/


set_option linter.unusedVariables false
set_option linter.unusedSimpArgs false
namespace Gk
open Go Go.Proofs

/-! largesse/largesselaw32.lives -/
noncomputable def law32_lives  : Option Bool :=
((tally_Tree ([([] : List UInt8)] : List (List UInt8))).bind fun r5 =>
(if (r5.length : Int) = 32 then
((idx r5 0).bind fun c8 =>
(if c8 = (110 : UInt8) then
((idx r5 1).bind fun c10 =>
(if c10 = (52 : UInt8) then
((idx r5 2).bind fun c12 =>
(if c12 = (11 : UInt8) then
((idx r5 3).bind fun c14 => some (decide (c14 = (156 : UInt8))))
else some false))
else some false))
else some false))
else some false))
set_option maxRecDepth 100000 in
set_option maxHeartbeats 8000000 in
theorem law32_lives_calls  (r : Bool) (w0 : World) (H : law32_lives = some r) :
    Calls Try.prog 14 [].toArray w0 (fun e w' => e = .returned (.bool r) ∧ Ext w0 w') := by
  have hE : Ext w0 w0 := Ext.refl w0
  unfold law32_lives at H
  refine calls_W (n := 32) Try.func14 rfl rfl rfl ?_
  refine W_seq ?_
  refine W_reg (by kernel_rfl) ?_
  refine wla rfl rfl (q_assign (v := (.bool false)) rfl rfl) ?_
  refine wl_nil ?_
  refine W_th ?_
  refine W_seq ?_
  refine W_reg (by kernel_rfl) ?_
  refine wls rfl rfl (stp_lit (L := []) (R := (Sc u8)) [] ([] : List UInt8) rfl T22 rfl (by exact trivial) rfl (litC u8 (oneC_u8) (us := []) (l := ([] : List UInt8)) rfl) rfl (litS u8 (us := []) (l := ([] : List UInt8)) rfl) ?_)
  intro v1 w1 o1 n1 g1 l1
  have x1 := grown_ext g1
  have i1 : By w1 [] v1 (([] : List UInt8)) := OwK.slk (Sc.stab _) _ o1 (fun k hk => (Old.nil _) k (n1 k hk)) (fun _ h => h.2)
  have e2 := hE.trans x1
  refine wls rfl rfl (stp_lit (L := []) (R := By) [v1] ([([] : List UInt8)] : List (List UInt8)) rfl T27 rfl (by exact ⟨rfl, rfl, trivial⟩) rfl (LitR.cells (R := By) (w := w1) (L := []) (l := ([([] : List UInt8)] : List (List UInt8))) (LitR.cons i1 LitR.nil) (fun u x h => cells_sl u x h)) rfl (LitR.all (R := By) (w := w1) (L := []) (l := ([([] : List UInt8)] : List (List UInt8))) (SlK.stab (Sc.stab _)) (LitR.cons i1 LitR.nil)) ?_)
  intro v3 w3 o3 n3 g3 l3
  have x3 := grown_ext g3
  have i3 : Rw w3 [] v3 (([([] : List UInt8)] : List (List UInt8))) := OwK.slk (SlK.stab (Sc.stab _)) _ o3 (fun k hk => (Old.nil _) k (n3 k hk)) (fun _ h => h.2)
  replace i1 := i1.lift (Lift.ext x3 _)
  have e4 := e2.trans x3
  obtain ⟨r5, hr5, H⟩ := Option.bind_eq_some_iff.1 H
  refine wls rfl rfl (stp_call (vs := [v3]) Try.func16 rfl rfl rfl (ar1 rfl) (tally_Tree_calls ([([] : List UInt8)] : List (List UInt8)) v3 r5 _ (i3.lift (Lift.sub (fun _ _ => trivial))) hr5) ?_)
  rintro _ w5 ⟨v5, rfl, x5, n5_0, o5_0⟩
  refine ⟨_, rfl, ?_⟩
  have i5_0 : By w5 [] v5 r5 := OwK.slk (Sc.stab _) _ (OwK.scal o5_0 (v5 :: [])) (fun k hk => (Old.nil _) k (n5_0 k hk)) (fun _ h => h.2)
  replace i1 := i1.lift (Lift.ext x5 _)
  replace i3 := i3.lift (Lift.ext x5 _)
  have e6 := e4.trans x5
  refine wla rfl rfl (q_assign (v := v5) rfl rfl) ?_
  refine wl_nil ?_
  refine W_th ?_
  refine W_seq ?_
  refine W_reg (by kernel_rfl) ?_
  refine wla rfl rfl (q_move (v := v5) rfl rfl) ?_
  refine wla rfl rfl (q_len rfl T22.sl rfl i5_0) ?_
  refine wla rfl rfl (q_eqI rfl rfl rfl) ?_
  refine wlb rfl rfl (q_move (v := (.bool ((decide ((r5.length : Int) = 32))))) rfl rfl) (fun hb7 => ?_) (fun hb7 => ?_)
  · replace H := (if_pos (of_decide_eq_true hb7)).symm.trans H
    refine wla rfl rfl (q_move (v := v5) rfl rfl) ?_
    obtain ⟨c8, hc8, H⟩ := Option.bind_eq_some_iff.1 H
    refine wla rfl rfl (q_adr rfl T22 rfl rfl i5_0 hc8) ?_
    refine wlq rfl rfl (q_loadS rfl T22 rfl i5_0 hc8) ?_
    refine wla rfl rfl (q_eq8 rfl rfl (cst8 (110 : UInt8) rfl)) ?_
    refine wla rfl rfl (q_pick_t (v := (.bool ((decide (c8 = (110 : UInt8)))))) rfl rfl rfl) ?_
    refine wlb rfl rfl (q_move (v := (.bool ((decide (c8 = (110 : UInt8)))))) rfl rfl) (fun hb9 => ?_) (fun hb9 => ?_)
    · replace H := (if_pos (of_decide_eq_true hb9)).symm.trans H
      refine wla rfl rfl (q_move (v := v5) rfl rfl) ?_
      obtain ⟨c10, hc10, H⟩ := Option.bind_eq_some_iff.1 H
      refine wla rfl rfl (q_adr rfl T22 rfl rfl i5_0 hc10) ?_
      refine wlq rfl rfl (q_loadS rfl T22 rfl i5_0 hc10) ?_
      refine wla rfl rfl (q_eq8 rfl rfl (cst8 (52 : UInt8) rfl)) ?_
      refine wla rfl rfl (q_pick_t (v := (.bool ((decide (c10 = (52 : UInt8)))))) rfl rfl rfl) ?_
      refine wlb rfl rfl (q_move (v := (.bool ((decide (c10 = (52 : UInt8)))))) rfl rfl) (fun hb11 => ?_) (fun hb11 => ?_)
      · replace H := (if_pos (of_decide_eq_true hb11)).symm.trans H
        refine wla rfl rfl (q_move (v := v5) rfl rfl) ?_
        obtain ⟨c12, hc12, H⟩ := Option.bind_eq_some_iff.1 H
        refine wla rfl rfl (q_adr rfl T22 rfl rfl i5_0 hc12) ?_
        refine wlq rfl rfl (q_loadS rfl T22 rfl i5_0 hc12) ?_
        refine wla rfl rfl (q_eq8 rfl rfl (cst8 (11 : UInt8) rfl)) ?_
        refine wla rfl rfl (q_pick_t (v := (.bool ((decide (c12 = (11 : UInt8)))))) rfl rfl rfl) ?_
        refine wlb rfl rfl (q_move (v := (.bool ((decide (c12 = (11 : UInt8)))))) rfl rfl) (fun hb13 => ?_) (fun hb13 => ?_)
        · replace H := (if_pos (of_decide_eq_true hb13)).symm.trans H
          refine wla rfl rfl (q_move (v := v5) rfl rfl) ?_
          obtain ⟨c14, hc14, H⟩ := Option.bind_eq_some_iff.1 H
          refine wla rfl rfl (q_adr rfl T22 rfl rfl i5_0 hc14) ?_
          refine wlq rfl rfl (q_loadS rfl T22 rfl i5_0 hc14) ?_
          refine wla rfl rfl (q_eq8 rfl rfl (cst8 (156 : UInt8) rfl)) ?_
          refine wla rfl rfl (q_pick_t (v := (.bool ((decide (c14 = (156 : UInt8)))))) rfl rfl rfl) ?_
          refine wla rfl rfl (q_assign (v := (.bool ((decide (c14 = (156 : UInt8)))))) rfl rfl) ?_
          refine wl_nil ?_
          refine W_th ?_
          refine W_ret ?_
          obtain rfl := Option.some.inj H
          refine rt1 (.bool ((decide (c14 = (156 : UInt8))))) rfl rfl rfl rfl ?_
          exact ⟨rfl, e6⟩
        · replace H := (if_neg (of_decide_eq_false hb13)).symm.trans H
          refine wlk rfl rfl ?_
          refine wlk rfl rfl ?_
          refine wlk rfl rfl ?_
          refine wlk rfl rfl ?_
          refine wla rfl rfl (q_pick_f (v := (.bool false)) rfl rfl rfl) ?_
          refine wla rfl rfl (q_assign (v := (.bool false)) rfl rfl) ?_
          refine wl_nil ?_
          refine W_th ?_
          refine W_ret ?_
          obtain rfl := Option.some.inj H
          refine rt1 (.bool false) rfl rfl rfl rfl ?_
          exact ⟨rfl, e6⟩
      · replace H := (if_neg (of_decide_eq_false hb11)).symm.trans H
        refine wlk rfl rfl ?_
        refine wlk rfl rfl ?_
        refine wlk rfl rfl ?_
        refine wlk rfl rfl ?_
        refine wla rfl rfl (q_pick_f (v := (.bool false)) rfl rfl rfl) ?_
        refine wla rfl rfl (q_move (v := (.bool false)) rfl rfl) ?_
        refine wlk rfl rfl ?_
        refine wlk rfl rfl ?_
        refine wlk rfl rfl ?_
        refine wlk rfl rfl ?_
        refine wla rfl rfl (q_pick_f (v := (.bool false)) rfl rfl rfl) ?_
        refine wla rfl rfl (q_assign (v := (.bool false)) rfl rfl) ?_
        refine wl_nil ?_
        refine W_th ?_
        refine W_ret ?_
        obtain rfl := Option.some.inj H
        refine rt1 (.bool false) rfl rfl rfl rfl ?_
        exact ⟨rfl, e6⟩
    · replace H := (if_neg (of_decide_eq_false hb9)).symm.trans H
      refine wlk rfl rfl ?_
      refine wlk rfl rfl ?_
      refine wlk rfl rfl ?_
      refine wlk rfl rfl ?_
      refine wla rfl rfl (q_pick_f (v := (.bool false)) rfl rfl rfl) ?_
      refine wla rfl rfl (q_move (v := (.bool false)) rfl rfl) ?_
      refine wlk rfl rfl ?_
      refine wlk rfl rfl ?_
      refine wlk rfl rfl ?_
      refine wlk rfl rfl ?_
      refine wla rfl rfl (q_pick_f (v := (.bool false)) rfl rfl rfl) ?_
      refine wla rfl rfl (q_move (v := (.bool false)) rfl rfl) ?_
      refine wlk rfl rfl ?_
      refine wlk rfl rfl ?_
      refine wlk rfl rfl ?_
      refine wlk rfl rfl ?_
      refine wla rfl rfl (q_pick_f (v := (.bool false)) rfl rfl rfl) ?_
      refine wla rfl rfl (q_assign (v := (.bool false)) rfl rfl) ?_
      refine wl_nil ?_
      refine W_th ?_
      refine W_ret ?_
      obtain rfl := Option.some.inj H
      refine rt1 (.bool false) rfl rfl rfl rfl ?_
      exact ⟨rfl, e6⟩
  · replace H := (if_neg (of_decide_eq_false hb7)).symm.trans H
    refine wlk rfl rfl ?_
    refine wlk rfl rfl ?_
    refine wlk rfl rfl ?_
    refine wlk rfl rfl ?_
    refine wla rfl rfl (q_pick_f (v := (.bool false)) rfl rfl rfl) ?_
    refine wla rfl rfl (q_move (v := (.bool false)) rfl rfl) ?_
    refine wlk rfl rfl ?_
    refine wlk rfl rfl ?_
    refine wlk rfl rfl ?_
    refine wlk rfl rfl ?_
    refine wla rfl rfl (q_pick_f (v := (.bool false)) rfl rfl rfl) ?_
    refine wla rfl rfl (q_move (v := (.bool false)) rfl rfl) ?_
    refine wlk rfl rfl ?_
    refine wlk rfl rfl ?_
    refine wlk rfl rfl ?_
    refine wlk rfl rfl ?_
    refine wla rfl rfl (q_pick_f (v := (.bool false)) rfl rfl rfl) ?_
    refine wla rfl rfl (q_move (v := (.bool false)) rfl rfl) ?_
    refine wlk rfl rfl ?_
    refine wlk rfl rfl ?_
    refine wlk rfl rfl ?_
    refine wlk rfl rfl ?_
    refine wla rfl rfl (q_pick_f (v := (.bool false)) rfl rfl rfl) ?_
    refine wla rfl rfl (q_assign (v := (.bool false)) rfl rfl) ?_
    refine wl_nil ?_
    refine W_th ?_
    refine W_ret ?_
    obtain rfl := Option.some.inj H
    refine rt1 (.bool false) rfl rfl rfl rfl ?_
    exact ⟨rfl, e6⟩

/-! largesse/largesselaw32.few -/
noncomputable def law32_few (a0l : List (List UInt8)) : Option Bool :=
(if 20 < (a0l.length : Int) then some false
else
((iterC (fun s2 : Int =>
(if s2 < (a0l.length : Int) then
((idx a0l s2).bind fun c5 =>
(if 100 < (c5.length : Int) then some (.inr (.inr false))
else some (.inl (wI (s2 + 1)))))
else some (.inr (.inl ())))) 0).bind (Sum.elim (fun y2 => some true) (fun q2 => some q2))))
set_option maxRecDepth 100000 in
set_option maxHeartbeats 8000000 in
theorem law32_few_calls (a0l : List (List UInt8)) (p0 : Value) (r : Bool) (w0 : World) (hp0 : Rw w0 [] p0 a0l) (H : law32_few a0l = some r) :
    Calls Try.prog 15 [p0].toArray w0 (fun e w' => e = .returned (.bool r) ∧ Ext w0 w') := by
  have hE : Ext w0 w0 := Ext.refl w0
  unfold law32_few at H
  refine calls_W (n := 18) Try.func15 rfl rfl rfl ?_
  refine W_seq ?_
  refine W_reg (by kernel_rfl) ?_
  refine wla rfl rfl (q_assign (v := (.bool false)) rfl rfl) ?_
  refine wl_nil ?_
  refine W_th ?_
  refine W_seq ?_
  refine W_seq ?_
  refine W_reg (by kernel_rfl) ?_
  refine wla rfl rfl (q_move (v := p0) rfl rfl) ?_
  refine wla rfl rfl (q_len rfl T27.sl rfl (hp0.lift (Lift.ext hE _))) ?_
  refine wla rfl rfl (q_gtI rfl rfl rfl) ?_
  refine wl_nil ?_
  refine W_th ?_
  refine W_cond _ rfl rfl (fun hb1 => ?_) (fun hb1 => ?_)
  · replace H := (if_pos (of_decide_eq_true hb1)).symm.trans H
    refine W_seq ?_
    refine W_reg (by kernel_rfl) ?_
    refine wla rfl rfl (q_assign (v := (.bool false)) rfl rfl) ?_
    refine wl_nil ?_
    refine W_th ?_
    refine W_ret ?_
    refine th_r ?_
    obtain rfl := Option.some.inj H
    refine rt1 (.bool false) rfl rfl rfl rfl ?_
    exact ⟨rfl, hE⟩
  · replace H := (if_neg (of_decide_eq_false hb1)).symm.trans H
    refine W_skip ?_
    refine W_th ?_
    refine W_seq ?_
    refine W_seq ?_
    refine W_reg (by kernel_rfl) ?_
    refine wla rfl rfl (q_move (v := p0) rfl rfl) ?_
    refine wla rfl rfl (q_len rfl T27.sl rfl (hp0.lift (Lift.ext hE _))) ?_
    refine wla rfl rfl (q_move (v := (i64 0)) rfl rfl) ?_
    refine wl_nil ?_
    refine W_th ?_
    obtain ⟨x2, G2, H⟩ := Option.bind_eq_some_iff.1 H
    refine W_mid (fun f w => ∃ y2, x2 = .inl y2 ∧ f 18 = undef ∧ Ext w0 w) ?_ ?_
    · refine W_block ?_
      refine W_loop (fun s2 f w => f 8 = p0 ∧ f 9 = (i64 ((a0l.length : Int))) ∧ f 10 = (i64 s2) ∧ f 18 = undef ∧ Ext w0 w) G2 ?_ ?_
      · exact ⟨rfl, rfl, rfl, rfl, hE⟩
      · rintro s2 _ _ w3 ⟨s8_3, s9_3, s10_3, s18_3, hE3⟩ H2 hr2
        refine W_seq ?_
        refine W_reg (by kernel_rfl) ?_
        refine wla rfl rfl (q_ltI rfl s10_3 s9_3) ?_
        refine wl_nil ?_
        refine W_th ?_
        refine W_seq ?_
        refine W_cond _ rfl rfl (fun hb4 => ?_) (fun hb4 => ?_)
        · replace H2 := (if_pos (of_decide_eq_true hb4)).symm.trans H2
          refine W_skip ?_
          refine W_th ?_
          refine W_seq ?_
          refine W_block ?_
          refine W_seq ?_
          refine W_reg (by kernel_rfl) ?_
          obtain ⟨c5, hc5, H2⟩ := Option.bind_eq_some_iff.1 H2
          refine wla rfl rfl (q_adr rfl T27 s8_3 s10_3 (hp0.lift (Lift.ext hE3 _)) hc5) ?_
          refine wlq_load rfl rfl rfl T27 rfl hp0 hc5 hE3 (fun v6 ha6 => ?_)
          refine wla rfl rfl (q_assign (v := v6) rfl rfl) ?_
          refine wl_nil ?_
          refine W_th ?_
          refine W_seq ?_
          refine W_reg (by kernel_rfl) ?_
          refine wla rfl rfl (q_move (v := v6) rfl rfl) ?_
          refine wla rfl rfl (q_len rfl T22.sl rfl (ha6.lift (Lift.ext hE3 _))) ?_
          refine wla rfl rfl (q_gtI rfl rfl rfl) ?_
          refine wl_nil ?_
          refine W_th ?_
          refine W_cond _ rfl rfl (fun hb7 => ?_) (fun hb7 => ?_)
          · replace H2 := (if_pos (of_decide_eq_true hb7)).symm.trans H2
            refine W_seq ?_
            refine W_reg (by kernel_rfl) ?_
            refine wla rfl rfl (q_assign (v := (.bool false)) rfl rfl) ?_
            refine wl_nil ?_
            refine W_th ?_
            refine W_ret ?_
            refine bk_r ?_
            refine th_r ?_
            obtain rfl := Option.some.inj H2
            obtain rfl := hr2 _ rfl
            simp only [Sum.elim_inr] at H
            refine th_r ?_
            refine bk_r ?_
            refine th_r ?_
            refine th_r ?_
            obtain rfl := Option.some.inj H
            refine rt1 (.bool false) rfl rfl rfl s18_3 ?_
            exact ⟨rfl, hE3⟩
          · replace H2 := (if_neg (of_decide_eq_false hb7)).symm.trans H2
            refine W_skip ?_
            refine bk_n ?_
            refine W_th ?_
            refine W_reg (by kernel_rfl) ?_
            refine wla rfl rfl (q_addI rfl s10_3 rfl) ?_
            refine wla rfl rfl (q_move (v := (i64 ((wI (s2 + 1))))) rfl rfl) ?_
            refine wl_nil ?_
            obtain rfl := Option.some.inj H2
            exact ⟨_, rfl, s8_3, s9_3, rfl, s18_3, hE3⟩
        · replace H2 := (if_neg (of_decide_eq_false hb4)).symm.trans H2
          refine W_exit ?_
          refine th_x ?_
          obtain rfl := Option.some.inj H2
          obtain rfl := hr2 _ rfl
          refine th_x ?_
          refine bk_x ?_
          exact ⟨_, rfl, s18_3, hE3⟩
    · rintro _ w9 ⟨y2, rfl, s18_9, hE9⟩
      simp only [Sum.elim_inl] at H
      refine W_th ?_
      refine W_seq ?_
      refine W_reg (by kernel_rfl) ?_
      refine wla rfl rfl (q_assign (v := (.bool true)) rfl rfl) ?_
      refine wl_nil ?_
      refine W_th ?_
      refine W_ret ?_
      obtain rfl := Option.some.inj H
      refine rt1 (.bool true) rfl rfl rfl s18_9 ?_
      exact ⟨rfl, hE9⟩

/-! largesse/largesselaw32.same -/
noncomputable def law32_same (a0a : List (List UInt8)) (a1b : List (List UInt8)) : Option Bool :=
(if (a0a.length : Int) = (a1b.length : Int) then
((iterC (fun s2 : Int =>
(if s2 < (a0a.length : Int) then
((idx a0a s2).bind fun c7 =>
((idx a1b s2).bind fun c9 =>
(if c7 = c9 then some (.inl (wI (s2 + 1)))
else some (.inr (.inr false)))))
else some (.inr (.inl ())))) 0).bind (Sum.elim (fun y2 => some true) (fun q2 => some q2)))
else some false)
set_option maxRecDepth 100000 in
set_option maxHeartbeats 8000000 in
theorem law32_same_calls (a0a : List (List UInt8)) (a1b : List (List UInt8)) (p0 : Value) (p1 : Value) (r : Bool) (w0 : World) (hp0 : Rw w0 [] p0 a0a) (hp1 : Rw w0 [] p1 a1b) (H : law32_same a0a a1b = some r) :
    Calls Try.prog 19 [p0, p1].toArray w0 (fun e w' => e = .returned (.bool r) ∧ Ext w0 w') := by
  have hE : Ext w0 w0 := Ext.refl w0
  unfold law32_same at H
  refine calls_W (n := 28) Try.func19 rfl rfl rfl ?_
  refine W_seq ?_
  refine W_reg (by kernel_rfl) ?_
  refine wla rfl rfl (q_assign (v := (.bool false)) rfl rfl) ?_
  refine wl_nil ?_
  refine W_th ?_
  refine W_seq ?_
  refine W_seq ?_
  refine W_reg (by kernel_rfl) ?_
  refine wla rfl rfl (q_move (v := p0) rfl rfl) ?_
  refine wla rfl rfl (q_len rfl T27.sl rfl (hp0.lift (Lift.ext hE _))) ?_
  refine wla rfl rfl (q_move (v := p1) rfl rfl) ?_
  refine wla rfl rfl (q_len rfl T27.sl rfl (hp1.lift (Lift.ext hE _))) ?_
  refine wla rfl rfl (q_neI rfl rfl rfl) ?_
  refine wl_nil ?_
  refine W_th ?_
  refine W_cond _ rfl rfl (fun hb1 => ?_) (fun hb1 => ?_)
  · replace H := (if_neg (ndec_t hb1)).symm.trans H
    refine W_seq ?_
    refine W_reg (by kernel_rfl) ?_
    refine wla rfl rfl (q_assign (v := (.bool false)) rfl rfl) ?_
    refine wl_nil ?_
    refine W_th ?_
    refine W_ret ?_
    refine th_r ?_
    obtain rfl := Option.some.inj H
    refine rt1 (.bool false) rfl rfl rfl rfl ?_
    exact ⟨rfl, hE⟩
  · replace H := (if_pos (ndec_f hb1)).symm.trans H
    refine W_skip ?_
    refine W_th ?_
    refine W_seq ?_
    refine W_seq ?_
    refine W_reg (by kernel_rfl) ?_
    refine wla rfl rfl (q_move (v := p0) rfl rfl) ?_
    refine wla rfl rfl (q_len rfl T27.sl rfl (hp0.lift (Lift.ext hE _))) ?_
    refine wla rfl rfl (q_move (v := (i64 0)) rfl rfl) ?_
    refine wl_nil ?_
    refine W_th ?_
    obtain ⟨x2, G2, H⟩ := Option.bind_eq_some_iff.1 H
    refine W_mid (fun f w => ∃ y2, x2 = .inl y2 ∧ f 28 = undef ∧ Ext w0 w) ?_ ?_
    · refine W_block ?_
      refine W_loop (fun s2 f w => f 0 = p0 ∧ f 1 = p1 ∧ f 12 = (i64 ((a0a.length : Int))) ∧ f 13 = (i64 s2) ∧ f 28 = undef ∧ Ext w0 w) G2 ?_ ?_
      · exact ⟨rfl, rfl, rfl, rfl, rfl, hE⟩
      · rintro s2 _ _ w3 ⟨s0_3, s1_3, s12_3, s13_3, s28_3, hE3⟩ H2 hr2
        refine W_seq ?_
        refine W_reg (by kernel_rfl) ?_
        refine wla rfl rfl (q_ltI rfl s13_3 s12_3) ?_
        refine wl_nil ?_
        refine W_th ?_
        refine W_seq ?_
        refine W_cond _ rfl rfl (fun hb4 => ?_) (fun hb4 => ?_)
        · replace H2 := (if_pos (of_decide_eq_true hb4)).symm.trans H2
          refine W_skip ?_
          refine W_th ?_
          refine W_seq ?_
          refine W_block ?_
          refine W_seq ?_
          refine W_reg (by kernel_rfl) ?_
          refine wla rfl rfl (q_move (v := (i64 s2)) rfl s13_3) ?_
          refine wla rfl rfl (q_assign (v := (i64 s2)) rfl rfl) ?_
          refine wl_nil ?_
          refine W_th ?_
          refine W_seq ?_
          refine W_draw [3, 4, 8, 9] [(0, 0), (1, 0), (2, 0), (3, 1), (4, 1), (5, 0), (6, 0), (7, 0), (8, 1), (9, 1), (10, 0)] mixed (by kernel_rfl) (by kernel_rfl) (by kernel_rfl) (by kernel_rfl) ?_
          have x5 := Ext.drew w3
          have e6 := hE3.trans x5
          refine wsa rfl rfl rfl (q_move (v := p0) rfl s0_3) ?_
          refine wsa rfl rfl rfl (q_move (v := (i64 s2)) rfl rfl) ?_
          obtain ⟨c7, hc7, H2⟩ := Option.bind_eq_some_iff.1 H2
          refine wsa rfl rfl rfl (q_adr rfl T27 rfl rfl (hp0.lift (Lift.ext e6 _)) hc7) ?_
          refine wsq_load rfl rfl rfl rfl T27 rfl hp0 hc7 e6 (fun v8 ha8 => ?_)
          refine wsq rfl rfl rfl (q_str rfl T22 rfl rfl rfl (ha8.lift (Lift.ext e6 _))) ?_
          refine wsa rfl rfl rfl (q_move (v := p1) rfl s1_3) ?_
          refine wsa rfl rfl rfl (q_move (v := (i64 s2)) rfl rfl) ?_
          obtain ⟨c9, hc9, H2⟩ := Option.bind_eq_some_iff.1 H2
          refine wsa rfl rfl rfl (q_adr rfl T27 rfl rfl (hp1.lift (Lift.ext e6 _)) hc9) ?_
          refine wsq_load rfl rfl rfl rfl T27 rfl hp1 hc9 e6 (fun v10 ha10 => ?_)
          refine wsq rfl rfl rfl (q_str rfl T22 rfl rfl rfl (ha10.lift (Lift.ext e6 _))) ?_
          refine wsa rfl rfl rfl (q_neS rfl rfl rfl) ?_
          refine ws_nil ?_
          refine W_th ?_
          refine W_cond _ rfl rfl (fun hb11 => ?_) (fun hb11 => ?_)
          · replace H2 := (if_neg (ndec_t hb11)).symm.trans H2
            refine W_seq ?_
            refine W_reg (by kernel_rfl) ?_
            refine wla rfl rfl (q_assign (v := (.bool false)) rfl rfl) ?_
            refine wl_nil ?_
            refine W_th ?_
            refine W_ret ?_
            refine bk_r ?_
            refine th_r ?_
            obtain rfl := Option.some.inj H2
            obtain rfl := hr2 _ rfl
            simp only [Sum.elim_inr] at H
            refine th_r ?_
            refine bk_r ?_
            refine th_r ?_
            refine th_r ?_
            obtain rfl := Option.some.inj H
            refine rt1 (.bool false) rfl rfl rfl s28_3 ?_
            exact ⟨rfl, e6⟩
          · replace H2 := (if_pos (ndec_f hb11)).symm.trans H2
            refine W_skip ?_
            refine bk_n ?_
            refine W_th ?_
            refine W_reg (by kernel_rfl) ?_
            refine wla rfl rfl (q_addI rfl s13_3 rfl) ?_
            refine wla rfl rfl (q_move (v := (i64 ((wI (s2 + 1))))) rfl rfl) ?_
            refine wl_nil ?_
            obtain rfl := Option.some.inj H2
            exact ⟨_, rfl, s0_3, s1_3, s12_3, rfl, s28_3, e6⟩
        · replace H2 := (if_neg (of_decide_eq_false hb4)).symm.trans H2
          refine W_exit ?_
          refine th_x ?_
          obtain rfl := Option.some.inj H2
          obtain rfl := hr2 _ rfl
          refine th_x ?_
          refine bk_x ?_
          exact ⟨_, rfl, s28_3, hE3⟩
    · rintro _ w13 ⟨y2, rfl, s28_13, hE13⟩
      simp only [Sum.elim_inl] at H
      refine W_th ?_
      refine W_seq ?_
      refine W_reg (by kernel_rfl) ?_
      refine wla rfl rfl (q_assign (v := (.bool true)) rfl rfl) ?_
      refine wl_nil ?_
      refine W_th ?_
      refine W_ret ?_
      obtain rfl := Option.some.inj H
      refine rt1 (.bool true) rfl rfl rfl s28_13 ?_
      exact ⟨rfl, hE13⟩

/-! largesse/largesselaw32.TallyTrees -/
noncomputable def law32_TallyTrees (a0l : List (List UInt8)) (a1i : Int) : Option Bool :=
((law32_lives ).bind fun r1 =>
(if (!r1) = true then
((law32_lives ).bind fun r4 => some r4)
else
((law32_few a0l).bind fun r6 =>
(if (!r6) = true then
((law32_lives ).bind fun r9 => some r9)
else
((tally_Tree a0l).bind fun r13 =>
((ref32_Tree a0l).bind fun r15 =>
(if r13 = r15 then
((tally_Way a0l a1i).bind fun r18 =>
(if a1i < 0 then
(if r18.2 = 2 then some (decide ((r18.1.length : Int) = 0))
else some false)
else
(if (a0l.length : Int) ≤ a1i then
(if r18.2 = 2 then some (decide ((r18.1.length : Int) = 0))
else some false)
else
(if r18.2 = 0 then
((ref32_Way a0l a1i).bind fun r25 =>
((law32_same r18.1 r25).bind fun r27 => some r27))
else some false))))
else some false)))))))
set_option maxRecDepth 100000 in
set_option maxHeartbeats 8000000 in
theorem law32_TallyTrees_calls (a0l : List (List UInt8)) (a1i : Int) (p0 : Value) (r : Bool) (w0 : World) (hp0 : Rw w0 [] p0 a0l) (H : law32_TallyTrees a0l a1i = some r) :
    Calls Try.prog 5 [p0, (i64 a1i)].toArray w0 (fun e w' => e = .returned (.bool r) ∧ Ext w0 w') := by
  have hE : Ext w0 w0 := Ext.refl w0
  unfold law32_TallyTrees at H
  refine calls_W (n := 52) Try.func5 rfl rfl rfl ?_
  refine W_seq ?_
  refine W_reg (by kernel_rfl) ?_
  refine wla rfl rfl (q_assign (v := (.bool false)) rfl rfl) ?_
  refine wl_nil ?_
  refine W_th ?_
  refine W_seq ?_
  refine W_seq ?_
  refine W_reg (by kernel_rfl) ?_
  obtain ⟨r1, hr1, H⟩ := Option.bind_eq_some_iff.1 H
  refine wls rfl rfl (stp_call (vs := []) Try.func14 rfl rfl rfl (ar0 ) (law32_lives_calls   r1 _  hr1) ?_)
  rintro _ w1 ⟨rfl, x1⟩
  refine ⟨_, rfl, ?_⟩
  have e2 := hE.trans x1
  refine wla rfl rfl (q_not rfl rfl) ?_
  refine wlb rfl rfl (q_move (v := (.bool ((!r1)))) rfl rfl) (fun hb3 => ?_) (fun hb3 => ?_)
  · replace H := (if_pos hb3).symm.trans H
    refine wlk rfl rfl ?_
    refine wlk rfl rfl ?_
    refine wlk rfl rfl ?_
    refine wla rfl rfl (q_pick_t (v := (.bool true)) rfl rfl rfl) ?_
    refine wl_nil ?_
    refine W_th ?_
    refine W_cond true rfl rfl (fun _ => ?_) (fun hb => by cases hb)
    refine W_seq ?_
    refine W_reg (by kernel_rfl) ?_
    obtain ⟨r4, hr4, H⟩ := Option.bind_eq_some_iff.1 H
    refine wls rfl rfl (stp_call (vs := []) Try.func14 rfl rfl rfl (ar0 ) (law32_lives_calls   r4 _  hr4) ?_)
    rintro _ w4 ⟨rfl, x4⟩
    refine ⟨_, rfl, ?_⟩
    have e5 := e2.trans x4
    refine wla rfl rfl (q_assign (v := (.bool r4)) rfl rfl) ?_
    refine wl_nil ?_
    refine W_th ?_
    refine W_ret ?_
    refine th_r ?_
    obtain rfl := Option.some.inj H
    refine rt1 (.bool r4) rfl rfl rfl rfl ?_
    exact ⟨rfl, e5⟩
  · replace H := (if_neg (ne_true_of_eq_false hb3)).symm.trans H
    refine wla rfl rfl (q_move (v := p0) rfl rfl) ?_
    obtain ⟨r6, hr6, H⟩ := Option.bind_eq_some_iff.1 H
    refine wls rfl rfl (stp_call (vs := [p0]) Try.func15 rfl rfl rfl (ar1 rfl) (law32_few_calls a0l p0 r6 _ (hp0.lift (Lift.ext e2 _)) hr6) ?_)
    rintro _ w6 ⟨rfl, x6⟩
    refine ⟨_, rfl, ?_⟩
    have e7 := e2.trans x6
    refine wla rfl rfl (q_not rfl rfl) ?_
    refine wla rfl rfl (q_pick_f (v := (.bool ((!r6)))) rfl rfl rfl) ?_
    refine wl_nil ?_
    refine W_th ?_
    refine W_cond _ rfl rfl (fun hb8 => ?_) (fun hb8 => ?_)
    · replace H := (if_pos hb8).symm.trans H
      refine W_seq ?_
      refine W_reg (by kernel_rfl) ?_
      obtain ⟨r9, hr9, H⟩ := Option.bind_eq_some_iff.1 H
      refine wls rfl rfl (stp_call (vs := []) Try.func14 rfl rfl rfl (ar0 ) (law32_lives_calls   r9 _  hr9) ?_)
      rintro _ w9 ⟨rfl, x9⟩
      refine ⟨_, rfl, ?_⟩
      have e10 := e7.trans x9
      refine wla rfl rfl (q_assign (v := (.bool r9)) rfl rfl) ?_
      refine wl_nil ?_
      refine W_th ?_
      refine W_ret ?_
      refine th_r ?_
      obtain rfl := Option.some.inj H
      refine rt1 (.bool r9) rfl rfl rfl rfl ?_
      exact ⟨rfl, e10⟩
    · replace H := (if_neg (ne_true_of_eq_false hb8)).symm.trans H
      refine W_skip ?_
      refine W_th ?_
      refine W_seq ?_
      refine W_seq ?_
      refine W_draw [2, 5] [(0, 0), (3, 0), (1, 2), (2, 1), (4, 2), (5, 1), (6, 0)] mixed (by kernel_rfl) (by kernel_rfl) (by kernel_rfl) (by kernel_rfl) ?_
      have x11 := Ext.drew w6
      have e12 := e7.trans x11
      refine wsa rfl rfl rfl (q_move (v := p0) rfl rfl) ?_
      refine wsa rfl rfl rfl (q_move (v := p0) rfl rfl) ?_
      obtain ⟨r13, hr13, H⟩ := Option.bind_eq_some_iff.1 H
      refine wsc rfl (by kernel_rfl) rfl rfl (stp_call (vs := [p0]) Try.func16 rfl rfl rfl (ar1 rfl) (tally_Tree_calls a0l p0 r13 _ (hp0.lift (Lift.ext e12 _)) hr13) ?_)
      rintro _ w13 ⟨v13, rfl, x13, n13_0, o13_0⟩
      refine ⟨_, rfl, ?_⟩
      have i13_0 : By w13 [] v13 r13 := OwK.slk (Sc.stab _) _ (OwK.scal o13_0 (v13 :: [])) (fun k hk => (Old.nil _) k (n13_0 k hk)) (fun _ h => h.2)
      have e14 := e12.trans x13
      refine wsq rfl rfl rfl (q_str rfl T22 rfl rfl rfl i13_0) ?_
      obtain ⟨r15, hr15, H⟩ := Option.bind_eq_some_iff.1 H
      refine wss rfl rfl rfl (stp_call (vs := [p0]) Try.func17 rfl rfl rfl (ar1 rfl) (ref32_Tree_calls a0l p0 r15 _ (hp0.lift (Lift.ext e14 _)) hr15) ?_)
      rintro _ w15 ⟨v15, rfl, x15, n15_0, o15_0⟩
      refine ⟨_, rfl, x15, ?_⟩
      have i15_0 : By w15 [] v15 r15 := OwK.slk (Sc.stab _) _ (OwK.scal o15_0 (v15 :: [])) (fun k hk => (Old.nil _) k (n15_0 k hk)) (fun _ h => h.2)
      replace i13_0 := i13_0.lift (Lift.ext x15 _)
      have e16 := e14.trans x15
      refine wsq rfl rfl rfl (q_str rfl T22 rfl rfl rfl i15_0) ?_
      refine wsa rfl rfl rfl (q_neS rfl rfl rfl) ?_
      refine ws_nil ?_
      refine W_th ?_
      refine W_cond _ rfl rfl (fun hb17 => ?_) (fun hb17 => ?_)
      · replace H := (if_neg (ndec_t hb17)).symm.trans H
        refine W_seq ?_
        refine W_reg (by kernel_rfl) ?_
        refine wla rfl rfl (q_assign (v := (.bool false)) rfl rfl) ?_
        refine wl_nil ?_
        refine W_th ?_
        refine W_ret ?_
        refine th_r ?_
        obtain rfl := Option.some.inj H
        refine rt1 (.bool false) rfl rfl rfl rfl ?_
        exact ⟨rfl, e16⟩
      · replace H := (if_pos (ndec_f hb17)).symm.trans H
        refine W_skip ?_
        refine W_th ?_
        refine W_seq ?_
        refine W_reg (by kernel_rfl) ?_
        refine wla rfl rfl (q_move (v := p0) rfl rfl) ?_
        refine wla rfl rfl (q_move (v := (i64 a1i)) rfl rfl) ?_
        obtain ⟨r18, hr18, H⟩ := Option.bind_eq_some_iff.1 H
        refine wls rfl rfl (stp_call (vs := [p0, (i64 a1i)]) Try.func18 rfl rfl rfl (ar2 rfl rfl) (tally_Way_calls a0l a1i p0 r18 _ [] (Old.nil _) (hp0.lift (Lift.ext e16 _)) hr18) ?_)
        rintro _ w18 ⟨v18_0, rfl, x18, n18_0, o18_0⟩
        refine ⟨_, rfl, ?_⟩
        have i18_0 : Rw w18 [] v18_0 r18.1 := OwK.slk (SlK.stab (Sc.stab _)) _ o18_0 (fun k hk => (Old.nil _) k (n18_0 k hk)) (fun _ h => h.2)
        replace i13_0 := i13_0.lift (Lift.ext x18 _)
        replace i15_0 := i15_0.lift (Lift.ext x18 _)
        have e19 := e16.trans x18
        refine wla rfl rfl (q_move (v := (.tuple #[v18_0, (i64 r18.2)])) rfl rfl) ?_
        refine wla rfl rfl (q_extract rfl rfl rfl) ?_
        refine wla rfl rfl (q_extract rfl rfl rfl) ?_
        refine wla rfl rfl (q_assign (v := v18_0) rfl rfl) ?_
        refine wla rfl rfl (q_assign (v := (i64 r18.2)) rfl rfl) ?_
        refine wl_nil ?_
        refine W_th ?_
        refine W_seq ?_
        refine W_seq ?_
        refine W_reg (by kernel_rfl) ?_
        refine wla rfl rfl (q_move (v := (i64 a1i)) rfl rfl) ?_
        refine wla rfl rfl (q_ltI rfl rfl rfl) ?_
        refine wlb rfl rfl (q_move (v := (.bool ((decide (a1i < 0))))) rfl rfl) (fun hb20 => ?_) (fun hb20 => ?_)
        · replace H := (if_pos (of_decide_eq_true hb20)).symm.trans H
          refine wlk rfl rfl ?_
          refine wlk rfl rfl ?_
          refine wlk rfl rfl ?_
          refine wlk rfl rfl ?_
          refine wla rfl rfl (q_pick_t (v := (.bool true)) rfl rfl rfl) ?_
          refine wl_nil ?_
          refine W_th ?_
          refine W_cond true rfl rfl (fun _ => ?_) (fun hb => by cases hb)
          refine W_seq ?_
          refine W_reg (by kernel_rfl) ?_
          refine wla rfl rfl (q_move (v := (i64 r18.2)) rfl rfl) ?_
          refine wla rfl rfl (q_eqI rfl rfl rfl) ?_
          refine wlb rfl rfl (q_move (v := (.bool ((decide (r18.2 = 2))))) rfl rfl) (fun hb21 => ?_) (fun hb21 => ?_)
          · replace H := (if_pos (of_decide_eq_true hb21)).symm.trans H
            refine wla rfl rfl (q_move (v := v18_0) rfl rfl) ?_
            refine wla rfl rfl (q_len rfl T27.sl rfl i18_0) ?_
            refine wla rfl rfl (q_eqI rfl rfl rfl) ?_
            refine wla rfl rfl (q_pick_t (v := (.bool ((decide ((r18.1.length : Int) = 0))))) rfl rfl rfl) ?_
            refine wla rfl rfl (q_assign (v := (.bool ((decide ((r18.1.length : Int) = 0))))) rfl rfl) ?_
            refine wl_nil ?_
            refine W_th ?_
            refine W_ret ?_
            refine th_r ?_
            obtain rfl := Option.some.inj H
            refine rt1 (.bool ((decide ((r18.1.length : Int) = 0)))) rfl rfl rfl rfl ?_
            exact ⟨rfl, e19⟩
          · replace H := (if_neg (of_decide_eq_false hb21)).symm.trans H
            refine wlk rfl rfl ?_
            refine wlk rfl rfl ?_
            refine wlk rfl rfl ?_
            refine wla rfl rfl (q_pick_f (v := (.bool false)) rfl rfl rfl) ?_
            refine wla rfl rfl (q_assign (v := (.bool false)) rfl rfl) ?_
            refine wl_nil ?_
            refine W_th ?_
            refine W_ret ?_
            refine th_r ?_
            obtain rfl := Option.some.inj H
            refine rt1 (.bool false) rfl rfl rfl rfl ?_
            exact ⟨rfl, e19⟩
        · replace H := (if_neg (of_decide_eq_false hb20)).symm.trans H
          refine wla rfl rfl (q_move (v := (i64 a1i)) rfl rfl) ?_
          refine wla rfl rfl (q_move (v := p0) rfl rfl) ?_
          refine wla rfl rfl (q_len rfl T27.sl rfl (hp0.lift (Lift.ext e19 _))) ?_
          refine wla rfl rfl (q_geI rfl rfl rfl) ?_
          refine wla rfl rfl (q_pick_f (v := (.bool ((decide ((a0l.length : Int) ≤ a1i))))) rfl rfl rfl) ?_
          refine wl_nil ?_
          refine W_th ?_
          refine W_cond _ rfl rfl (fun hb22 => ?_) (fun hb22 => ?_)
          · replace H := (if_pos (of_decide_eq_true hb22)).symm.trans H
            refine W_seq ?_
            refine W_reg (by kernel_rfl) ?_
            refine wla rfl rfl (q_move (v := (i64 r18.2)) rfl rfl) ?_
            refine wla rfl rfl (q_eqI rfl rfl rfl) ?_
            refine wlb rfl rfl (q_move (v := (.bool ((decide (r18.2 = 2))))) rfl rfl) (fun hb23 => ?_) (fun hb23 => ?_)
            · replace H := (if_pos (of_decide_eq_true hb23)).symm.trans H
              refine wla rfl rfl (q_move (v := v18_0) rfl rfl) ?_
              refine wla rfl rfl (q_len rfl T27.sl rfl i18_0) ?_
              refine wla rfl rfl (q_eqI rfl rfl rfl) ?_
              refine wla rfl rfl (q_pick_t (v := (.bool ((decide ((r18.1.length : Int) = 0))))) rfl rfl rfl) ?_
              refine wla rfl rfl (q_assign (v := (.bool ((decide ((r18.1.length : Int) = 0))))) rfl rfl) ?_
              refine wl_nil ?_
              refine W_th ?_
              refine W_ret ?_
              refine th_r ?_
              obtain rfl := Option.some.inj H
              refine rt1 (.bool ((decide ((r18.1.length : Int) = 0)))) rfl rfl rfl rfl ?_
              exact ⟨rfl, e19⟩
            · replace H := (if_neg (of_decide_eq_false hb23)).symm.trans H
              refine wlk rfl rfl ?_
              refine wlk rfl rfl ?_
              refine wlk rfl rfl ?_
              refine wla rfl rfl (q_pick_f (v := (.bool false)) rfl rfl rfl) ?_
              refine wla rfl rfl (q_assign (v := (.bool false)) rfl rfl) ?_
              refine wl_nil ?_
              refine W_th ?_
              refine W_ret ?_
              refine th_r ?_
              obtain rfl := Option.some.inj H
              refine rt1 (.bool false) rfl rfl rfl rfl ?_
              exact ⟨rfl, e19⟩
          · replace H := (if_neg (of_decide_eq_false hb22)).symm.trans H
            refine W_skip ?_
            refine W_th ?_
            refine W_seq ?_
            refine W_reg (by kernel_rfl) ?_
            refine wla rfl rfl (q_move (v := (i64 r18.2)) rfl rfl) ?_
            refine wla rfl rfl (q_eqI rfl rfl rfl) ?_
            refine wlb rfl rfl (q_move (v := (.bool ((decide (r18.2 = 0))))) rfl rfl) (fun hb24 => ?_) (fun hb24 => ?_)
            · replace H := (if_pos (of_decide_eq_true hb24)).symm.trans H
              refine wla rfl rfl (q_move (v := v18_0) rfl rfl) ?_
              refine wla rfl rfl (q_move (v := p0) rfl rfl) ?_
              refine wla rfl rfl (q_move (v := (i64 a1i)) rfl rfl) ?_
              obtain ⟨r25, hr25, H⟩ := Option.bind_eq_some_iff.1 H
              refine wls rfl rfl (stp_call (vs := [p0, (i64 a1i)]) Try.func20 rfl rfl rfl (ar2 rfl rfl) (ref32_Way_calls a0l a1i p0 r25 _ [] (Old.nil _) (hp0.lift (Lift.ext e19 _)) hr25) ?_)
              rintro _ w25 ⟨v25, rfl, x25, n25_0, o25_0⟩
              refine ⟨_, rfl, ?_⟩
              have i25_0 : Rw w25 [] v25 r25 := OwK.slk (SlK.stab (Sc.stab _)) _ o25_0 (fun k hk => (Old.nil _) k (n25_0 k hk)) (fun _ h => h.2)
              replace i13_0 := i13_0.lift (Lift.ext x25 _)
              replace i15_0 := i15_0.lift (Lift.ext x25 _)
              replace i18_0 := i18_0.lift (Lift.ext x25 _)
              have e26 := e19.trans x25
              obtain ⟨r27, hr27, H⟩ := Option.bind_eq_some_iff.1 H
              refine wls rfl rfl (stp_call (vs := [v18_0, v25]) Try.func19 rfl rfl rfl (ar2 rfl rfl) (law32_same_calls r18.1 r25 v18_0 v25 r27 _ (i18_0.lift (Lift.sub (fun _ _ => trivial))) (i25_0.lift (Lift.sub (fun _ _ => trivial))) hr27) ?_)
              rintro _ w27 ⟨rfl, x27⟩
              refine ⟨_, rfl, ?_⟩
              replace i13_0 := i13_0.lift (Lift.ext x27 _)
              replace i15_0 := i15_0.lift (Lift.ext x27 _)
              replace i18_0 := i18_0.lift (Lift.ext x27 _)
              replace i25_0 := i25_0.lift (Lift.ext x27 _)
              have e28 := e26.trans x27
              refine wla rfl rfl (q_pick_t (v := (.bool r27)) rfl rfl rfl) ?_
              refine wla rfl rfl (q_assign (v := (.bool r27)) rfl rfl) ?_
              refine wl_nil ?_
              refine W_th ?_
              refine W_ret ?_
              obtain rfl := Option.some.inj H
              refine rt1 (.bool r27) rfl rfl rfl rfl ?_
              exact ⟨rfl, e28⟩
            · replace H := (if_neg (of_decide_eq_false hb24)).symm.trans H
              refine wlk rfl rfl ?_
              refine wlk rfl rfl ?_
              refine wlk rfl rfl ?_
              refine wlk rfl rfl ?_
              refine wlk rfl rfl ?_
              refine wla rfl rfl (q_pick_f (v := (.bool false)) rfl rfl rfl) ?_
              refine wla rfl rfl (q_assign (v := (.bool false)) rfl rfl) ?_
              refine wl_nil ?_
              refine W_th ?_
              refine W_ret ?_
              obtain rfl := Option.some.inj H
              refine rt1 (.bool false) rfl rfl rfl rfl ?_
              exact ⟨rfl, e19⟩

/-! largesse/largesselaw32.TallyChecks -/
noncomputable def law32_TallyChecks (a0l : List (List UInt8)) (a1i : Int) (a2n : Int) (a3root : List UInt8) (a4b : List UInt8) (a5way : List (List UInt8)) : Option Bool :=
((law32_lives ).bind fun r1 =>
(if (!r1) = true then
((law32_lives ).bind fun r4 => some r4)
else
((law32_few a0l).bind fun r6 =>
(if (!r6) = true then
((law32_lives ).bind fun r9 => some r9)
else
((law32_few a5way).bind fun r11 =>
(if (!r11) = true then
((law32_lives ).bind fun r14 => some r14)
else
(if 100 < (a4b.length : Int) then
((law32_lives ).bind fun r17 => some r17)
else
(((if 0 < (a0l.length : Int) then
((nz ((UInt64.ofInt ((a0l.length : Int))))).bind fun c21 =>
((tally_Way a0l (wI ((((UInt64.ofInt a1i) % (UInt64.ofInt ((a0l.length : Int))))).toNat : Int))).bind fun r22 =>
((idx a0l ((wI ((((UInt64.ofInt a1i) % (UInt64.ofInt ((a0l.length : Int))))).toNat : Int)))).bind fun c26 =>
((tally_Tree a0l).bind fun r28 =>
((tally_Check r28 c26 (wI ((((UInt64.ofInt a1i) % (UInt64.ofInt ((a0l.length : Int))))).toNat : Int)) (a0l.length : Int) r22.1).bind fun r30 =>
(if (!r30) = true then some (.inr false)
else
((tally_Check a3root c26 (wI ((((UInt64.ofInt a1i) % (UInt64.ofInt ((a0l.length : Int))))).toNat : Int)) (a0l.length : Int) r22.1).bind fun r34 =>
((tally_Tree a0l).bind fun r36 =>
(if (!(r34 == ((decide (a3root = r36))))) = true then some (.inr false)
else
((appL (([] : List (List UInt8))) a5way).bind fun c42 =>
((appL c42 r22.1).bind fun c45 => some (.inl c45))))))))))))
else some (.inl a5way))).bind (Sum.elim (fun s19 =>
(if a1i < 0 then
((tally_Check a3root a4b a1i a2n s19).bind fun r51 => some (!r51))
else
(if a2n ≤ a1i then
((tally_Check a3root a4b a1i a2n s19).bind fun r54 => some (!r54))
else
(if 1099511627776 < a1i then some true
else
((ref32_Root a4b a1i (wI ((wI (a1i + 1)) + (wI ((((UInt64.ofInt a2n) % (1000 : UInt64))).toNat : Int)))) s19).bind fun r57 =>
((tally_Check a3root a4b a1i (wI ((wI (a1i + 1)) + (wI ((((UInt64.ofInt a2n) % (1000 : UInt64))).toNat : Int)))) s19).bind fun r59 =>
(if r57.2 = true then
(if (r59 == ((decide (r57.1 = a3root)))) = true then
((tally_Check r57.1 a4b a1i (wI ((wI (a1i + 1)) + (wI ((((UInt64.ofInt a2n) % (1000 : UInt64))).toNat : Int)))) s19).bind fun r63 => some (r63 == r57.2))
else some false)
else
(if (r59 == false) = true then
((tally_Check r57.1 a4b a1i (wI ((wI (a1i + 1)) + (wI ((((UInt64.ofInt a2n) % (1000 : UInt64))).toNat : Int)))) s19).bind fun r66 => some (r66 == r57.2))
else some false)))))))) (fun q19 => some q19))))))))))
set_option maxRecDepth 100000 in
set_option maxHeartbeats 8000000 in
theorem law32_TallyChecks_calls (a0l : List (List UInt8)) (a1i : Int) (a2n : Int) (a3root : List UInt8) (a4b : List UInt8) (a5way : List (List UInt8)) (p0 : Value) (p3 : Value) (p4 : Value) (p5 : Value) (r : Bool) (w0 : World) (hp0 : Rw w0 [] p0 a0l) (hp3 : By w0 [] p3 a3root) (hp4 : By w0 [] p4 a4b) (hp5 : Rw w0 [] p5 a5way) (H : law32_TallyChecks a0l a1i a2n a3root a4b a5way = some r) :
    Calls Try.prog 7 [p0, (i64 a1i), (i64 a2n), p3, p4, p5].toArray w0 (fun e w' => e = .returned (.bool r) ∧ Ext w0 w') := by
  have hE : Ext w0 w0 := Ext.refl w0
  unfold law32_TallyChecks at H
  refine calls_W (n := 144) Try.func7 rfl rfl rfl ?_
  refine W_seq ?_
  refine W_reg (by kernel_rfl) ?_
  refine wla rfl rfl (q_assign (v := (.bool false)) rfl rfl) ?_
  refine wl_nil ?_
  refine W_th ?_
  refine W_seq ?_
  refine W_seq ?_
  refine W_reg (by kernel_rfl) ?_
  obtain ⟨r1, hr1, H⟩ := Option.bind_eq_some_iff.1 H
  refine wls rfl rfl (stp_call (vs := []) Try.func14 rfl rfl rfl (ar0 ) (law32_lives_calls   r1 _  hr1) ?_)
  rintro _ w1 ⟨rfl, x1⟩
  refine ⟨_, rfl, ?_⟩
  have e2 := hE.trans x1
  refine wla rfl rfl (q_not rfl rfl) ?_
  refine wlb rfl rfl (q_move (v := (.bool ((!r1)))) rfl rfl) (fun hb3 => ?_) (fun hb3 => ?_)
  · replace H := (if_pos hb3).symm.trans H
    refine wlk rfl rfl ?_
    refine wlk rfl rfl ?_
    refine wlk rfl rfl ?_
    refine wla rfl rfl (q_pick_t (v := (.bool true)) rfl rfl rfl) ?_
    refine wla rfl rfl (q_move (v := (.bool true)) rfl rfl) ?_
    refine wlk rfl rfl ?_
    refine wlk rfl rfl ?_
    refine wlk rfl rfl ?_
    refine wla rfl rfl (q_pick_t (v := (.bool true)) rfl rfl rfl) ?_
    refine wla rfl rfl (q_move (v := (.bool true)) rfl rfl) ?_
    refine wlk rfl rfl ?_
    refine wlk rfl rfl ?_
    refine wlk rfl rfl ?_
    refine wla rfl rfl (q_pick_t (v := (.bool true)) rfl rfl rfl) ?_
    refine wl_nil ?_
    refine W_th ?_
    refine W_cond true rfl rfl (fun _ => ?_) (fun hb => by cases hb)
    refine W_seq ?_
    refine W_reg (by kernel_rfl) ?_
    obtain ⟨r4, hr4, H⟩ := Option.bind_eq_some_iff.1 H
    refine wls rfl rfl (stp_call (vs := []) Try.func14 rfl rfl rfl (ar0 ) (law32_lives_calls   r4 _  hr4) ?_)
    rintro _ w4 ⟨rfl, x4⟩
    refine ⟨_, rfl, ?_⟩
    have e5 := e2.trans x4
    refine wla rfl rfl (q_assign (v := (.bool r4)) rfl rfl) ?_
    refine wl_nil ?_
    refine W_th ?_
    refine W_ret ?_
    refine th_r ?_
    obtain rfl := Option.some.inj H
    refine rt1 (.bool r4) rfl rfl rfl rfl ?_
    exact ⟨rfl, e5⟩
  · replace H := (if_neg (ne_true_of_eq_false hb3)).symm.trans H
    refine wla rfl rfl (q_move (v := p0) rfl rfl) ?_
    obtain ⟨r6, hr6, H⟩ := Option.bind_eq_some_iff.1 H
    refine wls rfl rfl (stp_call (vs := [p0]) Try.func15 rfl rfl rfl (ar1 rfl) (law32_few_calls a0l p0 r6 _ (hp0.lift (Lift.ext e2 _)) hr6) ?_)
    rintro _ w6 ⟨rfl, x6⟩
    refine ⟨_, rfl, ?_⟩
    have e7 := e2.trans x6
    refine wla rfl rfl (q_not rfl rfl) ?_
    refine wla rfl rfl (q_pick_f (v := (.bool ((!r6)))) rfl rfl rfl) ?_
    refine wlb rfl rfl (q_move (v := (.bool ((!r6)))) rfl rfl) (fun hb8 => ?_) (fun hb8 => ?_)
    · replace H := (if_pos hb8).symm.trans H
      refine wlk rfl rfl ?_
      refine wlk rfl rfl ?_
      refine wlk rfl rfl ?_
      refine wla rfl rfl (q_pick_t (v := (.bool true)) rfl rfl rfl) ?_
      refine wla rfl rfl (q_move (v := (.bool true)) rfl rfl) ?_
      refine wlk rfl rfl ?_
      refine wlk rfl rfl ?_
      refine wlk rfl rfl ?_
      refine wla rfl rfl (q_pick_t (v := (.bool true)) rfl rfl rfl) ?_
      refine wl_nil ?_
      refine W_th ?_
      refine W_cond true rfl rfl (fun _ => ?_) (fun hb => by cases hb)
      refine W_seq ?_
      refine W_reg (by kernel_rfl) ?_
      obtain ⟨r9, hr9, H⟩ := Option.bind_eq_some_iff.1 H
      refine wls rfl rfl (stp_call (vs := []) Try.func14 rfl rfl rfl (ar0 ) (law32_lives_calls   r9 _  hr9) ?_)
      rintro _ w9 ⟨rfl, x9⟩
      refine ⟨_, rfl, ?_⟩
      have e10 := e7.trans x9
      refine wla rfl rfl (q_assign (v := (.bool r9)) rfl rfl) ?_
      refine wl_nil ?_
      refine W_th ?_
      refine W_ret ?_
      refine th_r ?_
      obtain rfl := Option.some.inj H
      refine rt1 (.bool r9) rfl rfl rfl rfl ?_
      exact ⟨rfl, e10⟩
    · replace H := (if_neg (ne_true_of_eq_false hb8)).symm.trans H
      refine wla rfl rfl (q_move (v := p5) rfl rfl) ?_
      obtain ⟨r11, hr11, H⟩ := Option.bind_eq_some_iff.1 H
      refine wls rfl rfl (stp_call (vs := [p5]) Try.func15 rfl rfl rfl (ar1 rfl) (law32_few_calls a5way p5 r11 _ (hp5.lift (Lift.ext e7 _)) hr11) ?_)
      rintro _ w11 ⟨rfl, x11⟩
      refine ⟨_, rfl, ?_⟩
      have e12 := e7.trans x11
      refine wla rfl rfl (q_not rfl rfl) ?_
      refine wla rfl rfl (q_pick_f (v := (.bool ((!r11)))) rfl rfl rfl) ?_
      refine wlb rfl rfl (q_move (v := (.bool ((!r11)))) rfl rfl) (fun hb13 => ?_) (fun hb13 => ?_)
      · replace H := (if_pos hb13).symm.trans H
        refine wlk rfl rfl ?_
        refine wlk rfl rfl ?_
        refine wlk rfl rfl ?_
        refine wla rfl rfl (q_pick_t (v := (.bool true)) rfl rfl rfl) ?_
        refine wl_nil ?_
        refine W_th ?_
        refine W_cond true rfl rfl (fun _ => ?_) (fun hb => by cases hb)
        refine W_seq ?_
        refine W_reg (by kernel_rfl) ?_
        obtain ⟨r14, hr14, H⟩ := Option.bind_eq_some_iff.1 H
        refine wls rfl rfl (stp_call (vs := []) Try.func14 rfl rfl rfl (ar0 ) (law32_lives_calls   r14 _  hr14) ?_)
        rintro _ w14 ⟨rfl, x14⟩
        refine ⟨_, rfl, ?_⟩
        have e15 := e12.trans x14
        refine wla rfl rfl (q_assign (v := (.bool r14)) rfl rfl) ?_
        refine wl_nil ?_
        refine W_th ?_
        refine W_ret ?_
        refine th_r ?_
        obtain rfl := Option.some.inj H
        refine rt1 (.bool r14) rfl rfl rfl rfl ?_
        exact ⟨rfl, e15⟩
      · replace H := (if_neg (ne_true_of_eq_false hb13)).symm.trans H
        refine wla rfl rfl (q_move (v := p4) rfl rfl) ?_
        refine wla rfl rfl (q_len rfl T22.sl rfl (hp4.lift (Lift.ext e12 _))) ?_
        refine wla rfl rfl (q_gtI rfl rfl rfl) ?_
        refine wla rfl rfl (q_pick_f (v := (.bool ((decide (100 < (a4b.length : Int)))))) rfl rfl rfl) ?_
        refine wl_nil ?_
        refine W_th ?_
        refine W_cond _ rfl rfl (fun hb16 => ?_) (fun hb16 => ?_)
        · replace H := (if_pos (of_decide_eq_true hb16)).symm.trans H
          refine W_seq ?_
          refine W_reg (by kernel_rfl) ?_
          obtain ⟨r17, hr17, H⟩ := Option.bind_eq_some_iff.1 H
          refine wls rfl rfl (stp_call (vs := []) Try.func14 rfl rfl rfl (ar0 ) (law32_lives_calls   r17 _  hr17) ?_)
          rintro _ w17 ⟨rfl, x17⟩
          refine ⟨_, rfl, ?_⟩
          have e18 := e12.trans x17
          refine wla rfl rfl (q_assign (v := (.bool r17)) rfl rfl) ?_
          refine wl_nil ?_
          refine W_th ?_
          refine W_ret ?_
          refine th_r ?_
          obtain rfl := Option.some.inj H
          refine rt1 (.bool r17) rfl rfl rfl rfl ?_
          exact ⟨rfl, e18⟩
        · replace H := (if_neg (of_decide_eq_false hb16)).symm.trans H
          refine W_skip ?_
          refine W_th ?_
          refine W_seq ?_
          obtain ⟨x19, H19, H⟩ := Option.bind_eq_some_iff.1 H
          refine W_mid (fun f w => ∃ s19, x19 = .inl s19 ∧ ∃ v5_68 : Value, f 1 = (i64 a1i) ∧ f 2 = (i64 a2n) ∧ f 3 = p3 ∧ f 4 = p4 ∧ f 5 = v5_68 ∧ f 144 = undef ∧ Ext w0 w ∧ Rw w [] v5_68 s19) ?_ ?_
          · refine W_seq ?_
            refine W_reg (by kernel_rfl) ?_
            refine wla rfl rfl (q_move (v := p0) rfl rfl) ?_
            refine wla rfl rfl (q_len rfl T27.sl rfl (hp0.lift (Lift.ext e12 _))) ?_
            refine wla rfl rfl (q_gtI rfl rfl rfl) ?_
            refine wl_nil ?_
            refine W_th ?_
            refine W_cond _ rfl rfl (fun hb20 => ?_) (fun hb20 => ?_)
            · replace H19 := (if_pos (of_decide_eq_true hb20)).symm.trans H19
              refine W_seq ?_
              refine W_reg (by kernel_rfl) ?_
              refine wla rfl rfl (q_move (v := (i64 a1i)) rfl rfl) ?_
              refine wla rfl rfl (q_cvt64I rfl rfl rfl rfl) ?_
              refine wla rfl rfl (q_move (v := p0) rfl rfl) ?_
              refine wla rfl rfl (q_len rfl T27.sl rfl (hp0.lift (Lift.ext e12 _))) ?_
              refine wla rfl rfl (q_cvt64I rfl rfl rfl rfl) ?_
              obtain ⟨c21, hc21, H19⟩ := Option.bind_eq_some_iff.1 H19
              refine wla rfl rfl (q_rem64 rfl rfl rfl (nz_ne hc21)) ?_
              refine wla rfl rfl (q_cvtI64 rfl rfl rfl rfl) ?_
              refine wla rfl rfl (q_assign (v := (i64 ((wI ((((UInt64.ofInt a1i) % (UInt64.ofInt ((a0l.length : Int))))).toNat : Int))))) rfl rfl) ?_
              refine wl_nil ?_
              refine W_th ?_
              refine W_seq ?_
              refine W_reg (by kernel_rfl) ?_
              refine wla rfl rfl (q_move (v := p0) rfl rfl) ?_
              refine wla rfl rfl (q_move (v := (i64 ((wI ((((UInt64.ofInt a1i) % (UInt64.ofInt ((a0l.length : Int))))).toNat : Int))))) rfl rfl) ?_
              obtain ⟨r22, hr22, H19⟩ := Option.bind_eq_some_iff.1 H19
              refine wls rfl rfl (stp_call (vs := [p0, (i64 ((wI ((((UInt64.ofInt a1i) % (UInt64.ofInt ((a0l.length : Int))))).toNat : Int))))]) Try.func18 rfl rfl rfl (ar2 rfl rfl) (tally_Way_calls a0l (wI ((((UInt64.ofInt a1i) % (UInt64.ofInt ((a0l.length : Int))))).toNat : Int)) p0 r22 _ [] (Old.nil _) (hp0.lift (Lift.ext e12 _)) hr22) ?_)
              rintro _ w22 ⟨v22_0, rfl, x22, n22_0, o22_0⟩
              refine ⟨_, rfl, ?_⟩
              have i22_0 : Rw w22 [] v22_0 r22.1 := OwK.slk (SlK.stab (Sc.stab _)) _ o22_0 (fun k hk => (Old.nil _) k (n22_0 k hk)) (fun _ h => h.2)
              have e23 := e12.trans x22
              refine wla rfl rfl (q_move (v := (.tuple #[v22_0, (i64 r22.2)])) rfl rfl) ?_
              refine wla rfl rfl (q_extract rfl rfl rfl) ?_
              refine wla rfl rfl (q_extract rfl rfl rfl) ?_
              refine wla rfl rfl (q_assign (v := v22_0) rfl rfl) ?_
              refine wla rfl rfl (q_assign (v := (i64 r22.2)) rfl rfl) ?_
              refine wl_nil ?_
              refine W_th ?_
              refine W_seq ?_
              refine W_seq ?_
              refine W_draw [5, 17, 24, 27] [(0, 0), (2, 0), (3, 0), (4, 0), (5, 1), (6, 0), (7, 0), (8, 0), (9, 0), (1, 2), (10, 2), (11, 0), (12, 0), (13, 0), (14, 0), (15, 0), (16, 0), (17, 1), (18, 0), (19, 0), (20, 0), (21, 0), (23, 0), (24, 1), (25, 0), (22, 2), (26, 2), (27, 1), (28, 0), (29, 0), (30, 0)] mixed (by kernel_rfl) (by kernel_rfl) (by kernel_rfl) (by kernel_rfl) ?_
              have x24 := Ext.drew w22
              replace i22_0 := i22_0.lift (Lift.ext x24 _)
              have e25 := e23.trans x24
              refine wsa rfl rfl rfl (q_move (v := p0) rfl rfl) ?_
              refine wsa rfl rfl rfl (q_move (v := p0) rfl rfl) ?_
              refine wsa rfl rfl rfl (q_move (v := (i64 ((wI ((((UInt64.ofInt a1i) % (UInt64.ofInt ((a0l.length : Int))))).toNat : Int))))) rfl rfl) ?_
              obtain ⟨c26, hc26, H19⟩ := Option.bind_eq_some_iff.1 H19
              refine wsa rfl rfl rfl (q_adr rfl T27 rfl rfl (hp0.lift (Lift.ext e25 _)) hc26) ?_
              refine wsq_load rfl rfl rfl rfl T27 rfl hp0 hc26 e25 (fun v27 ha27 => ?_)
              refine wsa rfl rfl rfl (q_move (v := (i64 ((wI ((((UInt64.ofInt a1i) % (UInt64.ofInt ((a0l.length : Int))))).toNat : Int))))) rfl rfl) ?_
              refine wsa rfl rfl rfl (q_move (v := p0) rfl rfl) ?_
              refine wsa rfl rfl rfl (q_len rfl T27.sl rfl (hp0.lift (Lift.ext e25 _))) ?_
              refine wsa rfl rfl rfl (q_move (v := v22_0) rfl rfl) ?_
              obtain ⟨r28, hr28, H19⟩ := Option.bind_eq_some_iff.1 H19
              refine wss rfl rfl rfl (stp_call (vs := [p0]) Try.func16 rfl rfl rfl (ar1 rfl) (tally_Tree_calls a0l p0 r28 _ (hp0.lift (Lift.ext e25 _)) hr28) ?_)
              rintro _ w28 ⟨v28, rfl, x28, n28_0, o28_0⟩
              refine ⟨_, rfl, x28, ?_⟩
              have i28_0 : By w28 [] v28 r28 := OwK.slk (Sc.stab _) _ (OwK.scal o28_0 (v28 :: [])) (fun k hk => (Old.nil _) k (n28_0 k hk)) (fun _ h => h.2)
              replace i22_0 := i22_0.lift (Lift.ext x28 _)
              have e29 := e25.trans x28
              obtain ⟨r30, hr30, H19⟩ := Option.bind_eq_some_iff.1 H19
              refine wsc rfl (by kernel_rfl) rfl rfl (stp_call (vs := [v28, v27, (i64 ((wI ((((UInt64.ofInt a1i) % (UInt64.ofInt ((a0l.length : Int))))).toNat : Int)))), (i64 ((a0l.length : Int))), v22_0]) Try.func25 rfl rfl rfl (ar5 rfl rfl rfl rfl rfl) (tally_Check_calls r28 c26 (wI ((((UInt64.ofInt a1i) % (UInt64.ofInt ((a0l.length : Int))))).toNat : Int)) (a0l.length : Int) r22.1 v28 v27 v22_0 r30 _ (i28_0.lift (Lift.sub (fun _ _ => trivial))) (ha27.lift (Lift.ext e29 _)) (i22_0.lift (Lift.sub (fun _ _ => trivial))) hr30) ?_)
              rintro _ w30 ⟨rfl, x30⟩
              refine ⟨_, rfl, ?_⟩
              replace i22_0 := i22_0.lift (Lift.ext x30 _)
              replace i28_0 := i28_0.lift (Lift.ext x30 _)
              have e31 := e29.trans x30
              refine wsa rfl rfl rfl (q_not rfl rfl) ?_
              refine wsb rfl rfl rfl (q_move (v := (.bool ((!r30)))) rfl rfl) (fun hb32 => ?_) (fun hb32 => ?_)
              · replace H19 := (if_pos hb32).symm.trans H19
                refine wsk rfl rfl rfl ?_
                refine wsk rfl rfl rfl ?_
                refine wsk rfl rfl rfl ?_
                refine wsk rfl rfl rfl ?_
                refine wsk rfl rfl rfl ?_
                refine wsk rfl rfl rfl ?_
                refine wsk rfl rfl rfl ?_
                refine wsk rfl rfl rfl ?_
                refine wsk rfl rfl rfl ?_
                refine wsk rfl rfl rfl ?_
                refine wsk rfl rfl rfl ?_
                refine wsk rfl rfl rfl ?_
                refine wsk rfl rfl rfl ?_
                refine wsk rfl rfl rfl ?_
                refine wsk rfl rfl rfl ?_
                refine wsk rfl rfl rfl ?_
                refine wsk rfl rfl rfl ?_
                refine wsa rfl rfl rfl (q_pick_t (v := (.bool true)) rfl rfl rfl) ?_
                refine ws_nil ?_
                refine W_th ?_
                refine W_cond true rfl rfl (fun _ => ?_) (fun hb => by cases hb)
                refine W_seq ?_
                refine W_reg (by kernel_rfl) ?_
                refine wla rfl rfl (q_assign (v := (.bool false)) rfl rfl) ?_
                refine wl_nil ?_
                refine W_th ?_
                refine W_ret ?_
                refine th_r ?_
                obtain rfl := Option.some.inj H19
                simp only [Sum.elim_inr] at H
                refine th_r ?_
                refine th_r ?_
                obtain rfl := Option.some.inj H
                refine rt1 (.bool false) rfl rfl rfl rfl ?_
                exact ⟨rfl, e31⟩
              · replace H19 := (if_neg (ne_true_of_eq_false hb32)).symm.trans H19
                refine wsa rfl rfl rfl (q_move (v := p3) rfl rfl) ?_
                refine wsa rfl rfl rfl (q_move (v := p0) rfl rfl) ?_
                refine wsa rfl rfl rfl (q_move (v := (i64 ((wI ((((UInt64.ofInt a1i) % (UInt64.ofInt ((a0l.length : Int))))).toNat : Int))))) rfl rfl) ?_
                refine wsa rfl rfl rfl (q_adr rfl T27 rfl rfl (hp0.lift (Lift.ext e31 _)) hc26) ?_
                refine wsq_load rfl rfl rfl rfl T27 rfl hp0 hc26 e31 (fun v33 ha33 => ?_)
                refine wsa rfl rfl rfl (q_move (v := (i64 ((wI ((((UInt64.ofInt a1i) % (UInt64.ofInt ((a0l.length : Int))))).toNat : Int))))) rfl rfl) ?_
                refine wsa rfl rfl rfl (q_move (v := p0) rfl rfl) ?_
                refine wsa rfl rfl rfl (q_len rfl T27.sl rfl (hp0.lift (Lift.ext e31 _))) ?_
                refine wsa rfl rfl rfl (q_move (v := v22_0) rfl rfl) ?_
                refine wsa rfl rfl rfl (q_move (v := p3) rfl rfl) ?_
                refine wsq rfl rfl rfl (q_str rfl T22 rfl rfl rfl (hp3.lift (Lift.ext e31 _))) ?_
                refine wsa rfl rfl rfl (q_move (v := p0) rfl rfl) ?_
                obtain ⟨r34, hr34, H19⟩ := Option.bind_eq_some_iff.1 H19
                refine wss rfl rfl rfl (stp_call (vs := [p3, v33, (i64 ((wI ((((UInt64.ofInt a1i) % (UInt64.ofInt ((a0l.length : Int))))).toNat : Int)))), (i64 ((a0l.length : Int))), v22_0]) Try.func25 rfl rfl rfl (ar5 rfl rfl rfl rfl rfl) (tally_Check_calls a3root c26 (wI ((((UInt64.ofInt a1i) % (UInt64.ofInt ((a0l.length : Int))))).toNat : Int)) (a0l.length : Int) r22.1 p3 v33 v22_0 r34 _ (hp3.lift (Lift.ext e31 _)) (ha33.lift (Lift.ext e31 _)) (i22_0.lift (Lift.sub (fun _ _ => trivial))) hr34) ?_)
                rintro _ w34 ⟨rfl, x34⟩
                refine ⟨_, rfl, x34, ?_⟩
                replace i22_0 := i22_0.lift (Lift.ext x34 _)
                replace i28_0 := i28_0.lift (Lift.ext x34 _)
                have e35 := e31.trans x34
                obtain ⟨r36, hr36, H19⟩ := Option.bind_eq_some_iff.1 H19
                refine wss rfl rfl rfl (stp_call (vs := [p0]) Try.func16 rfl rfl rfl (ar1 rfl) (tally_Tree_calls a0l p0 r36 _ (hp0.lift (Lift.ext e35 _)) hr36) ?_)
                rintro _ w36 ⟨v36, rfl, x36, n36_0, o36_0⟩
                refine ⟨_, rfl, x36, ?_⟩
                have i36_0 : By w36 [] v36 r36 := OwK.slk (Sc.stab _) _ (OwK.scal o36_0 (v36 :: [])) (fun k hk => (Old.nil _) k (n36_0 k hk)) (fun _ h => h.2)
                replace i22_0 := i22_0.lift (Lift.ext x36 _)
                replace i28_0 := i28_0.lift (Lift.ext x36 _)
                have e37 := e35.trans x36
                refine wsq rfl rfl rfl (q_str rfl T22 rfl rfl rfl i36_0) ?_
                refine wsa rfl rfl rfl (q_eqS rfl rfl rfl) ?_
                refine wsa rfl rfl rfl (q_neB rfl (by kernel_rfl) rfl rfl) ?_
                refine wsa rfl rfl rfl (q_pick_f (v := (.bool ((!(r34 == ((decide (a3root = r36)))))))) rfl rfl rfl) ?_
                refine ws_nil ?_
                refine W_th ?_
                refine W_cond _ rfl rfl (fun hb38 => ?_) (fun hb38 => ?_)
                · replace H19 := (if_pos hb38).symm.trans H19
                  refine W_seq ?_
                  refine W_reg (by kernel_rfl) ?_
                  refine wla rfl rfl (q_assign (v := (.bool false)) rfl rfl) ?_
                  refine wl_nil ?_
                  refine W_th ?_
                  refine W_ret ?_
                  refine th_r ?_
                  obtain rfl := Option.some.inj H19
                  simp only [Sum.elim_inr] at H
                  refine th_r ?_
                  refine th_r ?_
                  obtain rfl := Option.some.inj H
                  refine rt1 (.bool false) rfl rfl rfl rfl ?_
                  exact ⟨rfl, e37⟩
                · replace H19 := (if_neg (ne_true_of_eq_false hb38)).symm.trans H19
                  refine W_skip ?_
                  refine W_th ?_
                  refine W_reg (by kernel_rfl) ?_
                  refine wls rfl rfl (stp_lit (L := []) (R := By) [] ([] : List (List UInt8)) rfl T27 rfl (by exact trivial) rfl (LitR.cells (R := By) (w := w36) (L := []) (l := ([] : List (List UInt8))) LitR.nil (fun u x h => cells_sl u x h)) rfl (LitR.all (R := By) (w := w36) (L := []) (l := ([] : List (List UInt8))) (SlK.stab (Sc.stab _)) LitR.nil) ?_)
                  intro v39 w39 o39 n39 g39 l39
                  have x39 := grown_ext g39
                  replace i22_0 := i22_0.lift (Lift.call _ x39 n39)
                  replace i28_0 := i28_0.lift (Lift.call _ x39 n39)
                  replace i36_0 := i36_0.lift (Lift.call _ x39 n39)
                  have n41 := Nw.ext e37 n39
                  have e40 := e37.trans x39
                  refine wla rfl rfl (q_move (v := p5) rfl rfl) ?_
                  obtain ⟨c42, hc42, H19⟩ := Option.bind_eq_some_iff.1 H19
                  refine wls rfl rfl (stp_append (R := By) (v := v39) (u := p5) (SlK.stab (Sc.stab _)) [] [] rfl T27 rfl rfl o39 (hp5.lift (Lift.arg e40 (nv_cons n41 nv_nil))) (fun _ _ h => h) hc42 oc_sl ?_)
                  intro v42 w42 o42 g42 nx42 l42
                  replace i22_0 := i22_0.lift l42
                  replace i28_0 := i28_0.lift l42
                  replace i36_0 := i36_0.lift l42
                  have e43 := e40.grown g42 n41
                  have n44 := Nw.nxt e40 n41 nx42
                  refine wla rfl rfl (q_move (v := v22_0) rfl rfl) ?_
                  obtain ⟨c45, hc45, H19⟩ := Option.bind_eq_some_iff.1 H19
                  refine wls rfl rfl (stp_append (R := By) (v := v42) (u := v22_0) (SlK.stab (Sc.stab _)) [] [] rfl T27 rfl rfl o42 i22_0 (fun _ _ h => h) hc45 oc_sl ?_)
                  intro v45 w45 o45 g45 nx45 l45
                  replace i22_0 := i22_0.lift l45
                  replace i28_0 := i28_0.lift l45
                  replace i36_0 := i36_0.lift l45
                  have e46 := e43.grown g45 n44
                  have n47 := Nw.nxt e43 n44 nx45
                  refine wla rfl rfl (q_assign (v := v45) rfl rfl) ?_
                  refine wl_nil ?_
                  obtain rfl := Option.some.inj H19
                  have i48 : Rw w45 [] v45 c45 := OwK.slk (SlK.stab (Sc.stab _)) [] o45 (fun k hk => trivial) (show ∀ k, Av [v45] k → Av [] k from fun _ h => trivial)
                  replace i22_0 := i22_0.lift (Lift.sub (show ∀ k, Av [v45] k → Av [] k from fun _ h => trivial))
                  replace i28_0 := i28_0.lift (Lift.sub (show ∀ k, Av [v45] k → Av [] k from fun _ h => trivial))
                  replace i36_0 := i36_0.lift (Lift.sub (show ∀ k, Av [v45] k → Av [] k from fun _ h => trivial))
                  exact ⟨_, rfl, v45, rfl, rfl, rfl, rfl, rfl, rfl, e46, i48⟩
            · replace H19 := (if_neg (of_decide_eq_false hb20)).symm.trans H19
              refine W_skip ?_
              obtain rfl := Option.some.inj H19
              exact ⟨_, rfl, p5, rfl, rfl, rfl, rfl, rfl, rfl, e12, (hp5.lift (Lift.arg e12 nv_nil))⟩
          · rintro _ w49 ⟨s19, rfl, v5_49, s1_49, s2_49, s3_49, s4_49, s5_49, s144_49, hE49, i0_49⟩
            simp only [Sum.elim_inl] at H
            refine W_th ?_
            refine W_seq ?_
            refine W_seq ?_
            refine W_reg (by kernel_rfl) ?_
            refine wla rfl rfl (q_move (v := (i64 a1i)) rfl s1_49) ?_
            refine wla rfl rfl (q_ltI rfl rfl rfl) ?_
            refine wlb rfl rfl (q_move (v := (.bool ((decide (a1i < 0))))) rfl rfl) (fun hb50 => ?_) (fun hb50 => ?_)
            · replace H := (if_pos (of_decide_eq_true hb50)).symm.trans H
              refine wlk rfl rfl ?_
              refine wlk rfl rfl ?_
              refine wlk rfl rfl ?_
              refine wla rfl rfl (q_pick_t (v := (.bool true)) rfl rfl rfl) ?_
              refine wl_nil ?_
              refine W_th ?_
              refine W_cond true rfl rfl (fun _ => ?_) (fun hb => by cases hb)
              refine W_seq ?_
              refine W_reg (by kernel_rfl) ?_
              refine wla rfl rfl (q_move (v := p3) rfl s3_49) ?_
              refine wla rfl rfl (q_move (v := p4) rfl s4_49) ?_
              refine wla rfl rfl (q_move (v := (i64 a1i)) rfl s1_49) ?_
              refine wla rfl rfl (q_move (v := (i64 a2n)) rfl s2_49) ?_
              refine wla rfl rfl (q_move (v := v5_49) rfl s5_49) ?_
              obtain ⟨r51, hr51, H⟩ := Option.bind_eq_some_iff.1 H
              refine wls rfl rfl (stp_call (vs := [p3, p4, (i64 a1i), (i64 a2n), v5_49]) Try.func25 rfl rfl rfl (ar5 rfl rfl rfl rfl rfl) (tally_Check_calls a3root a4b a1i a2n s19 p3 p4 v5_49 r51 _ (hp3.lift (Lift.ext hE49 _)) (hp4.lift (Lift.ext hE49 _)) (i0_49.lift (Lift.sub (fun _ _ => trivial))) hr51) ?_)
              rintro _ w51 ⟨rfl, x51⟩
              refine ⟨_, rfl, ?_⟩
              replace i0_49 := i0_49.lift (Lift.ext x51 _)
              have e52 := hE49.trans x51
              refine wla rfl rfl (q_not rfl rfl) ?_
              refine wla rfl rfl (q_assign (v := (.bool ((!r51)))) rfl rfl) ?_
              refine wl_nil ?_
              refine W_th ?_
              refine W_ret ?_
              refine th_r ?_
              obtain rfl := Option.some.inj H
              refine rt1 (.bool ((!r51))) rfl rfl rfl s144_49 ?_
              exact ⟨rfl, e52⟩
            · replace H := (if_neg (of_decide_eq_false hb50)).symm.trans H
              refine wla rfl rfl (q_move (v := (i64 a1i)) rfl s1_49) ?_
              refine wla rfl rfl (q_move (v := (i64 a2n)) rfl s2_49) ?_
              refine wla rfl rfl (q_geI rfl rfl rfl) ?_
              refine wla rfl rfl (q_pick_f (v := (.bool ((decide (a2n ≤ a1i))))) rfl rfl rfl) ?_
              refine wl_nil ?_
              refine W_th ?_
              refine W_cond _ rfl rfl (fun hb53 => ?_) (fun hb53 => ?_)
              · replace H := (if_pos (of_decide_eq_true hb53)).symm.trans H
                refine W_seq ?_
                refine W_reg (by kernel_rfl) ?_
                refine wla rfl rfl (q_move (v := p3) rfl s3_49) ?_
                refine wla rfl rfl (q_move (v := p4) rfl s4_49) ?_
                refine wla rfl rfl (q_move (v := (i64 a1i)) rfl s1_49) ?_
                refine wla rfl rfl (q_move (v := (i64 a2n)) rfl s2_49) ?_
                refine wla rfl rfl (q_move (v := v5_49) rfl s5_49) ?_
                obtain ⟨r54, hr54, H⟩ := Option.bind_eq_some_iff.1 H
                refine wls rfl rfl (stp_call (vs := [p3, p4, (i64 a1i), (i64 a2n), v5_49]) Try.func25 rfl rfl rfl (ar5 rfl rfl rfl rfl rfl) (tally_Check_calls a3root a4b a1i a2n s19 p3 p4 v5_49 r54 _ (hp3.lift (Lift.ext hE49 _)) (hp4.lift (Lift.ext hE49 _)) (i0_49.lift (Lift.sub (fun _ _ => trivial))) hr54) ?_)
                rintro _ w54 ⟨rfl, x54⟩
                refine ⟨_, rfl, ?_⟩
                replace i0_49 := i0_49.lift (Lift.ext x54 _)
                have e55 := hE49.trans x54
                refine wla rfl rfl (q_not rfl rfl) ?_
                refine wla rfl rfl (q_assign (v := (.bool ((!r54)))) rfl rfl) ?_
                refine wl_nil ?_
                refine W_th ?_
                refine W_ret ?_
                refine th_r ?_
                obtain rfl := Option.some.inj H
                refine rt1 (.bool ((!r54))) rfl rfl rfl s144_49 ?_
                exact ⟨rfl, e55⟩
              · replace H := (if_neg (of_decide_eq_false hb53)).symm.trans H
                refine W_skip ?_
                refine W_th ?_
                refine W_seq ?_
                refine W_reg (by kernel_rfl) ?_
                refine wla rfl rfl (q_move (v := (i64 a1i)) rfl s1_49) ?_
                refine wla rfl rfl (q_addI rfl rfl rfl) ?_
                refine wla rfl rfl (q_move (v := (i64 a2n)) rfl s2_49) ?_
                refine wla rfl rfl (q_cvt64I rfl rfl rfl rfl) ?_
                refine wla rfl rfl (q_rem64 rfl rfl (cst64 (1000 : UInt64) rfl) (by decide)) ?_
                refine wla rfl rfl (q_cvtI64 rfl rfl rfl rfl) ?_
                refine wla rfl rfl (q_addI rfl rfl rfl) ?_
                refine wla rfl rfl (q_assign (v := (i64 ((wI ((wI (a1i + 1)) + (wI ((((UInt64.ofInt a2n) % (1000 : UInt64))).toNat : Int))))))) rfl rfl) ?_
                refine wl_nil ?_
                refine W_th ?_
                refine W_seq ?_
                refine W_seq ?_
                refine W_reg (by kernel_rfl) ?_
                refine wla rfl rfl (q_move (v := (i64 a1i)) rfl s1_49) ?_
                refine wla rfl rfl (q_gtI rfl rfl rfl) ?_
                refine wl_nil ?_
                refine W_th ?_
                refine W_cond _ rfl rfl (fun hb56 => ?_) (fun hb56 => ?_)
                · replace H := (if_pos (of_decide_eq_true hb56)).symm.trans H
                  refine W_seq ?_
                  refine W_reg (by kernel_rfl) ?_
                  refine wla rfl rfl (q_assign (v := (.bool true)) rfl rfl) ?_
                  refine wl_nil ?_
                  refine W_th ?_
                  refine W_ret ?_
                  refine th_r ?_
                  obtain rfl := Option.some.inj H
                  refine rt1 (.bool true) rfl rfl rfl s144_49 ?_
                  exact ⟨rfl, hE49⟩
                · replace H := (if_neg (of_decide_eq_false hb56)).symm.trans H
                  refine W_skip ?_
                  refine W_th ?_
                  refine W_seq ?_
                  refine W_reg (by kernel_rfl) ?_
                  refine wla rfl rfl (q_move (v := p4) rfl s4_49) ?_
                  refine wla rfl rfl (q_move (v := (i64 a1i)) rfl s1_49) ?_
                  refine wla rfl rfl (q_move (v := (i64 ((wI ((wI (a1i + 1)) + (wI ((((UInt64.ofInt a2n) % (1000 : UInt64))).toNat : Int))))))) rfl rfl) ?_
                  refine wla rfl rfl (q_move (v := v5_49) rfl s5_49) ?_
                  obtain ⟨r57, hr57, H⟩ := Option.bind_eq_some_iff.1 H
                  refine wls rfl rfl (stp_call (vs := [p4, (i64 a1i), (i64 ((wI ((wI (a1i + 1)) + (wI ((((UInt64.ofInt a2n) % (1000 : UInt64))).toNat : Int)))))), v5_49]) Try.func26 rfl rfl rfl (ar4 rfl rfl rfl rfl) (ref32_Root_calls a4b a1i (wI ((wI (a1i + 1)) + (wI ((((UInt64.ofInt a2n) % (1000 : UInt64))).toNat : Int)))) s19 p4 v5_49 r57 _ (hp4.lift (Lift.ext hE49 _)) (i0_49.lift (Lift.sub (fun _ _ => trivial))) hr57) ?_)
                  rintro _ w57 ⟨v57_0, rfl, x57, n57_0, o57_0⟩
                  refine ⟨_, rfl, ?_⟩
                  have i57_0 : By w57 [] v57_0 r57.1 := OwK.slk (Sc.stab _) _ (OwK.scal o57_0 (v57_0 :: [])) (fun k hk => (Old.nil _) k (n57_0 k hk)) (fun _ h => h.2)
                  replace i0_49 := i0_49.lift (Lift.ext x57 _)
                  have e58 := hE49.trans x57
                  refine wla rfl rfl (q_move (v := (.tuple #[v57_0, (.bool r57.2)])) rfl rfl) ?_
                  refine wla rfl rfl (q_extract rfl rfl rfl) ?_
                  refine wla rfl rfl (q_extract rfl rfl rfl) ?_
                  refine wla rfl rfl (q_assign (v := v57_0) rfl rfl) ?_
                  refine wla rfl rfl (q_assign (v := (.bool r57.2)) rfl rfl) ?_
                  refine wl_nil ?_
                  refine W_th ?_
                  refine W_seq ?_
                  refine W_reg (by kernel_rfl) ?_
                  refine wla rfl rfl (q_move (v := p3) rfl s3_49) ?_
                  refine wla rfl rfl (q_move (v := p4) rfl s4_49) ?_
                  refine wla rfl rfl (q_move (v := (i64 a1i)) rfl s1_49) ?_
                  refine wla rfl rfl (q_move (v := (i64 ((wI ((wI (a1i + 1)) + (wI ((((UInt64.ofInt a2n) % (1000 : UInt64))).toNat : Int))))))) rfl rfl) ?_
                  refine wla rfl rfl (q_move (v := v5_49) rfl s5_49) ?_
                  obtain ⟨r59, hr59, H⟩ := Option.bind_eq_some_iff.1 H
                  refine wls rfl rfl (stp_call (vs := [p3, p4, (i64 a1i), (i64 ((wI ((wI (a1i + 1)) + (wI ((((UInt64.ofInt a2n) % (1000 : UInt64))).toNat : Int)))))), v5_49]) Try.func25 rfl rfl rfl (ar5 rfl rfl rfl rfl rfl) (tally_Check_calls a3root a4b a1i (wI ((wI (a1i + 1)) + (wI ((((UInt64.ofInt a2n) % (1000 : UInt64))).toNat : Int)))) s19 p3 p4 v5_49 r59 _ (hp3.lift (Lift.ext e58 _)) (hp4.lift (Lift.ext e58 _)) (i0_49.lift (Lift.sub (fun _ _ => trivial))) hr59) ?_)
                  rintro _ w59 ⟨rfl, x59⟩
                  refine ⟨_, rfl, ?_⟩
                  replace i0_49 := i0_49.lift (Lift.ext x59 _)
                  replace i57_0 := i57_0.lift (Lift.ext x59 _)
                  have e60 := e58.trans x59
                  refine wla rfl rfl (q_move (v := (.bool r57.2)) rfl rfl) ?_
                  refine wlb rfl rfl (q_move (v := (.bool r57.2)) rfl rfl) (fun hb61 => ?_) (fun hb61 => ?_)
                  · replace H := (if_pos hb61).symm.trans H
                    refine wla rfl rfl (q_move (v := v57_0) rfl rfl) ?_
                    refine wlq rfl rfl (q_str rfl T22 rfl rfl rfl i57_0) ?_
                    refine wla rfl rfl (q_move (v := p3) rfl s3_49) ?_
                    refine wlq rfl rfl (q_str rfl T22 rfl rfl rfl (hp3.lift (Lift.ext e60 _))) ?_
                    refine wla rfl rfl (q_eqS rfl rfl rfl) ?_
                    refine wla rfl rfl (q_pick_t (v := (.bool ((decide (r57.1 = a3root))))) rfl rfl rfl) ?_
                    refine wla rfl rfl (q_eqB rfl (by kernel_rfl) rfl rfl) ?_
                    refine wlb rfl rfl (q_move (v := (.bool ((r59 == ((decide (r57.1 = a3root))))))) rfl rfl) (fun hb62 => ?_) (fun hb62 => ?_)
                    · replace H := (if_pos hb62).symm.trans H
                      refine wla rfl rfl (q_move (v := v57_0) rfl rfl) ?_
                      refine wla rfl rfl (q_move (v := p4) rfl s4_49) ?_
                      refine wla rfl rfl (q_move (v := (i64 a1i)) rfl s1_49) ?_
                      refine wla rfl rfl (q_move (v := (i64 ((wI ((wI (a1i + 1)) + (wI ((((UInt64.ofInt a2n) % (1000 : UInt64))).toNat : Int))))))) rfl rfl) ?_
                      refine wla rfl rfl (q_move (v := v5_49) rfl s5_49) ?_
                      obtain ⟨r63, hr63, H⟩ := Option.bind_eq_some_iff.1 H
                      refine wls rfl rfl (stp_call (vs := [v57_0, p4, (i64 a1i), (i64 ((wI ((wI (a1i + 1)) + (wI ((((UInt64.ofInt a2n) % (1000 : UInt64))).toNat : Int)))))), v5_49]) Try.func25 rfl rfl rfl (ar5 rfl rfl rfl rfl rfl) (tally_Check_calls r57.1 a4b a1i (wI ((wI (a1i + 1)) + (wI ((((UInt64.ofInt a2n) % (1000 : UInt64))).toNat : Int)))) s19 v57_0 p4 v5_49 r63 _ (i57_0.lift (Lift.sub (fun _ _ => trivial))) (hp4.lift (Lift.ext e60 _)) (i0_49.lift (Lift.sub (fun _ _ => trivial))) hr63) ?_)
                      rintro _ w63 ⟨rfl, x63⟩
                      refine ⟨_, rfl, ?_⟩
                      replace i0_49 := i0_49.lift (Lift.ext x63 _)
                      replace i57_0 := i57_0.lift (Lift.ext x63 _)
                      have e64 := e60.trans x63
                      refine wla rfl rfl (q_move (v := (.bool r57.2)) rfl rfl) ?_
                      refine wla rfl rfl (q_eqB rfl (by kernel_rfl) rfl rfl) ?_
                      refine wla rfl rfl (q_pick_t (v := (.bool ((r63 == r57.2)))) rfl rfl rfl) ?_
                      refine wla rfl rfl (q_assign (v := (.bool ((r63 == r57.2)))) rfl rfl) ?_
                      refine wl_nil ?_
                      refine W_th ?_
                      refine W_ret ?_
                      obtain rfl := Option.some.inj H
                      refine rt1 (.bool ((r63 == r57.2))) rfl rfl rfl s144_49 ?_
                      exact ⟨rfl, e64⟩
                    · replace H := (if_neg (ne_true_of_eq_false hb62)).symm.trans H
                      refine wlk rfl rfl ?_
                      refine wlk rfl rfl ?_
                      refine wlk rfl rfl ?_
                      refine wlk rfl rfl ?_
                      refine wlk rfl rfl ?_
                      refine wlk rfl rfl ?_
                      refine wlk rfl rfl ?_
                      refine wlk rfl rfl ?_
                      refine wla rfl rfl (q_pick_f (v := (.bool false)) rfl rfl rfl) ?_
                      refine wla rfl rfl (q_assign (v := (.bool false)) rfl rfl) ?_
                      refine wl_nil ?_
                      refine W_th ?_
                      refine W_ret ?_
                      obtain rfl := Option.some.inj H
                      refine rt1 (.bool false) rfl rfl rfl s144_49 ?_
                      exact ⟨rfl, e60⟩
                  · replace H := (if_neg (ne_true_of_eq_false hb61)).symm.trans H
                    refine wlk rfl rfl ?_
                    refine wlk rfl rfl ?_
                    refine wlk rfl rfl ?_
                    refine wlk rfl rfl ?_
                    refine wlk rfl rfl ?_
                    refine wla rfl rfl (q_pick_f (v := (.bool false)) rfl rfl rfl) ?_
                    refine wla rfl rfl (q_eqB rfl (by kernel_rfl) rfl rfl) ?_
                    refine wlb rfl rfl (q_move (v := (.bool ((r59 == false)))) rfl rfl) (fun hb65 => ?_) (fun hb65 => ?_)
                    · replace H := (if_pos hb65).symm.trans H
                      refine wla rfl rfl (q_move (v := v57_0) rfl rfl) ?_
                      refine wla rfl rfl (q_move (v := p4) rfl s4_49) ?_
                      refine wla rfl rfl (q_move (v := (i64 a1i)) rfl s1_49) ?_
                      refine wla rfl rfl (q_move (v := (i64 ((wI ((wI (a1i + 1)) + (wI ((((UInt64.ofInt a2n) % (1000 : UInt64))).toNat : Int))))))) rfl rfl) ?_
                      refine wla rfl rfl (q_move (v := v5_49) rfl s5_49) ?_
                      obtain ⟨r66, hr66, H⟩ := Option.bind_eq_some_iff.1 H
                      refine wls rfl rfl (stp_call (vs := [v57_0, p4, (i64 a1i), (i64 ((wI ((wI (a1i + 1)) + (wI ((((UInt64.ofInt a2n) % (1000 : UInt64))).toNat : Int)))))), v5_49]) Try.func25 rfl rfl rfl (ar5 rfl rfl rfl rfl rfl) (tally_Check_calls r57.1 a4b a1i (wI ((wI (a1i + 1)) + (wI ((((UInt64.ofInt a2n) % (1000 : UInt64))).toNat : Int)))) s19 v57_0 p4 v5_49 r66 _ (i57_0.lift (Lift.sub (fun _ _ => trivial))) (hp4.lift (Lift.ext e60 _)) (i0_49.lift (Lift.sub (fun _ _ => trivial))) hr66) ?_)
                      rintro _ w66 ⟨rfl, x66⟩
                      refine ⟨_, rfl, ?_⟩
                      replace i0_49 := i0_49.lift (Lift.ext x66 _)
                      replace i57_0 := i57_0.lift (Lift.ext x66 _)
                      have e67 := e60.trans x66
                      refine wla rfl rfl (q_move (v := (.bool r57.2)) rfl rfl) ?_
                      refine wla rfl rfl (q_eqB rfl (by kernel_rfl) rfl rfl) ?_
                      refine wla rfl rfl (q_pick_t (v := (.bool ((r66 == r57.2)))) rfl rfl rfl) ?_
                      refine wla rfl rfl (q_assign (v := (.bool ((r66 == r57.2)))) rfl rfl) ?_
                      refine wl_nil ?_
                      refine W_th ?_
                      refine W_ret ?_
                      obtain rfl := Option.some.inj H
                      refine rt1 (.bool ((r66 == r57.2))) rfl rfl rfl s144_49 ?_
                      exact ⟨rfl, e67⟩
                    · replace H := (if_neg (ne_true_of_eq_false hb65)).symm.trans H
                      refine wlk rfl rfl ?_
                      refine wlk rfl rfl ?_
                      refine wlk rfl rfl ?_
                      refine wlk rfl rfl ?_
                      refine wlk rfl rfl ?_
                      refine wlk rfl rfl ?_
                      refine wlk rfl rfl ?_
                      refine wlk rfl rfl ?_
                      refine wla rfl rfl (q_pick_f (v := (.bool false)) rfl rfl rfl) ?_
                      refine wla rfl rfl (q_assign (v := (.bool false)) rfl rfl) ?_
                      refine wl_nil ?_
                      refine W_th ?_
                      refine W_ret ?_
                      obtain rfl := Option.some.inj H
                      refine rt1 (.bool false) rfl rfl rfl s144_49 ?_
                      exact ⟨rfl, e60⟩

end Gk

/- Chapter 32's functions, in plain Lean. No condition but lengths. -/


set_option linter.unusedSimpArgs false
set_option linter.unusedVariables false
namespace Gk
open Gf

/-! ### The greatest power of 2 below a number -/
def lf (n : Nat) : Nat := 2 ^ (Nat.log2 (n - 1))
theorem lf_le {n : Nat} (h : 2 ≤ n) : lf n ≤ n - 1 := Nat.log2_self_le (by omega)
theorem lf_lt {n : Nat} (h : 2 ≤ n) : lf n < n := by have := lf_le h; omega
theorem lf_two {n : Nat} (h : 2 ≤ n) : n - 1 < 2 * lf n := by
  have : n - 1 < 2 ^ (Nat.log2 (n - 1) + 1) := Nat.lt_log2_self
  rw [Nat.pow_succ] at this; unfold lf; omega
theorem lf_pos (n : Nat) : 1 ≤ lf n := Nat.one_le_two_pow
theorem pow_uniq {n j : Nat} (h : 2 ≤ n) (h1 : 2 ^ j ≤ n - 1) (h2 : n - 1 < 2 * 2 ^ j) : lf n = 2 ^ j := by
  unfold lf; congr 1
  have : n - 1 < 2 ^ (j + 1) := by rw [Nat.pow_succ]; omega
  exact (Nat.log2_eq_iff (by omega)).2 ⟨h1, this⟩
theorem rleft_eq (n : Nat) (h : 2 ≤ n) (hn : n ≤ 4000000000000000000) : ref32_left (n : Int) = some ((lf n : Nat) : Int) := by
  unfold ref32_left
  obtain ⟨x, hx, hp⟩ := iterC_inv (body := fun s1 : Int => (if (wI (2 * s1)) < (n : Int) then some (.inl (wI (2 * s1))) else some (.inr s1))) (fun s => ∃ j : Nat, s = ((2 ^ j : Nat) : Int) ∧ 2 ^ j ≤ n - 1) (fun s => n - s.toNat)
      (fun x : Int => x = ((lf n : Nat) : Int)) (by
        rintro _ ⟨j, rfl, hj⟩
        have hpos := Nat.two_pow_pos j
        rw [wI_of (by omega) (by omega)]
        by_cases h2 : 2 * ((2 ^ j : Nat) : Int) < (n : Int)
        · left
          rw [if_pos h2]
          refine ⟨_, rfl, ⟨j + 1, by rw [Nat.pow_succ]; omega, by rw [Nat.pow_succ]; omega⟩, by omega⟩
        · right
          rw [if_neg h2]
          exact ⟨_, rfl, by rw [pow_uniq h hj (by omega)]⟩) 1 ⟨0, rfl, by simp; omega⟩
  exact bind_of hx (by rw [hp])
theorem tab_eq (l : List UInt8) (hl : l = [0, 1, 2, 2, 3, 3, 3, 3] ++ List.replicate 8 4 ++ List.replicate 16 5 ++ List.replicate 32 6 ++ List.replicate 64 7 ++ List.replicate 128 8) (b : UInt8) : ∃ t : UInt8, idx l (b.toNat : Int) = some t ∧ (b.toNat = 0 → t.toNat = 0) ∧ (0 < b.toNat → 1 ≤ t.toNat ∧ 2 ^ (t.toNat - 1) ≤ b.toNat ∧ b.toNat < 2 ^ t.toNat) ∧ t.toNat ≤ 8 := by
  subst hl
  have key : ∀ i : Fin 256, ∃ t : Fin 256, idx ([0, 1, 2, 2, 3, 3, 3, 3] ++ List.replicate 8 4 ++ List.replicate 16 5 ++ List.replicate 32 6 ++ List.replicate 64 7 ++ List.replicate 128 8) (i.val : Int) = some (UInt8.ofNat t.val) ∧ (i.val = 0 → t.val = 0) ∧ (0 < i.val → 1 ≤ t.val ∧ 2 ^ (t.val - 1) ≤ i.val ∧ i.val < 2 ^ t.val) ∧ t.val ≤ 8 := by
    have : ∀ i : Fin 256, (fun t : Fin 256 => idx ([0, 1, 2, 2, 3, 3, 3, 3] ++ List.replicate 8 4 ++ List.replicate 16 5 ++ List.replicate 32 6 ++ List.replicate 64 7 ++ List.replicate 128 8) (i.val : Int) = some (UInt8.ofNat t.val) ∧ (i.val = 0 → t.val = 0) ∧ (0 < i.val → 1 ≤ t.val ∧ 2 ^ (t.val - 1) ≤ i.val ∧ i.val < 2 ^ t.val) ∧ t.val ≤ 8)
        (if i.val = 0 then 0 else ⟨(Nat.log2 i.val + 1) % 256, Nat.mod_lt _ (by decide)⟩) := by decide +kernel
    exact fun i => ⟨_, this i⟩
  obtain ⟨t, k1, k2, k3, k4⟩ := key ⟨b.toNat, b.toNat_lt⟩
  have ht : (UInt8.ofNat t.val).toNat = t.val := by simp
  exact ⟨_, k1, by rw [ht]; exact k2, by rw [ht]; exact k3, by rw [ht]; exact k4⟩
theorem shr64_nat (x : UInt64) (k : Nat) (h : k ≤ 64) : (shr64 x k).toNat = x.toNat / 2 ^ k := by
  have := x.toNat_lt
  simp only [shr64, UInt64.toNat_ofNat']
  rw [Nat.min_eq_left h, Nat.mod_eq_of_lt (Nat.lt_of_le_of_lt (Nat.div_le_self _ _) (by omega))]
theorem pow_div {x m k : Nat} (hm : 1 ≤ m) (h : 2 ^ (m - 1) ≤ x / 2 ^ k ∧ x / 2 ^ k < 2 ^ m) : 2 ^ (m + k - 1) ≤ x ∧ x < 2 ^ (m + k) := by
  have hp := Nat.two_pow_pos k
  constructor
  · have := (Nat.le_div_iff_mul_le hp).1 h.1
    rw [← Nat.pow_add] at this
    rw [show m + k - 1 = m - 1 + k by omega]; exact this
  · have := (Nat.div_lt_iff_lt_mul hp).1 h.2
    rw [← Nat.pow_add] at this; exact this
set_option maxRecDepth 100000 in
theorem Len_eq (x : UInt64) (h : 0 < x.toNat) : ∃ m : Nat, math_bits_Len x = some (m : Int) ∧ 1 ≤ m ∧ m ≤ 64 ∧ 2 ^ (m - 1) ≤ x.toNat ∧ x.toNat < 2 ^ m := by
  have hx := x.toNat_lt
  have s1 : ∃ (y : UInt64) (a : Nat), (if (4294967296 : UInt64) ≤ x then some ((shr64 x 32), (32 : Int)) else some (x, 0)) = some (y, (a : Int)) ∧ a ≤ 32 ∧ y.toNat < 2 ^ 32 ∧ 0 < y.toNat ∧ y.toNat = x.toNat / 2 ^ a := by
    by_cases c : (4294967296 : UInt64) ≤ x
    · rw [if_pos c]
      rw [UInt64.le_iff_toNat_le] at c
      have c' : 4294967296 ≤ x.toNat := c
      have := shr64_nat x 32 (by decide)
      refine ⟨_, 32, rfl, by omega, by rw [this]; omega, by rw [this]; omega, this⟩
    · rw [if_neg c]
      rw [UInt64.le_iff_toNat_le] at c
      have c' : ¬ 4294967296 ≤ x.toNat := c
      exact ⟨_, 0, rfl, by omega, by omega, h, by simp⟩
  obtain ⟨y, a, e1, ha, hy, hy0, hya⟩ := s1
  have s2 : ∃ (z : UInt64) (b : Nat), (if (65536 : UInt64) ≤ y then some ((shr64 y 16), (wI ((a : Int) + 16))) else some (y, (a : Int))) = some (z, (b : Int)) ∧ b ≤ 48 ∧ z.toNat < 2 ^ 16 ∧ 0 < z.toNat ∧ z.toNat = x.toNat / 2 ^ b := by
    by_cases c : (65536 : UInt64) ≤ y
    · rw [if_pos c]
      rw [UInt64.le_iff_toNat_le] at c
      have c' : 65536 ≤ y.toNat := c
      have := shr64_nat y 16 (by decide)
      refine ⟨_, a + 16, by rw [wI_of (by omega) (by omega)]; rfl, by omega, by rw [this]; omega, by rw [this]; omega, ?_⟩
      rw [this, hya, Nat.div_div_eq_div_mul, ← Nat.pow_add]
    · rw [if_neg c]
      rw [UInt64.le_iff_toNat_le] at c
      have c' : ¬ 65536 ≤ y.toNat := c
      exact ⟨_, a, rfl, by omega, by omega, hy0, hya⟩
  obtain ⟨z, b, e2, hb, hz, hz0, hzb⟩ := s2
  unfold math_bits_Len math_bits_Len64
  rw [e1, Option.bind_some]
  simp only []
  rw [e2, Option.bind_some]
  simp only []
  by_cases c : (256 : UInt64) ≤ z
  · rw [if_pos c]
    rw [UInt64.le_iff_toNat_le] at c
    have c' : 256 ≤ z.toNat := c
    have hs := shr64_nat z 8 (by decide)
    have hb8 : (shr64 z 8).toUInt8.toNat = z.toNat / 2 ^ 8 := by rw [UInt64.toNat_toUInt8, hs]; omega
    obtain ⟨t, t1, t2, t3, t4⟩ := tab_eq _ rfl (shr64 z 8).toUInt8
    refine ⟨b + 8 + t.toNat, ?_, ?_⟩
    · refine bind_of (bind_of t1 rfl) ?_
      rw [wI_of (x := (b : Int) + 8) (by omega) (by omega), wI_of (by omega) (by omega)]; rfl
    · obtain ⟨q1, q2⟩ := t3 (by rw [hb8]; omega)
      rw [hb8, hzb, Nat.div_div_eq_div_mul, ← Nat.pow_add] at q2
      have := pow_div q1 q2
      refine ⟨by omega, by omega, ?_, ?_⟩
      · rw [show b + 8 + t.toNat - 1 = t.toNat + (b + 8) - 1 by omega]; exact this.1
      · rw [show b + 8 + t.toNat = t.toNat + (b + 8) by omega]; exact this.2
  · rw [if_neg c]
    rw [UInt64.le_iff_toNat_le] at c
    have c' : ¬ 256 ≤ z.toNat := c
    have hb8 : z.toUInt8.toNat = z.toNat := by rw [UInt64.toNat_toUInt8]; omega
    obtain ⟨t, t1, t2, t3, t4⟩ := tab_eq _ rfl z.toUInt8
    refine ⟨b + t.toNat, ?_, ?_⟩
    · refine bind_of (bind_of t1 rfl) ?_
      rw [wI_of (by omega) (by omega)]; rfl
    · obtain ⟨q1, q2⟩ := t3 (by rw [hb8]; omega)
      rw [hb8, hzb] at q2
      have := pow_div q1 q2
      refine ⟨by omega, by omega, ?_, ?_⟩
      · rw [show b + t.toNat - 1 = t.toNat + b - 1 by omega]; exact this.1
      · rw [show b + t.toNat = t.toNat + b by omega]; exact this.2
theorem small64' (k : Nat) (h : k < 18446744073709551616) : (UInt64.ofInt (k : Int)).toNat = k := by
  simp only [UInt64.ofInt, UInt64.toNat_ofNat']
  omega
theorem left_eq (n : Nat) (h : 2 ≤ n) (hn : n ≤ 4000000000000000000) : tally_left (n : Int) = some ((lf n : Nat) : Int) := by
  unfold tally_left
  rw [wI_of (by omega) (by omega), show (n : Int) - 1 = ((n - 1 : Nat) : Int) by omega]
  have hs := small64' (n - 1) (by omega)
  obtain ⟨m, e1, h1, h2, h3, h4⟩ := Len_eq (UInt64.ofInt ((n - 1 : Nat) : Int)) (by rw [hs]; omega)
  rw [hs] at h3 h4
  rw [e1, Option.bind_some, wI_of (by omega) (by omega), show (m : Int) - 1 = ((m - 1 : Nat) : Int) by omega, cnt_nat, Option.bind_some]
  have hl : lf n = 2 ^ (m - 1) := pow_uniq h h3 (by rw [show m = m - 1 + 1 by omega, Nat.pow_succ] at h4; omega)
  have hle := lf_le h
  have := shlI_nat 1 (m - 1) (by omega) (by omega)
  rw [show ((1 : Nat) : Int) = 1 from rfl] at this
  rw [this, hl, Nat.shiftLeft_eq, Nat.one_mul]
end Gk

/- Chapter 32's trees and ways, and its laws TallyTrees and TallyChecks. No condition. -/

set_option linter.unusedSimpArgs false
set_option linter.unusedVariables false
namespace Gk
open Gf

def itm (b : List UInt8) : List UInt8 := sha (0 :: b)
def bth (a b : List UInt8) : List UInt8 := sha (1 :: (a ++ b))
theorem itm_len (b : List UInt8) : (itm b).length = 32 := sha_len _
theorem bth_len (a b : List UInt8) : (bth a b).length = 32 := sha_len _
theorem item_eq (b : List UInt8) (h : b.length ≤ 1000) : tally_item b = some (itm b) := by
  unfold tally_item
  rw [hash_Sum_eq _ (by simp only [List.flatten_cons, List.flatten_nil, List.length_append, List.length_cons, List.length_nil]; omega) (by simp)]; simp [itm]
theorem both_eq (a b : List UInt8) (h : a.length + b.length ≤ 1000) : tally_both a b = some (bth a b) := by
  unfold tally_both
  rw [hash_Sum_eq _ (by simp only [List.flatten_cons, List.flatten_nil, List.length_append, List.length_cons, List.length_nil]; omega) (by simp)]; simp [bth]
theorem Item_eq (b : List UInt8) (h : b.length ≤ 1000) : ref32_Item b = some (itm b) := by
  have hm : (10000 : Nat) ≤ most := by decide
  unfold ref32_Item appL
  rw [if_pos (by simp only [List.length_cons, List.length_nil]; omega), Option.bind_some, ref_Sum_eq _ (by simp only [List.length_append, List.length_cons, List.length_nil]; omega)]; rfl
theorem Both_eq (a b : List UInt8) (h : a.length + b.length ≤ 1000) : ref32_Both a b = some (bth a b) := by
  have hm : (10000 : Nat) ≤ most := by decide
  unfold ref32_Both appL
  rw [if_pos (by simp only [List.length_cons, List.length_nil]; omega), Option.bind_some, if_pos (by simp only [List.length_append, List.length_cons, List.length_nil]; omega), Option.bind_some,
    ref_Sum_eq _ (by simp only [List.length_append, List.length_cons, List.length_nil]; omega)]; rfl
/-- The tree of items. -/
def T (l : List (List UInt8)) : List UInt8 :=
  if l.length = 0 then sha [] else if l.length = 1 then itm (l.getD 0 []) else bth (T (l.take (lf l.length))) (T (l.drop (lf l.length)))
termination_by l.length
decreasing_by
  · have := lf_lt (n := l.length) (by omega); simp only [List.length_take]; omega
  · have := lf_pos l.length; simp only [List.length_drop]; omega
def Wy (l : List (List UInt8)) (i : Nat) : List (List UInt8) :=
  if l.length < 2 then [] else if i < lf l.length then Wy (l.take (lf l.length)) i ++ [T (l.drop (lf l.length))] else Wy (l.drop (lf l.length)) (i - lf l.length) ++ [T (l.take (lf l.length))]
termination_by l.length
decreasing_by
  · have := lf_lt (n := l.length) (by omega); simp only [List.length_take]; omega
  · have := lf_pos l.length; simp only [List.length_drop]; omega
def Sd (i n : Nat) : List Bool := if n < 2 then [] else if i < lf n then Sd i (lf n) ++ [true] else Sd (i - lf n) (n - lf n) ++ [false]
termination_by n
decreasing_by
  · exact lf_lt (by omega)
  · have := lf_pos n; omega
theorem T_len (l : List (List UInt8)) : (T l).length = 32 := by
  rw [T]; split
  · exact sha_len _
  · split
    · exact itm_len _
    · exact bth_len _ _
def Short (l : List (List UInt8)) : Prop := l.length ≤ 1000 ∧ ∀ b ∈ l, b.length ≤ 100
theorem Short.take {l : List (List UInt8)} (h : Short l) (k : Nat) : Short (l.take k) := ⟨by have := h.1; simp only [List.length_take]; omega, fun b hb => h.2 b (List.mem_of_mem_take hb)⟩
theorem Short.drop {l : List (List UInt8)} (h : Short l) (k : Nat) : Short (l.drop k) := ⟨by have := h.1; simp only [List.length_drop]; omega, fun b hb => h.2 b (List.mem_of_mem_drop hb)⟩
theorem subL_take {α : Type} (l : List α) (k : Nat) (h : k ≤ l.length) : subL l 0 (k : Int) = some (l.take k) := by
  have := subL_nat l 0 k (by omega) h
  simpa using this
theorem subL_drop {α : Type} (l : List α) (k : Nat) (h : k ≤ l.length) : subL l (k : Int) (l.length : Int) = some (l.drop k) := by
  have := subL_nat l k l.length h (Nat.le_refl _)
  rw [List.take_length] at this; exact this
theorem tree_n : ∀ (fu : Nat) (l : List (List UInt8)), l.length < fu → Short l → tally_Tree_n fu l = some (T l) ∧ ref32_Tree_n fu l = some (T l)
  | 0, l, h, _ => absurd h (Nat.not_lt_zero _)
  | fu + 1, l, h, hs => by
    have hs1 := hs.1
    rw [tally_Tree_n, ref32_Tree_n, T]
    by_cases h0 : l.length = 0
    · constructor
      · rw [if_pos (by omega), if_pos h0, hash_Sum_eq [] (by simp) (by simp)]; rfl
      · rw [if_pos (by omega), if_pos h0, ref_Sum_eq [] (by simp)]; rfl
    · by_cases h1 : l.length = 1
      · have hb := hs.2 (l.getD 0 []) (getD_mem (by omega))
        constructor
        · rw [if_neg (by omega), if_neg h0, if_pos (by omega), if_pos h1, idx_0 (by omega), Option.bind_some, item_eq _ (by omega)]; rfl
        · rw [if_neg (by omega), if_neg h0, if_pos (by omega), if_pos h1, idx_0 (by omega), Option.bind_some, Item_eq _ (by omega)]; rfl
      · have k1 := lf_lt (n := l.length) (by omega); have k2 := lf_pos l.length
        obtain ⟨a1, a2⟩ := tree_n fu (l.take (lf l.length)) (by simp only [List.length_take]; omega) (hs.take _)
        obtain ⟨b1, b2⟩ := tree_n fu (l.drop (lf l.length)) (by simp only [List.length_drop]; omega) (hs.drop _)
        constructor
        · rw [if_neg (by omega), if_neg h0, if_neg (by omega), if_neg h1, left_eq _ (by omega) (by omega), Option.bind_some, subL_take _ _ (by omega), Option.bind_some, subL_drop _ _ (by omega), Option.bind_some,
            a1, Option.bind_some, b1, Option.bind_some, both_eq _ _ (by rw [T_len, T_len]; omega)]; rfl
        · rw [if_neg (by omega), if_neg h0, if_neg (by omega), if_neg h1, rleft_eq _ (by omega) (by omega), Option.bind_some, subL_take _ _ (by omega), Option.bind_some, subL_drop _ _ (by omega), Option.bind_some,
            a2, Option.bind_some, b2, Option.bind_some, Both_eq _ _ (by rw [T_len, T_len]; omega)]; rfl
theorem Tree_eq (l : List (List UInt8)) (h : Short l) : tally_Tree l = some (T l) := (tree_n _ l (by omega) h).1
theorem rTree_eq (l : List (List UInt8)) (h : Short l) : ref32_Tree l = some (T l) := (tree_n _ l (by omega) h).2
theorem Wy_len : ∀ (n : Nat) (l : List (List UInt8)) (i : Nat), l.length = n → i < n → (Wy l i).length = (Sd i n).length ∧ (Wy l i).length < max n 1 ∧ ∀ w ∈ Wy l i, w.length = 32 := by
  intro n
  induction n using Nat.strongRecOn with
  | ind n ih =>
    intro l i hl hi
    rw [Wy, Sd]
    by_cases h2 : n < 2
    · rw [if_pos (by omega), if_pos h2]; exact ⟨rfl, by simp; omega, fun w hw => absurd hw List.not_mem_nil⟩
    · have k1 := lf_lt (n := n) (by omega); have k2 := lf_pos n
      rw [if_neg (by omega), if_neg h2, hl]
      by_cases h3 : i < lf n
      · rw [if_pos h3, if_pos h3]
        obtain ⟨a, b, c⟩ := ih (lf n) k1 (l.take (lf n)) i (by simp only [List.length_take]; omega) h3
        refine ⟨by rw [List.length_append, List.length_append, a]; rfl, by rw [List.length_append, List.length_singleton]; omega, fun w hw => ?_⟩
        rcases List.mem_append.1 hw with h | h
        · exact c w h
        · simp only [List.mem_singleton] at h; subst h; exact T_len _
      · rw [if_neg h3, if_neg h3]
        obtain ⟨a, b, c⟩ := ih (n - lf n) (by omega) (l.drop (lf n)) (i - lf n) (by simp only [List.length_drop]; omega) (by omega)
        refine ⟨by rw [List.length_append, List.length_append, a]; rfl, by rw [List.length_append, List.length_singleton]; omega, fun w hw => ?_⟩
        rcases List.mem_append.1 hw with h | h
        · exact c w h
        · simp only [List.mem_singleton] at h; subst h; exact T_len _
theorem way_n : ∀ (fu : Nat) (l : List (List UInt8)) (i : Nat), l.length < fu → i < l.length → Short l → tally_way_n fu l (i : Int) = some (Wy l i) ∧ ref32_Way_n fu l (i : Int) = some (Wy l i)
  | 0, l, i, h, _, _ => absurd h (Nat.not_lt_zero _)
  | fu + 1, l, i, h, hi, hs => by
    have h1 := hs.1
    have hm : (10000 : Nat) ≤ most := by decide
    rw [tally_way_n, ref32_Way_n, Wy]
    by_cases h2 : l.length < 2
    · constructor
      · rw [if_pos (by omega), if_pos h2]
      · rw [if_pos (by omega), if_pos h2]
    · have k1 := lf_lt (n := l.length) (by omega); have k2 := lf_pos l.length
      by_cases h3 : i < lf l.length
      · obtain ⟨a1, a2⟩ := way_n fu (l.take (lf l.length)) i (by simp only [List.length_take]; omega) (by simp only [List.length_take]; omega) (hs.take _)
        have hw := (Wy_len _ (l.take (lf l.length)) i rfl (by simp only [List.length_take]; omega)).2.1
        rw [List.length_take] at hw
        have ha : appL (Wy (l.take (lf l.length)) i) [T (l.drop (lf l.length))] = some (Wy (l.take (lf l.length)) i ++ [T (l.drop (lf l.length))]) := by
          unfold appL; rw [if_pos (by simp only [List.length_singleton]; omega)]
        constructor
        · rw [if_neg (by omega), if_neg h2, left_eq _ (by omega) (by omega), Option.bind_some, if_pos (by omega), if_pos h3, subL_take _ _ (by omega), Option.bind_some, subL_drop _ _ (by omega), Option.bind_some, a1, Option.bind_some, Tree_eq _ (hs.drop _), Option.bind_some, ha]; rfl
        · rw [if_neg (by omega), if_neg h2, rleft_eq _ (by omega) (by omega), Option.bind_some, if_pos (by omega), if_pos h3, subL_take _ _ (by omega), Option.bind_some, subL_drop _ _ (by omega), Option.bind_some, a2, Option.bind_some, rTree_eq _ (hs.drop _), Option.bind_some, ha]; rfl
      · obtain ⟨a1, a2⟩ := way_n fu (l.drop (lf l.length)) (i - lf l.length) (by simp only [List.length_drop]; omega) (by simp only [List.length_drop]; omega) (hs.drop _)
        have hw := (Wy_len _ (l.drop (lf l.length)) (i - lf l.length) rfl (by simp only [List.length_drop]; omega)).2.1
        rw [List.length_drop] at hw
        have ha : appL (Wy (l.drop (lf l.length)) (i - lf l.length)) [T (l.take (lf l.length))] = some (Wy (l.drop (lf l.length)) (i - lf l.length) ++ [T (l.take (lf l.length))]) := by
          unfold appL; rw [if_pos (by simp only [List.length_singleton]; omega)]
        constructor
        · rw [if_neg (by omega), if_neg h2, left_eq _ (by omega) (by omega), Option.bind_some, if_neg (by omega), if_neg h3, subL_drop _ _ (by omega), Option.bind_some, subL_take _ _ (by omega), Option.bind_some, wI_sub _ _ (by omega) (by omega), a1, Option.bind_some, Tree_eq _ (hs.take _), Option.bind_some, ha]; rfl
        · rw [if_neg (by omega), if_neg h2, rleft_eq _ (by omega) (by omega), Option.bind_some, if_neg (by omega), if_neg h3, subL_drop _ _ (by omega), Option.bind_some, subL_take _ _ (by omega), Option.bind_some, wI_sub _ _ (by omega) (by omega), a2, Option.bind_some, rTree_eq _ (hs.take _), Option.bind_some, ha]; rfl
theorem Way_ok (l : List (List UInt8)) (i : Nat) (hi : i < l.length) (hs : Short l) : tally_Way l (i : Int) = some (Wy l i, 0) := by
  have := hs.1
  unfold tally_Way tally_way
  rw [if_neg (by omega), if_neg (by omega), (way_n _ l i (by omega) hi hs).1]; rfl
theorem Sd_len : ∀ (n i : Nat), (Sd i n).length ≤ n := by
  intro n
  induction n using Nat.strongRecOn with
  | ind n ih =>
    intro i
    rw [Sd]
    by_cases h2 : n < 2
    · rw [if_pos h2]; simp
    · have k1 := lf_lt (n := n) (by omega); have k2 := lf_pos n
      rw [if_neg h2]
      split
      · have := ih (lf n) k1 i; rw [List.length_append, List.length_singleton]; omega
      · have := ih (n - lf n) (by omega) (i - lf n); rw [List.length_append, List.length_singleton]; omega
theorem sides_n : ∀ (fu i n : Nat), n < fu → i < n → n ≤ 4000000000000 → tally_sides_n fu (i : Int) (n : Int) = some (Sd i n)
  | 0, i, n, h, _, _ => absurd h (Nat.not_lt_zero _)
  | fu + 1, i, n, h, hin, hn => by
    have hm : (4000000000000 : Nat) + 1 ≤ most := by decide
    rw [tally_sides_n, Sd]
    by_cases h2 : n < 2
    · rw [if_pos (by omega), if_pos h2]
    · have k1 := lf_lt (n := n) (by omega); have k2 := lf_pos n
      rw [if_neg (by omega), if_neg h2, left_eq _ (by omega) (by omega), Option.bind_some]
      by_cases h3 : i < lf n
      · have hl := Sd_len (lf n) i
        rw [if_pos (by omega), if_pos h3, sides_n fu i (lf n) (by omega) h3 (by omega), Option.bind_some]
        unfold appL
        rw [if_pos (by simp only [List.length_singleton]; omega)]; rfl
      · have hl := Sd_len (n - lf n) (i - lf n)
        rw [if_neg (by omega), if_neg h3, wI_sub _ _ (by omega) (by omega), wI_sub _ _ (by omega) (by omega), sides_n fu (i - lf n) (n - lf n) (by omega) (by omega) (by omega), Option.bind_some]
        unfold appL
        rw [if_pos (by simp only [List.length_singleton]; omega)]; rfl
/-- What an item and a way make. -/
def fo (s : List UInt8) : List (Bool × List UInt8) → List UInt8
  | [] => s
  | (r, w) :: l => fo (if r = true then bth s w else bth w s) l
theorem fo_snoc (r : Bool) (w : List UInt8) : ∀ (l : List (Bool × List UInt8)) (s : List UInt8), fo s (l ++ [(r, w)]) = if r = true then bth (fo s l) w else bth w (fo s l)
  | [], s => rfl
  | (r', w') :: l, s => by simp only [List.cons_append, fo]; exact fo_snoc r w l _
theorem fo_len (s : List UInt8) (h : s.length = 32) : ∀ (l : List (Bool × List UInt8)), (fo s l).length = 32 := by
  intro l
  induction l generalizing s with
  | nil => exact h
  | cons a l ih =>
    obtain ⟨r, w⟩ := a
    simp only [fo]
    apply ih
    split <;> exact bth_len _ _
end Gk

/- Chapter 32's checks, and its laws TallyTrees and TallyChecks. No condition. -/

set_option linter.unusedSimpArgs false
set_option linter.unusedVariables false
namespace Gk
open Gf

theorem Equal_eq (a b : List UInt8) (h : a.length ≤ most) : slices_Equal_sbytebyte a b = some (decide (a = b)) := by
  have hm := most_lt'
  unfold slices_Equal_sbytebyte
  by_cases hl : a.length = b.length
  · rw [if_pos (by omega)]
    obtain ⟨o, ho, hp⟩ := iterC_inv (body := fun s2 : Int =>
      (if s2 < (a.length : Int) then
      ((idx a s2).bind fun c7 =>
      ((idx b s2).bind fun c8 =>
      (if c7 = c8 then
      some (.inl (wI (s2 + 1)))
      else
      some (.inr (.inr false)))))
      else
      some (.inr (.inl ())))) (fun s => ∃ i : Nat, i ≤ a.length ∧ s = (i : Int) ∧ ∀ j, j < i → co a j = co b j) (fun s => a.length - s.toNat) (fun o : Unit ⊕ Bool => (o = .inr false ∧ a ≠ b) ∨ (o = .inl () ∧ a = b)) (by
        rintro _ ⟨i, hi, rfl, hc⟩
        by_cases h2 : i < a.length
        · rw [if_pos (by omega), idx_co h2, Option.bind_some, idx_co (by omega), Option.bind_some]
          by_cases he : co a i = co b i
          · left; rw [if_pos he, wI_succ _ (by omega)]
            refine ⟨_, rfl, ⟨i + 1, by omega, rfl, fun j hj => ?_⟩, by simp only [Int.toNat_natCast]; omega⟩
            by_cases hji : j = i
            · rw [hji]; exact he
            · exact hc j (by omega)
          · right; rw [if_neg he]; exact ⟨_, rfl, .inl ⟨rfl, fun e => he (by rw [e])⟩⟩
        · right; rw [if_neg (by omega)]
          refine ⟨_, rfl, .inr ⟨rfl, eq_of_co hl fun j => ?_⟩⟩
          by_cases hj : j < i
          · exact hc j hj
          · simp only [co]; rw [List.getD_eq_getElem?_getD, List.getD_eq_getElem?_getD, List.getElem?_eq_none (by omega), List.getElem?_eq_none (by omega)]) 0 ⟨0, Nat.zero_le _, rfl, fun j hj => absurd hj (Nat.not_lt_zero _)⟩
    refine bind_of ho ?_
    rcases hp with ⟨rfl, hp⟩ | ⟨rfl, hp⟩
    · rw [decide_eq_false hp]; rfl
    · rw [decide_eq_true hp]; rfl
  · rw [if_neg (by omega), decide_eq_false (fun e => hl (by rw [e]))]
/-- What a check answers. -/
def Ck (root b : List UInt8) (i n : Nat) (way : List (List UInt8)) : Prop := ((Sd i n).length = way.length ∧ ∀ w ∈ way, w.length = 32) ∧ fo (itm b) ((Sd i n).zip way) = root
instance (root b : List UInt8) (i n : Nat) (way : List (List UInt8)) : Decidable (Ck root b i n way) := by unfold Ck; infer_instance
theorem Check_eq (root b : List UInt8) (i n : Nat) (way : List (List UInt8)) (hi : i < n) (hn : n ≤ 4000000000000) (hb : b.length ≤ 100) : tally_Check root b (i : Int) (n : Int) way = some (decide (Ck root b i n way)) := by
  have hm : (4000000000000 : Nat) ≤ most := by decide
  unfold tally_Check tally_sides
  rw [if_neg (by omega), if_neg (by omega), sides_n _ i n (by simp) hi hn, Option.bind_some]
  have hsl := Sd_len n i
  by_cases hl : (Sd i n).length = way.length
  · rw [if_pos (by omega), item_eq b (by omega), Option.bind_some]
    generalize hsd : Sd i n = sd at *
    obtain ⟨o, ho, hp⟩ := iterC_inv (body := fun s8 : List UInt8 × Int =>
      (if s8.2 < (sd.length : Int) then
      ((idx sd s8.2).bind fun c11 =>
      ((idx way s8.2).bind fun c12 =>
      (if (c12.length : Int) = 32 then
      (if c11 = true then
      ((idx way s8.2).bind fun c16 =>
      ((tally_both s8.1 c16).bind fun r18 =>
      some (.inl (r18, (wI (s8.2 + 1))))))
      else
      ((idx way s8.2).bind fun c20 =>
      ((tally_both c20 s8.1).bind fun r22 =>
      some (.inl (r22, (wI (s8.2 + 1)))))))
      else
      some (.inr (.inr false)))))
      else
      some (.inr (.inl s8.1)))) (fun s => ∃ k : Nat, k ≤ sd.length ∧ s.2 = (k : Int) ∧ s.1 = fo (itm b) ((sd.zip way).take k) ∧ ∀ j, j < k → (way.getD j []).length = 32) (fun s => sd.length - s.2.toNat)
      (fun o : List UInt8 ⊕ Bool => (o = .inr false ∧ ¬ ∀ w ∈ way, w.length = 32) ∨ (o = .inl (fo (itm b) (sd.zip way)) ∧ ∀ w ∈ way, w.length = 32)) (by
        rintro ⟨s, _⟩ ⟨k, hk, rfl, hs, hall⟩
        simp only at hs ⊢
        have h32 : s.length = 32 := by rw [hs]; exact fo_len _ (itm_len _) _
        by_cases h2 : k < sd.length
        · have hz : (sd.zip way).take (k + 1) = (sd.zip way).take k ++ [(sd[k], way.getD k [])] := by
            rw [List.take_add_one, List.getElem?_eq_getElem (by rw [List.length_zip]; omega), List.getElem_zip]
            simp [List.getD_eq_getElem?_getD, show k < way.length by omega]
          rw [if_pos (by omega), show idx sd (k : Int) = some sd[k] by rw [idx_nat, List.getElem?_eq_getElem h2], Option.bind_some, idx_getD (by omega), Option.bind_some]
          by_cases h3 : (way.getD k []).length = 32
          · left
            rw [if_pos (by omega), Option.bind_some, Option.bind_some, both_eq _ _ (by omega), Option.bind_some, both_eq _ _ (by omega), Option.bind_some, wI_succ _ (by omega)]
            refine ⟨(if sd[k] = true then bth s (way.getD k []) else bth (way.getD k []) s, ((k + 1 : Nat) : Int)), ?_, ⟨k + 1, by omega, rfl, ?_, fun j hj => ?_⟩, by simp only [Int.toNat_natCast]; omega⟩
            · split <;> rfl
            · simp only []; rw [hz, fo_snoc, ← hs]
            · by_cases hji : j = k
              · rw [hji]; exact h3
              · exact hall j (by omega)
          · right
            rw [if_neg (by omega)]
            exact ⟨_, rfl, .inl ⟨rfl, fun h => h3 (h _ (getD_mem (by omega)))⟩⟩
        · right
          rw [if_neg (by omega)]
          rw [List.take_of_length_le (by rw [List.length_zip]; omega)] at hs
          refine ⟨_, rfl, .inr ⟨by rw [hs], fun w hw => ?_⟩⟩
          obtain ⟨j, hj, rfl⟩ := mem_getD hw
          exact hall j (by omega)) (itm b, 0) ⟨0, Nat.zero_le _, rfl, rfl, fun j hj => absurd hj (Nat.not_lt_zero _)⟩
    refine bind_of ho ?_
    rcases hp with ⟨rfl, hp⟩ | ⟨rfl, hp⟩
    · rw [decide_eq_false (fun h : Ck root b i n way => hp h.1.2)]; rfl
    · simp only [Sum.elim_inl]
      rw [Equal_eq _ _ (by rw [fo_len _ (itm_len _)]; omega), Option.bind_some]
      congr 1
      rw [decide_eq_decide]
      unfold Ck
      rw [hsd]
      exact ⟨fun h => ⟨⟨hl, hp⟩, h⟩, fun h => h.2⟩
  · rw [if_neg (by omega), decide_eq_false (fun h : Ck root b i n way => hl h.1.1)]
theorem Check_bad (root b : List UInt8) (i n : Int) (way : List (List UInt8)) (h : i < 0 ∨ n ≤ i) : tally_Check root b i n way = some false := by
  unfold tally_Check
  by_cases h1 : i < 0
  · rw [if_pos h1]
  · rw [if_neg h1, if_pos (by omega)]
theorem Sd_ne {i n : Nat} (h : 2 ≤ n) : (Sd i n).length ≠ 0 := by
  rw [Sd, if_neg (by omega)]; split <;> simp
theorem root_n : ∀ (fu : Nat) (b : List UInt8) (i n : Nat) (way : List (List UInt8)), n < fu → i < n → n ≤ 4000000000000 → b.length ≤ 100 → way.length ≤ 1000 → (∀ w ∈ way, w.length ≤ 100) →
    ∃ R, ref32_Root_n fu b (i : Int) (n : Int) way = some (R, decide ((Sd i n).length = way.length ∧ ∀ w ∈ way, w.length = 32)) ∧ R.length ≤ 32 ∧ (((Sd i n).length = way.length ∧ ∀ w ∈ way, w.length = 32) → R = fo (itm b) ((Sd i n).zip way))
  | 0, b, i, n, way, h, _, _, _, _, _ => absurd h (Nat.not_lt_zero _)
  | fu + 1, b, i, n, way, h, hi, hn, hb, hwl, hw => by
    rw [ref32_Root_n]
    by_cases h1 : n = 1
    · subst h1
      have hs : Sd i 1 = [] := by rw [Sd, if_pos (by omega)]
      rw [if_pos (by rfl), Item_eq _ (by omega), Option.bind_some, hs]
      refine ⟨itm b, ?_, by rw [itm_len]; omega, fun _ => by simp [fo]⟩
      congr 2
      rw [decide_eq_decide]
      constructor
      · intro h
        have : way = [] := List.length_eq_zero_iff.1 (by omega)
        subst this; exact ⟨rfl, fun w hw => absurd hw List.not_mem_nil⟩
      · intro h; have := h.1; simp at this; omega
    · rw [if_neg (by omega)]
      have h2 : 2 ≤ n := by omega
      rcases List.eq_nil_or_concat way with rfl | ⟨way', last, rfl⟩
      · rw [if_pos (by rfl)]
        exact ⟨[], by rw [decide_eq_false (fun h => Sd_ne h2 h.1)], by simp, fun h => absurd h.1 (Sd_ne h2)⟩
      · rw [List.concat_eq_append] at *
        have hl : (way' ++ [last]).length = way'.length + 1 := by simp
        have hlast := hw last (by simp)
        have k1 := lf_lt (n := n) (by omega); have k2 := lf_pos n
        have e1 : idx (way' ++ [last]) ((way'.length : Nat) : Int) = some last := by rw [idx_nat]; simp
        have e2 : subL (way' ++ [last]) 0 ((way'.length : Nat) : Int) = some way' := by rw [subL_take _ _ (by omega)]; simp
        rw [if_neg (by omega), hl, wI_of (by omega) (by omega), show ((way'.length + 1 : Nat) : Int) - 1 = ((way'.length : Nat) : Int) by omega, e1, Option.bind_some, rleft_eq n h2 (by omega), Option.bind_some, e2]
        have all_iff : (∀ w ∈ way' ++ [last], w.length = 32) ↔ (∀ w ∈ way', w.length = 32) ∧ last.length = 32 := by simp [or_imp, forall_and]
        by_cases h3 : i < lf n
        · obtain ⟨R, r1, r2, r3⟩ := root_n fu b i (lf n) way' (by omega) h3 (by omega) hb (by omega) (fun w hw' => hw w (by simp [hw']))
          have hs : Sd i n = Sd i (lf n) ++ [true] := by rw [Sd, if_neg (by omega), if_pos h3]
          rw [if_pos (by omega), Option.bind_some, r1, Option.bind_some, Both_eq R last (by omega), Option.bind_some, hs, List.length_append, List.length_singleton]
          refine ⟨bth R last, ?_, by rw [bth_len]; omega, fun h => ?_⟩
          · by_cases hc : (Sd i (lf n)).length = way'.length ∧ ∀ w ∈ way', w.length = 32
            · rw [decide_eq_true hc, if_pos rfl]
              congr 2
              rw [decide_eq_decide, all_iff]
              exact ⟨fun h => ⟨by omega, hc.2, by omega⟩, fun h => by have := h.2.2; omega⟩
            · rw [decide_eq_false hc, if_neg (show ¬ (false = true) from Bool.noConfusion), decide_eq_false (fun h => hc ⟨by omega, (all_iff.1 h.2).1⟩)]
          · have hc := all_iff.1 h.2
            have hle : (Sd i (lf n)).length = way'.length := by omega
            rw [List.zip_append hle, r3 ⟨hle, hc.1⟩]
            simp only [List.zip_cons_cons, List.zip_nil_right]
            rw [fo_snoc, if_pos rfl]
        · obtain ⟨R, r1, r2, r3⟩ := root_n fu b (i - lf n) (n - lf n) way' (by omega) (by omega) (by omega) hb (by omega) (fun w hw' => hw w (by simp [hw']))
          have hs : Sd i n = Sd (i - lf n) (n - lf n) ++ [false] := by rw [Sd, if_neg (by omega), if_neg h3]
          rw [if_neg (by omega), Option.bind_some, wI_sub _ _ (by omega) (by omega), wI_sub _ _ (by omega) (by omega), r1, Option.bind_some, Both_eq last R (by omega), Option.bind_some, hs, List.length_append, List.length_singleton]
          refine ⟨bth last R, ?_, by rw [bth_len]; omega, fun h => ?_⟩
          · by_cases hc : (Sd (i - lf n) (n - lf n)).length = way'.length ∧ ∀ w ∈ way', w.length = 32
            · rw [decide_eq_true hc, if_pos rfl]
              congr 2
              rw [decide_eq_decide, all_iff]
              exact ⟨fun h => ⟨by omega, hc.2, by omega⟩, fun h => by have := h.2.2; omega⟩
            · rw [decide_eq_false hc, if_neg (show ¬ (false = true) from Bool.noConfusion), decide_eq_false (fun h => hc ⟨by omega, (all_iff.1 h.2).1⟩)]
          · have hc := all_iff.1 h.2
            have hle : (Sd (i - lf n) (n - lf n)).length = way'.length := by omega
            rw [List.zip_append hle, r3 ⟨hle, hc.1⟩]
            simp only [List.zip_cons_cons, List.zip_nil_right]
            rw [fo_snoc, if_neg (by decide)]
theorem T_two {l : List (List UInt8)} (h : 2 ≤ l.length) : T l = bth (T (l.take (lf l.length))) (T (l.drop (lf l.length))) := by
  conv => lhs; rw [T]
  rw [if_neg (by omega), if_neg (by omega)]
theorem T_single {l : List (List UInt8)} (h : l.length = 1) : T l = itm (l.getD 0 []) := by
  rw [T, if_neg (by omega), if_pos h]
theorem Wy_two {l : List (List UInt8)} (i : Nat) (h : 2 ≤ l.length) : Wy l i = if i < lf l.length then Wy (l.take (lf l.length)) i ++ [T (l.drop (lf l.length))] else Wy (l.drop (lf l.length)) (i - lf l.length) ++ [T (l.take (lf l.length))] := by
  conv => lhs; rw [Wy]
  rw [if_neg (by omega)]
theorem Sd_two {i n : Nat} (h : 2 ≤ n) : Sd i n = if i < lf n then Sd i (lf n) ++ [true] else Sd (i - lf n) (n - lf n) ++ [false] := by
  conv => lhs; rw [Sd]
  rw [if_neg (by omega)]
/-- An item's own way makes the root. -/
theorem own_way : ∀ (n : Nat) (l : List (List UInt8)) (i : Nat), l.length = n → i < n → fo (itm (l.getD i [])) ((Sd i n).zip (Wy l i)) = T l := by
  intro n
  induction n using Nat.strongRecOn with
  | ind n ih =>
    intro l i hl hi
    by_cases h2 : n < 2
    · have hw : Wy l i = [] := by rw [Wy, if_pos (by omega)]
      have hi0 : i = 0 := by omega
      subst hi0
      rw [T_single (by omega), hw, List.zip_nil_right]; rfl
    · have k1 := lf_lt (n := n) (by omega); have k2 := lf_pos n
      rw [T_two (by omega), Wy_two _ (by omega), Sd_two (by omega), hl]
      by_cases h3 : i < lf n
      · rw [if_pos h3, if_pos h3]
        have hlt : (l.take (lf n)).length = lf n := by simp only [List.length_take]; omega
        rw [List.zip_append (Wy_len (lf n) (l.take (lf n)) i hlt h3).1.symm]
        simp only [List.zip_cons_cons, List.zip_nil_right]
        rw [fo_snoc, if_pos rfl, ← ih (lf n) k1 (l.take (lf n)) i hlt h3]
        congr 3
        simp [List.getD_eq_getElem?_getD, List.getElem?_take, h3]
      · rw [if_neg h3, if_neg h3]
        have hlt : (l.drop (lf n)).length = n - lf n := by simp only [List.length_drop]; omega
        rw [List.zip_append (Wy_len (n - lf n) (l.drop (lf n)) (i - lf n) hlt (by omega)).1.symm]
        simp only [List.zip_cons_cons, List.zip_nil_right]
        rw [fo_snoc, if_neg (by decide), ← ih (n - lf n) (by omega) (l.drop (lf n)) (i - lf n) hlt (by omega)]
        congr 3
        simp only [List.getD_eq_getElem?_getD, List.getElem?_drop]
        rw [show lf n + (i - lf n) = i by omega]
theorem Ck_own (root : List UInt8) (l : List (List UInt8)) (k : Nat) (h : k < l.length) : Ck root (l.getD k []) k l.length (Wy l k) ↔ T l = root := by
  have hw := Wy_len _ l k rfl h
  unfold Ck
  rw [own_way _ l k rfl h]
  exact ⟨fun h => h.2, fun h => ⟨⟨hw.1.symm, hw.2.2⟩, h⟩⟩
theorem T_one : T [[]] = [110, 52, 11, 156, 255, 179, 122, 152, 156, 165, 68, 230, 187, 120, 10, 44, 120, 144, 29, 63, 179, 55, 56, 118, 133, 17, 163, 6, 23, 175, 160, 29] := by
  rw [T, if_neg (by decide), if_pos (by decide)]; decide +kernel
theorem lives32 : law32_lives = some true := by
  unfold law32_lives
  rw [Tree_eq _ ⟨by decide, by decide⟩, T_one]; decide
theorem few_eq (l : List (List UInt8)) : law32_few l = some (decide (l.length ≤ 20 ∧ ∀ b ∈ l, b.length ≤ 100)) := by
  unfold law32_few
  by_cases h20 : 20 < l.length
  · rw [if_pos (by omega), decide_eq_false (fun h => by omega)]
  · rw [if_neg (by omega)]
    obtain ⟨x, hx, p1, p2⟩ := iterC_find (X := Unit ⊕ Bool) (body := fun s2 : Int =>
      (if s2 < (l.length : Int) then
      ((idx l s2).bind fun c5 =>
      (if 100 < (c5.length : Int) then
      some (.inr (.inr false))
      else
      some (.inl (wI (s2 + 1)))))
      else
      some (.inr (.inl ())))) l.length (fun i => 100 < (l.getD i []).length) (.inr false) (.inl ())
      (fun i hi hb => by rw [if_pos (by omega), idx_getD hi, Option.bind_some, if_neg (by omega), wI_succ _ (by omega)])
      (fun i hi hb => by rw [if_pos (by omega), idx_getD hi, Option.bind_some, if_pos (by omega)]) (by rw [if_neg (by omega)])
    refine bind_of hx ?_
    by_cases hall : ∀ i, i < l.length → ¬ 100 < (l.getD i []).length
    · rw [p2 hall, decide_eq_true ⟨by omega, fun b hb => by obtain ⟨i, hi, rfl⟩ := mem_getD hb; have := hall i hi; omega⟩]; rfl
    · have : ∃ i, i < l.length ∧ 100 < (l.getD i []).length := by
        apply Classical.byContradiction; intro hn; exact hall fun i hi hb => hn ⟨i, hi, hb⟩
      rw [p1 this, decide_eq_false (fun h => by obtain ⟨i, hi, hb⟩ := this; have := h.2 _ (getD_mem hi); omega)]; rfl
theorem same_self (l : List (List UInt8)) (h : l.length ≤ 1000) : law32_same l l = some true := by
  unfold law32_same
  rw [if_pos rfl]
  refine bind_of (x := .inl ()) (iterC_count (fun i => (i : Int)) l.length _ rfl ?_ ?_) rfl
  · intro i hi; rw [if_pos (by omega), idx_getD hi, Option.bind_some, Option.bind_some, if_pos rfl, wI_succ _ (by omega)]
  · rw [if_neg (by omega)]
theorem few_short {l : List (List UInt8)} (h : l.length ≤ 20 ∧ ∀ b ∈ l, b.length ≤ 100) : Short l := ⟨by omega, h.2⟩
theorem law32_TallyTrees_true (l : List (List UInt8)) (i : Int) (lo : -9223372036854775808 ≤ i) (hi : i ≤ 9223372036854775807) : law32_TallyTrees l i = some true := by
  unfold law32_TallyTrees
  rw [lives32, Option.bind_some, if_neg (by decide), few_eq, Option.bind_some]
  by_cases hf : l.length ≤ 20 ∧ ∀ b ∈ l, b.length ≤ 100
  · have hs := few_short hf
    rw [decide_eq_true hf, if_neg (by decide), Tree_eq l hs, Option.bind_some, rTree_eq l hs, Option.bind_some, if_pos rfl]
    by_cases h0 : i < 0
    · unfold tally_Way
      rw [if_pos h0, Option.bind_some, if_pos h0]; rfl
    · by_cases h1 : (l.length : Int) ≤ i
      · unfold tally_Way
        rw [if_neg h0, if_pos h1, Option.bind_some, if_neg h0, if_pos h1]; rfl
      · obtain ⟨k, rfl⟩ : ∃ k : Nat, i = (k : Int) := ⟨i.toNat, by omega⟩
        have hk : k < l.length := by omega
        have hw := (Wy_len _ l k rfl hk).2.1
        rw [Way_ok l k hk hs, Option.bind_some, if_neg h0, if_neg h1, if_pos rfl]
        unfold ref32_Way
        rw [(way_n _ l k (by omega) hk hs).2, Option.bind_some, same_self (Wy l k) (by omega)]; rfl
  · rw [decide_eq_false hf, if_pos (by decide)]; rfl
theorem law32_TallyChecks_true (l : List (List UInt8)) (i n : Int) (root b : List UInt8) (way : List (List UInt8)) (lo0 : -9223372036854775808 ≤ i) (hi0 : i ≤ 9223372036854775807) (lo1 : -9223372036854775808 ≤ n) (hi1 : n ≤ 9223372036854775807) : law32_TallyChecks l i n root b way = some true := by
  unfold law32_TallyChecks
  have hm : (10000 : Nat) ≤ most := by decide
  rw [lives32, Option.bind_some, if_neg (by decide), few_eq, Option.bind_some]
  by_cases hf : l.length ≤ 20 ∧ ∀ b ∈ l, b.length ≤ 100
  · rw [decide_eq_true hf, if_neg (by decide), few_eq, Option.bind_some]
    by_cases hg : way.length ≤ 20 ∧ ∀ b ∈ way, b.length ≤ 100
    · rw [decide_eq_true hg, if_neg (by decide)]
      by_cases hb : 100 < (b.length : Int)
      · rw [if_pos hb]; rfl
      · rw [if_neg hb]
        have hs := few_short hf
        have hfirst : ∃ way2 : List (List UInt8), (((if 0 < (l.length : Int) then
            ((nz ((UInt64.ofInt ((l.length : Int))))).bind fun c21 =>
            ((tally_Way l (wI ((((UInt64.ofInt i) % (UInt64.ofInt ((l.length : Int))))).toNat : Int))).bind fun r22 =>
            ((idx l ((wI ((((UInt64.ofInt i) % (UInt64.ofInt ((l.length : Int))))).toNat : Int)))).bind fun c26 =>
            ((tally_Tree l).bind fun r28 =>
            ((tally_Check r28 c26 (wI ((((UInt64.ofInt i) % (UInt64.ofInt ((l.length : Int))))).toNat : Int)) (l.length : Int) r22.1).bind fun r30 =>
            (if (!r30) = true then
            some (.inr false)
            else
            ((tally_Check root c26 (wI ((((UInt64.ofInt i) % (UInt64.ofInt ((l.length : Int))))).toNat : Int)) (l.length : Int) r22.1).bind fun r34 =>
            ((tally_Tree l).bind fun r36 =>
            (if (!(r34 == ((decide (root = r36))))) = true then
            some (.inr false)
            else
            ((appL (([] : List (List UInt8))) way).bind fun c42 =>
            ((appL c42 r22.1).bind fun c45 =>
            some (.inl c45))))))))))))
            else
            some (.inl way))) : Option (List (List UInt8) ⊕ Bool)) = some (.inl way2) ∧ way2.length ≤ 1000 ∧ ∀ w ∈ way2, w.length ≤ 100 := by
          by_cases h0 : l.length = 0
          · rw [if_neg (by omega)]; exact ⟨way, rfl, by omega, hg.2⟩
          · have hln := small64' l.length (by omega)
            have hnz : nz (UInt64.ofInt (l.length : Int)) = some () := by
              unfold nz; rw [if_neg]; intro e; rw [e] at hln; exact h0 hln.symm
            rw [if_pos (by omega), hnz, Option.bind_some]
            have hk : (UInt64.ofInt i % UInt64.ofInt (l.length : Int)).toNat < l.length := by rw [UInt64.toNat_mod, hln]; exact Nat.mod_lt _ (by omega)
            generalize (UInt64.ofInt i % UInt64.ofInt (l.length : Int)).toNat = k at hk ⊢
            have hbk := hf.2 _ (getD_mem hk)
            obtain ⟨w1, w2, w3⟩ := Wy_len _ l k rfl hk
            rw [wI_of (by omega) (by omega), Way_ok l k hk hs, Option.bind_some, idx_getD hk, Option.bind_some, Tree_eq l hs, Option.bind_some]
            simp only []
            rw [Check_eq (T l) _ k l.length _ hk (by omega) hbk, decide_eq_true ((Ck_own _ l k hk).2 rfl), Option.bind_some, if_neg (by decide), Check_eq root _ k l.length _ hk (by omega) hbk, Option.bind_some, Option.bind_some]
            have : decide (Ck root (l.getD k []) k l.length (Wy l k)) = decide (root = T l) := by
              rw [decide_eq_decide, Ck_own _ l k hk]; exact eq_comm
            rw [this, if_neg (by simp)]
            unfold appL
            rw [if_pos (by simp only [List.length_nil]; omega), Option.bind_some, if_pos (by simp only [List.length_append, List.length_nil]; omega), Option.bind_some]
            refine ⟨_, rfl, by simp only [List.length_append, List.length_nil]; omega, fun w hw => ?_⟩
            rcases List.mem_append.1 hw with h | h
            · exact hg.2 w (by simpa using h)
            · have := w3 w h; omega
        obtain ⟨way2, e1, hl2, hw2⟩ := hfirst
        refine bind_of e1 ?_
        simp only [Sum.elim_inl]
        by_cases h0 : i < 0
        · rw [if_pos h0, Check_bad _ _ _ _ _ (.inl h0)]; rfl
        · rw [if_neg h0]
          by_cases h1 : n ≤ i
          · rw [if_pos h1, Check_bad _ _ _ _ _ (.inr h1)]; rfl
          · rw [if_neg h1]
            by_cases h2 : 1099511627776 < i
            · rw [if_pos h2]
            · rw [if_neg h2]
              have hmd : (UInt64.ofInt n % 1000).toNat < 1000 := by rw [UInt64.toNat_mod]; exact Nat.mod_lt _ (by decide)
              generalize (UInt64.ofInt n % 1000).toNat = q at hmd ⊢
              obtain ⟨k, rfl⟩ : ∃ k : Nat, i = (k : Int) := ⟨i.toNat, by omega⟩
              rw [wI_of (x := (k : Int) + 1) (by omega) (by omega), wI_of (x := (q : Int)) (by omega) (by omega), wI_of (by omega) (by omega), show (k : Int) + 1 + (q : Int) = ((k + 1 + q : Nat) : Int) by omega]
              obtain ⟨R, r1, r2, r3⟩ := root_n _ b k (k + 1 + q) way2 (Nat.lt_succ_self _) (by omega) (by omega) (by omega) hl2 hw2
              unfold ref32_Root
              rw [Int.toNat_natCast, r1, Option.bind_some, Check_eq root b k (k + 1 + q) way2 (by omega) (by omega) (by omega), Option.bind_some]
              by_cases hc : (Sd k (k + 1 + q)).length = way2.length ∧ ∀ w ∈ way2, w.length = 32
              · have hR := r3 hc
                rw [decide_eq_true hc]
                simp only [if_true]
                have c1 : decide (Ck root b k (k + 1 + q) way2) = decide (R = root) := by
                  rw [decide_eq_decide]; unfold Ck; rw [← hR]; exact ⟨fun h => h.2, fun h => ⟨hc, h⟩⟩
                rw [c1, if_pos (by simp), Check_eq R b k (k + 1 + q) way2 (by omega) (by omega) (by omega), Option.bind_some]
                rw [decide_eq_true (show Ck R b k (k + 1 + q) way2 from ⟨hc, hR.symm⟩)]; rfl
              · rw [decide_eq_false hc]
                simp only [Bool.false_eq_true, if_false]
                rw [decide_eq_false (show ¬ Ck root b k (k + 1 + q) way2 from fun h => hc h.1), if_pos (by rfl), Check_eq R b k (k + 1 + q) way2 (by omega) (by omega) (by omega), Option.bind_some,
                  decide_eq_false (show ¬ Ck R b k (k + 1 + q) way2 from fun h => hc h.1)]; rfl
    · rw [decide_eq_false hg, if_pos (by decide)]; rfl
  · rw [decide_eq_false hf, if_pos (by decide)]; rfl
end Gk

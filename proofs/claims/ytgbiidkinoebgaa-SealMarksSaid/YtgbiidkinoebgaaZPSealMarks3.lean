/- Parts F7, one behind the other. What is proved: said at the head of each part. No condition beside those said there. -/
import Derived.Test.YtgbiidkinoebgaaRows
import Derived.Orders
import Derived.Deep.Draws
import Derived.Laws.World
import Derived.KernelRfl
import Derived.OrdersIn
import Derived.TacticsIn
import Derived.RangeFuncCalls
import Derived.Deep.LoopGhost
import Derived.Tactics
import Derived.Sort.LoopGhostIn
import Derived.RangeFuncLeaves
import Derived.RangeFuncNested
import Derived.RangeFuncRecord
import Derived.Laws.Sem
import Derived.OwnWalk
import Derived.RangeFuncWrites
import Derived.Laws.IdiomCopy
import Derived.WalkKit
import Derived.ProofKit
import Derived.OpenShut
import Derived.ChangeOld
import Derived.Below
import Derived.Test.YtgbiidkinoebgaaProg
import Derived.MapKept
import Derived.Lib.AppendZerosOnto
import Derived.Laws.CopyRow
import Derived.Laws.Cells
import Derived.Lib.SlBytesConst
import Derived.Lib.MakeNoZero
import Derived.Laws.Externs
import Derived.Test.YtgbiidkinoebgaaZPSealMarks1
import Derived.Test.YtgbiidkinoebgaaZPSealMarks2
/- Printed by gen.py: for each Go function a pure function, and that the Go code comes to it. No condition beside the equation that says what the pure function gives. -/




set_option linter.unusedVariables false
set_option linter.unusedSimpArgs false
namespace Gk
open Go Go.Proofs

/-! largesse/word.Bits[uint32] -/
noncomputable def word_Bits_uint32  : Option Int :=
((iterC (fun s1 : Int × UInt32 =>
(if s1.2 = (0 : UInt32) then some (.inr s1.1)
else some (.inl ((wI (s1.1 + 1)), (shr32 s1.2 1))))) (0, ((4294967295 : UInt32) ^^^ (UInt32.ofInt 0)))).bind fun x1 => some x1)
set_option maxRecDepth 100000 in
set_option maxHeartbeats 8000000 in
theorem word_Bits_uint32_calls  (r : Int) (w0 : World) (H : word_Bits_uint32 = some r) :
    Calls Try.prog 80 [].toArray w0 (fun e w' => e = .returned (i64 r) ∧ Ext w0 w') := by
  have hE : Ext w0 w0 := Ext.refl w0
  unfold word_Bits_uint32 at H
  refine calls_W (n := 12) Try.func80 rfl rfl rfl ?_
  refine W_seq ?_
  refine W_reg (by kernel_rfl) ?_
  refine wla rfl rfl (q_assign (v := (i64 0)) rfl rfl) ?_
  refine wl_nil ?_
  refine W_th ?_
  refine W_seq ?_
  refine W_reg (by kernel_rfl) ?_
  refine wla rfl rfl (q_assign (v := (i64 0)) rfl rfl) ?_
  refine wl_nil ?_
  refine W_th ?_
  refine W_seq ?_
  refine W_seq ?_
  refine W_reg (by kernel_rfl) ?_
  refine wla rfl rfl (q_cvt32I rfl rfl rfl rfl) ?_
  refine wla rfl rfl (q_not32 rfl rfl) ?_
  refine wla rfl rfl (q_assign (v := (u32 (((4294967295 : UInt32) ^^^ (UInt32.ofInt 0))))) rfl rfl) ?_
  refine wl_nil ?_
  refine W_th ?_
  obtain ⟨x1, G1, H⟩ := Option.bind_eq_some_iff.1 H
  refine W_mid (fun f w => f 1 = (i64 x1) ∧ f 12 = undef ∧ Ext w0 w) ?_ ?_
  · refine W_block ?_
    refine W_loop (fun s1 f w => f 1 = (i64 s1.1) ∧ f 2 = (u32 s1.2) ∧ f 12 = undef ∧ Ext w0 w) G1 ?_ ?_
    · exact ⟨rfl, rfl, rfl, hE⟩
    · rintro s1 _ _ w2 ⟨s1_2, s2_2, s12_2, hE2⟩ H1 hr1
      refine W_seq ?_
      refine W_seq ?_
      refine W_reg (by kernel_rfl) ?_
      refine wla rfl rfl (q_move (v := (u32 s1.2)) rfl s2_2) ?_
      refine wla rfl rfl (q_ne32 rfl rfl (cst32 (0 : UInt32) rfl)) ?_
      refine wl_nil ?_
      refine W_th ?_
      refine W_cond _ rfl rfl (fun hb3 => ?_) (fun hb3 => ?_)
      · replace H1 := (if_neg (ndec_t hb3)).symm.trans H1
        refine W_skip ?_
        refine W_th ?_
        refine W_seq ?_
        refine W_block ?_
        refine W_reg (by kernel_rfl) ?_
        refine wla rfl rfl (q_move (v := (i64 s1.1)) rfl s1_2) ?_
        refine wla rfl rfl (q_addI rfl rfl rfl) ?_
        refine wla rfl rfl (q_assign (v := (i64 ((wI (s1.1 + 1))))) rfl rfl) ?_
        refine wl_nil ?_
        refine bk_n ?_
        refine W_th ?_
        refine W_reg (by kernel_rfl) ?_
        refine wla rfl rfl (q_move (v := (u32 s1.2)) rfl s2_2) ?_
        refine wla rfl rfl (q_shr32 1 rfl rfl rfl rfl) ?_
        refine wla rfl rfl (q_assign (v := (u32 ((shr32 s1.2 1)))) rfl rfl) ?_
        refine wl_nil ?_
        obtain rfl := Option.some.inj H1
        exact ⟨_, rfl, rfl, rfl, s12_2, hE2⟩
      · replace H1 := (if_pos (ndec_f hb3)).symm.trans H1
        refine W_exit ?_
        refine th_x ?_
        obtain rfl := Option.some.inj H1
        obtain rfl := hr1 _ rfl
        refine th_x ?_
        refine bk_x ?_
        exact ⟨s1_2, s12_2, hE2⟩
  · rintro _ w5 ⟨s1_5, s12_5, hE5⟩
    refine W_th ?_
    refine W_seq ?_
    refine W_reg (by kernel_rfl) ?_
    refine wla rfl rfl (q_move (v := (i64 x1)) rfl s1_5) ?_
    refine wla rfl rfl (q_assign (v := (i64 x1)) rfl rfl) ?_
    refine wl_nil ?_
    refine W_th ?_
    refine W_ret ?_
    obtain rfl := Option.some.inj H
    refine rt1 (i64 x1) rfl rfl rfl s12_5 ?_
    exact ⟨rfl, hE5⟩

/-! largesse/word.Bits[uint64] -/
noncomputable def word_Bits_uint64  : Option Int :=
((iterC (fun s1 : Int × UInt64 =>
(if s1.2 = (0 : UInt64) then some (.inr s1.1)
else some (.inl ((wI (s1.1 + 1)), (shr64 s1.2 1))))) (0, ((18446744073709551615 : UInt64) ^^^ (UInt64.ofInt 0)))).bind fun x1 => some x1)
set_option maxRecDepth 100000 in
set_option maxHeartbeats 8000000 in
theorem word_Bits_uint64_calls  (r : Int) (w0 : World) (H : word_Bits_uint64 = some r) :
    Calls Try.prog 64 [].toArray w0 (fun e w' => e = .returned (i64 r) ∧ Ext w0 w') := by
  have hE : Ext w0 w0 := Ext.refl w0
  unfold word_Bits_uint64 at H
  refine calls_W (n := 12) Try.func64 rfl rfl rfl ?_
  refine W_seq ?_
  refine W_reg (by kernel_rfl) ?_
  refine wla rfl rfl (q_assign (v := (i64 0)) rfl rfl) ?_
  refine wl_nil ?_
  refine W_th ?_
  refine W_seq ?_
  refine W_reg (by kernel_rfl) ?_
  refine wla rfl rfl (q_assign (v := (i64 0)) rfl rfl) ?_
  refine wl_nil ?_
  refine W_th ?_
  refine W_seq ?_
  refine W_seq ?_
  refine W_reg (by kernel_rfl) ?_
  refine wla rfl rfl (q_cvt64I rfl rfl rfl rfl) ?_
  refine wla rfl rfl (q_not64 rfl rfl) ?_
  refine wla rfl rfl (q_assign (v := (u64 (((18446744073709551615 : UInt64) ^^^ (UInt64.ofInt 0))))) rfl rfl) ?_
  refine wl_nil ?_
  refine W_th ?_
  obtain ⟨x1, G1, H⟩ := Option.bind_eq_some_iff.1 H
  refine W_mid (fun f w => f 1 = (i64 x1) ∧ f 12 = undef ∧ Ext w0 w) ?_ ?_
  · refine W_block ?_
    refine W_loop (fun s1 f w => f 1 = (i64 s1.1) ∧ f 2 = (u64 s1.2) ∧ f 12 = undef ∧ Ext w0 w) G1 ?_ ?_
    · exact ⟨rfl, rfl, rfl, hE⟩
    · rintro s1 _ _ w2 ⟨s1_2, s2_2, s12_2, hE2⟩ H1 hr1
      refine W_seq ?_
      refine W_seq ?_
      refine W_reg (by kernel_rfl) ?_
      refine wla rfl rfl (q_move (v := (u64 s1.2)) rfl s2_2) ?_
      refine wla rfl rfl (q_ne64 rfl rfl (cst64 (0 : UInt64) rfl)) ?_
      refine wl_nil ?_
      refine W_th ?_
      refine W_cond _ rfl rfl (fun hb3 => ?_) (fun hb3 => ?_)
      · replace H1 := (if_neg (ndec_t hb3)).symm.trans H1
        refine W_skip ?_
        refine W_th ?_
        refine W_seq ?_
        refine W_block ?_
        refine W_reg (by kernel_rfl) ?_
        refine wla rfl rfl (q_move (v := (i64 s1.1)) rfl s1_2) ?_
        refine wla rfl rfl (q_addI rfl rfl rfl) ?_
        refine wla rfl rfl (q_assign (v := (i64 ((wI (s1.1 + 1))))) rfl rfl) ?_
        refine wl_nil ?_
        refine bk_n ?_
        refine W_th ?_
        refine W_reg (by kernel_rfl) ?_
        refine wla rfl rfl (q_move (v := (u64 s1.2)) rfl s2_2) ?_
        refine wla rfl rfl (q_shr64 1 rfl rfl rfl rfl) ?_
        refine wla rfl rfl (q_assign (v := (u64 ((shr64 s1.2 1)))) rfl rfl) ?_
        refine wl_nil ?_
        obtain rfl := Option.some.inj H1
        exact ⟨_, rfl, rfl, rfl, s12_2, hE2⟩
      · replace H1 := (if_pos (ndec_f hb3)).symm.trans H1
        refine W_exit ?_
        refine th_x ?_
        obtain rfl := Option.some.inj H1
        obtain rfl := hr1 _ rfl
        refine th_x ?_
        refine bk_x ?_
        exact ⟨s1_2, s12_2, hE2⟩
  · rintro _ w5 ⟨s1_5, s12_5, hE5⟩
    refine W_th ?_
    refine W_seq ?_
    refine W_reg (by kernel_rfl) ?_
    refine wla rfl rfl (q_move (v := (i64 x1)) rfl s1_5) ?_
    refine wla rfl rfl (q_assign (v := (i64 x1)) rfl rfl) ?_
    refine wl_nil ?_
    refine W_th ?_
    refine W_ret ?_
    obtain rfl := Option.some.inj H
    refine rt1 (i64 x1) rfl rfl rfl s12_5 ?_
    exact ⟨rfl, hE5⟩

/-! largesse/word.Bits[byte] -/
noncomputable def word_Bits_byte  : Option Int :=
((iterC (fun s1 : Int × UInt8 =>
(if s1.2 = (0 : UInt8) then some (.inr s1.1)
else some (.inl ((wI (s1.1 + 1)), (shr8 s1.2 1))))) (0, ((255 : UInt8) ^^^ (UInt8.ofInt 0)))).bind fun x1 => some x1)
set_option maxRecDepth 100000 in
set_option maxHeartbeats 8000000 in
theorem word_Bits_byte_calls  (r : Int) (w0 : World) (H : word_Bits_byte = some r) :
    Calls Try.prog 84 [].toArray w0 (fun e w' => e = .returned (i64 r) ∧ Ext w0 w') := by
  have hE : Ext w0 w0 := Ext.refl w0
  unfold word_Bits_byte at H
  refine calls_W (n := 12) Try.func84 rfl rfl rfl ?_
  refine W_seq ?_
  refine W_reg (by kernel_rfl) ?_
  refine wla rfl rfl (q_assign (v := (i64 0)) rfl rfl) ?_
  refine wl_nil ?_
  refine W_th ?_
  refine W_seq ?_
  refine W_reg (by kernel_rfl) ?_
  refine wla rfl rfl (q_assign (v := (i64 0)) rfl rfl) ?_
  refine wl_nil ?_
  refine W_th ?_
  refine W_seq ?_
  refine W_seq ?_
  refine W_reg (by kernel_rfl) ?_
  refine wla rfl rfl (q_cvt8I rfl rfl rfl rfl) ?_
  refine wla rfl rfl (q_not8 rfl rfl) ?_
  refine wla rfl rfl (q_assign (v := (u8 (((255 : UInt8) ^^^ (UInt8.ofInt 0))))) rfl rfl) ?_
  refine wl_nil ?_
  refine W_th ?_
  obtain ⟨x1, G1, H⟩ := Option.bind_eq_some_iff.1 H
  refine W_mid (fun f w => f 1 = (i64 x1) ∧ f 12 = undef ∧ Ext w0 w) ?_ ?_
  · refine W_block ?_
    refine W_loop (fun s1 f w => f 1 = (i64 s1.1) ∧ f 2 = (u8 s1.2) ∧ f 12 = undef ∧ Ext w0 w) G1 ?_ ?_
    · exact ⟨rfl, rfl, rfl, hE⟩
    · rintro s1 _ _ w2 ⟨s1_2, s2_2, s12_2, hE2⟩ H1 hr1
      refine W_seq ?_
      refine W_seq ?_
      refine W_reg (by kernel_rfl) ?_
      refine wla rfl rfl (q_move (v := (u8 s1.2)) rfl s2_2) ?_
      refine wla rfl rfl (q_ne8 rfl rfl (cst8 (0 : UInt8) rfl)) ?_
      refine wl_nil ?_
      refine W_th ?_
      refine W_cond _ rfl rfl (fun hb3 => ?_) (fun hb3 => ?_)
      · replace H1 := (if_neg (ndec_t hb3)).symm.trans H1
        refine W_skip ?_
        refine W_th ?_
        refine W_seq ?_
        refine W_block ?_
        refine W_reg (by kernel_rfl) ?_
        refine wla rfl rfl (q_move (v := (i64 s1.1)) rfl s1_2) ?_
        refine wla rfl rfl (q_addI rfl rfl rfl) ?_
        refine wla rfl rfl (q_assign (v := (i64 ((wI (s1.1 + 1))))) rfl rfl) ?_
        refine wl_nil ?_
        refine bk_n ?_
        refine W_th ?_
        refine W_reg (by kernel_rfl) ?_
        refine wla rfl rfl (q_move (v := (u8 s1.2)) rfl s2_2) ?_
        refine wla rfl rfl (q_shr8 1 rfl rfl rfl rfl) ?_
        refine wla rfl rfl (q_assign (v := (u8 ((shr8 s1.2 1)))) rfl rfl) ?_
        refine wl_nil ?_
        obtain rfl := Option.some.inj H1
        exact ⟨_, rfl, rfl, rfl, s12_2, hE2⟩
      · replace H1 := (if_pos (ndec_f hb3)).symm.trans H1
        refine W_exit ?_
        refine th_x ?_
        obtain rfl := Option.some.inj H1
        obtain rfl := hr1 _ rfl
        refine th_x ?_
        refine bk_x ?_
        exact ⟨s1_2, s12_2, hE2⟩
  · rintro _ w5 ⟨s1_5, s12_5, hE5⟩
    refine W_th ?_
    refine W_seq ?_
    refine W_reg (by kernel_rfl) ?_
    refine wla rfl rfl (q_move (v := (i64 x1)) rfl s1_5) ?_
    refine wla rfl rfl (q_assign (v := (i64 x1)) rfl rfl) ?_
    refine wl_nil ?_
    refine W_th ?_
    refine W_ret ?_
    obtain rfl := Option.some.inj H
    refine rt1 (i64 x1) rfl rfl rfl s12_5 ?_
    exact ⟨rfl, hE5⟩

/-! largesse/word.Turn[uint32] -/
noncomputable def word_Turn_uint32 (a0x : UInt32) (a1n : Int) : Option UInt32 :=
((word_Bits_uint32 ).bind fun r1 =>
((remI a1n r1).bind fun c3 =>
((remI ((wI (c3 + r1))) r1).bind fun c4 =>
(if c4 = 0 then some a0x
else
((cnt c4).bind fun c8 =>
((cnt ((wI (r1 - c4)))).bind fun c9 => some ((shl32 a0x c8) ||| (shr32 a0x c9))))))))
set_option maxRecDepth 100000 in
set_option maxHeartbeats 8000000 in
theorem word_Turn_uint32_calls (a0x : UInt32) (a1n : Int) (r : UInt32) (w0 : World) (H : word_Turn_uint32 a0x a1n = some r) :
    Calls Try.prog 86 [(u32 a0x), (i64 a1n)].toArray w0 (fun e w' => e = .returned (u32 r) ∧ Ext w0 w') := by
  have hE : Ext w0 w0 := Ext.refl w0
  unfold word_Turn_uint32 at H
  refine calls_W (n := 26) Try.func86 rfl rfl rfl ?_
  refine W_seq ?_
  refine W_reg (by kernel_rfl) ?_
  refine wla rfl rfl (q_assign (v := (u32 0)) rfl (cst32 (0 : UInt32) rfl)) ?_
  refine wl_nil ?_
  refine W_th ?_
  refine W_seq ?_
  refine W_reg (by kernel_rfl) ?_
  obtain ⟨r1, hr1, H⟩ := Option.bind_eq_some_iff.1 H
  refine wls rfl rfl (stp_call (vs := []) Try.func80 rfl rfl rfl (ar0 ) (word_Bits_uint32_calls   r1 _  hr1) ?_)
  rintro _ w1 ⟨rfl, x1⟩
  refine ⟨_, rfl, ?_⟩
  have e2 := hE.trans x1
  refine wla rfl rfl (q_assign (v := (i64 r1)) rfl rfl) ?_
  refine wl_nil ?_
  refine W_th ?_
  refine W_seq ?_
  refine W_reg (by kernel_rfl) ?_
  refine wla rfl rfl (q_move (v := (i64 a1n)) rfl rfl) ?_
  refine wla rfl rfl (q_move (v := (i64 r1)) rfl rfl) ?_
  obtain ⟨c3, hc3, H⟩ := Option.bind_eq_some_iff.1 H
  refine wla rfl rfl (q_remI rfl rfl rfl hc3) ?_
  refine wla rfl rfl (q_move (v := (i64 r1)) rfl rfl) ?_
  refine wla rfl rfl (q_addI rfl rfl rfl) ?_
  refine wla rfl rfl (q_move (v := (i64 r1)) rfl rfl) ?_
  obtain ⟨c4, hc4, H⟩ := Option.bind_eq_some_iff.1 H
  refine wla rfl rfl (q_remI rfl rfl rfl hc4) ?_
  refine wla rfl rfl (q_assign (v := (i64 c4)) rfl rfl) ?_
  refine wl_nil ?_
  refine W_th ?_
  refine W_seq ?_
  refine W_seq ?_
  refine W_reg (by kernel_rfl) ?_
  refine wla rfl rfl (q_move (v := (i64 c4)) rfl rfl) ?_
  refine wla rfl rfl (q_eqI rfl rfl rfl) ?_
  refine wl_nil ?_
  refine W_th ?_
  refine W_cond _ rfl rfl (fun hb5 => ?_) (fun hb5 => ?_)
  · replace H := (if_pos (of_decide_eq_true hb5)).symm.trans H
    refine W_seq ?_
    refine W_reg (by kernel_rfl) ?_
    refine wla rfl rfl (q_move (v := (u32 a0x)) rfl rfl) ?_
    refine wla rfl rfl (q_assign (v := (u32 a0x)) rfl rfl) ?_
    refine wl_nil ?_
    refine W_th ?_
    refine W_ret ?_
    refine th_r ?_
    obtain rfl := Option.some.inj H
    refine rt1 (u32 a0x) rfl rfl rfl rfl ?_
    exact ⟨rfl, e2⟩
  · replace H := (if_neg (of_decide_eq_false hb5)).symm.trans H
    refine W_skip ?_
    refine W_th ?_
    refine W_seq ?_
    refine W_draw [] [(0, 0), (1, 0), (2, 0), (3, 0), (4, 0), (5, 0), (6, 0), (7, 0), (8, 0), (9, 0)] mixed (by kernel_rfl) (by kernel_rfl) (by kernel_rfl) (by kernel_rfl) ?_
    have x6 := Ext.drew w1
    have e7 := e2.trans x6
    refine wsa rfl rfl rfl (q_move (v := (u32 a0x)) rfl rfl) ?_
    refine wsa rfl rfl rfl (q_move (v := (i64 c4)) rfl rfl) ?_
    obtain ⟨c8, hc8, H⟩ := Option.bind_eq_some_iff.1 H
    refine wsa rfl rfl rfl (q_shl32 c8 rfl rfl rfl (cnt_eq hc8)) ?_
    refine wsa rfl rfl rfl (q_move (v := (u32 a0x)) rfl rfl) ?_
    refine wsa rfl rfl rfl (q_move (v := (i64 r1)) rfl rfl) ?_
    refine wsa rfl rfl rfl (q_move (v := (i64 c4)) rfl rfl) ?_
    refine wsa rfl rfl rfl (q_subI rfl rfl rfl) ?_
    obtain ⟨c9, hc9, H⟩ := Option.bind_eq_some_iff.1 H
    refine wsa rfl rfl rfl (q_shr32 c9 rfl rfl rfl (cnt_eq hc9)) ?_
    refine wsa rfl rfl rfl (q_or32 rfl rfl rfl) ?_
    refine wsa rfl rfl rfl (q_assign (v := (u32 (((shl32 a0x c8) ||| (shr32 a0x c9))))) rfl rfl) ?_
    refine ws_nil ?_
    refine W_th ?_
    refine W_ret ?_
    obtain rfl := Option.some.inj H
    refine rt1 (u32 (((shl32 a0x c8) ||| (shr32 a0x c9)))) rfl rfl rfl rfl ?_
    exact ⟨rfl, e7⟩

/-! largesse/word.Turn[byte] -/
noncomputable def word_Turn_byte (a0x : UInt8) (a1n : Int) : Option UInt8 :=
((word_Bits_byte ).bind fun r1 =>
((remI a1n r1).bind fun c3 =>
((remI ((wI (c3 + r1))) r1).bind fun c4 =>
(if c4 = 0 then some a0x
else
((cnt c4).bind fun c8 =>
((cnt ((wI (r1 - c4)))).bind fun c9 => some ((shl8 a0x c8) ||| (shr8 a0x c9))))))))
set_option maxRecDepth 100000 in
set_option maxHeartbeats 8000000 in
theorem word_Turn_byte_calls (a0x : UInt8) (a1n : Int) (r : UInt8) (w0 : World) (H : word_Turn_byte a0x a1n = some r) :
    Calls Try.prog 74 [(u8 a0x), (i64 a1n)].toArray w0 (fun e w' => e = .returned (u8 r) ∧ Ext w0 w') := by
  have hE : Ext w0 w0 := Ext.refl w0
  unfold word_Turn_byte at H
  refine calls_W (n := 26) Try.func74 rfl rfl rfl ?_
  refine W_seq ?_
  refine W_reg (by kernel_rfl) ?_
  refine wla rfl rfl (q_assign (v := (u8 0)) rfl (cst8 (0 : UInt8) rfl)) ?_
  refine wl_nil ?_
  refine W_th ?_
  refine W_seq ?_
  refine W_reg (by kernel_rfl) ?_
  obtain ⟨r1, hr1, H⟩ := Option.bind_eq_some_iff.1 H
  refine wls rfl rfl (stp_call (vs := []) Try.func84 rfl rfl rfl (ar0 ) (word_Bits_byte_calls   r1 _  hr1) ?_)
  rintro _ w1 ⟨rfl, x1⟩
  refine ⟨_, rfl, ?_⟩
  have e2 := hE.trans x1
  refine wla rfl rfl (q_assign (v := (i64 r1)) rfl rfl) ?_
  refine wl_nil ?_
  refine W_th ?_
  refine W_seq ?_
  refine W_reg (by kernel_rfl) ?_
  refine wla rfl rfl (q_move (v := (i64 a1n)) rfl rfl) ?_
  refine wla rfl rfl (q_move (v := (i64 r1)) rfl rfl) ?_
  obtain ⟨c3, hc3, H⟩ := Option.bind_eq_some_iff.1 H
  refine wla rfl rfl (q_remI rfl rfl rfl hc3) ?_
  refine wla rfl rfl (q_move (v := (i64 r1)) rfl rfl) ?_
  refine wla rfl rfl (q_addI rfl rfl rfl) ?_
  refine wla rfl rfl (q_move (v := (i64 r1)) rfl rfl) ?_
  obtain ⟨c4, hc4, H⟩ := Option.bind_eq_some_iff.1 H
  refine wla rfl rfl (q_remI rfl rfl rfl hc4) ?_
  refine wla rfl rfl (q_assign (v := (i64 c4)) rfl rfl) ?_
  refine wl_nil ?_
  refine W_th ?_
  refine W_seq ?_
  refine W_seq ?_
  refine W_reg (by kernel_rfl) ?_
  refine wla rfl rfl (q_move (v := (i64 c4)) rfl rfl) ?_
  refine wla rfl rfl (q_eqI rfl rfl rfl) ?_
  refine wl_nil ?_
  refine W_th ?_
  refine W_cond _ rfl rfl (fun hb5 => ?_) (fun hb5 => ?_)
  · replace H := (if_pos (of_decide_eq_true hb5)).symm.trans H
    refine W_seq ?_
    refine W_reg (by kernel_rfl) ?_
    refine wla rfl rfl (q_move (v := (u8 a0x)) rfl rfl) ?_
    refine wla rfl rfl (q_assign (v := (u8 a0x)) rfl rfl) ?_
    refine wl_nil ?_
    refine W_th ?_
    refine W_ret ?_
    refine th_r ?_
    obtain rfl := Option.some.inj H
    refine rt1 (u8 a0x) rfl rfl rfl rfl ?_
    exact ⟨rfl, e2⟩
  · replace H := (if_neg (of_decide_eq_false hb5)).symm.trans H
    refine W_skip ?_
    refine W_th ?_
    refine W_seq ?_
    refine W_draw [] [(0, 0), (1, 0), (2, 0), (3, 0), (4, 0), (5, 0), (6, 0), (7, 0), (8, 0), (9, 0)] mixed (by kernel_rfl) (by kernel_rfl) (by kernel_rfl) (by kernel_rfl) ?_
    have x6 := Ext.drew w1
    have e7 := e2.trans x6
    refine wsa rfl rfl rfl (q_move (v := (u8 a0x)) rfl rfl) ?_
    refine wsa rfl rfl rfl (q_move (v := (i64 c4)) rfl rfl) ?_
    obtain ⟨c8, hc8, H⟩ := Option.bind_eq_some_iff.1 H
    refine wsa rfl rfl rfl (q_shl8 c8 rfl rfl rfl (cnt_eq hc8)) ?_
    refine wsa rfl rfl rfl (q_move (v := (u8 a0x)) rfl rfl) ?_
    refine wsa rfl rfl rfl (q_move (v := (i64 r1)) rfl rfl) ?_
    refine wsa rfl rfl rfl (q_move (v := (i64 c4)) rfl rfl) ?_
    refine wsa rfl rfl rfl (q_subI rfl rfl rfl) ?_
    obtain ⟨c9, hc9, H⟩ := Option.bind_eq_some_iff.1 H
    refine wsa rfl rfl rfl (q_shr8 c9 rfl rfl rfl (cnt_eq hc9)) ?_
    refine wsa rfl rfl rfl (q_or8 rfl rfl rfl) ?_
    refine wsa rfl rfl rfl (q_assign (v := (u8 (((shl8 a0x c8) ||| (shr8 a0x c9))))) rfl rfl) ?_
    refine ws_nil ?_
    refine W_th ?_
    refine W_ret ?_
    obtain rfl := Option.some.inj H
    refine rt1 (u8 (((shl8 a0x c8) ||| (shr8 a0x c9)))) rfl rfl rfl rfl ?_
    exact ⟨rfl, e7⟩

/-! largesse/word.Get[uint32] -/
noncomputable def word_Get_uint32 (a0b : List UInt8) : Option (UInt32 × Bool) :=
((word_Bits_uint32 ).bind fun r1 =>
((divI r1 8).bind fun c3 =>
(if (a0b.length : Int) < c3 then some ((0 : UInt32), false)
else
((subL a0b 0 c3).bind fun c5 =>
((iterC (fun s6 : UInt64 × Int =>
(if s6.2 < (c5.length : Int) then
((idx c5 s6.2).bind fun c9 => some (.inl (((shl64 s6.1 8) ||| (c9.toUInt64)), (wI (s6.2 + 1)))))
else some (.inr s6.1))) ((0 : UInt64), 0)).bind fun x6 => some ((x6.toUInt32), true))))))
set_option maxRecDepth 100000 in
set_option maxHeartbeats 8000000 in
theorem word_Get_uint32_calls (a0b : List UInt8) (p0 : Value) (r : UInt32 × Bool) (w0 : World) (hp0 : By w0 [] p0 a0b) (H : word_Get_uint32 a0b = some r) :
    Calls Try.prog 85 [p0].toArray w0 (fun e w' => e = .returned (.tuple #[(u32 r.1), (.bool r.2)]) ∧ Ext w0 w') := by
  have hE : Ext w0 w0 := Ext.refl w0
  unfold word_Get_uint32 at H
  refine calls_W (n := 30) Try.func85 rfl rfl rfl ?_
  refine W_seq ?_
  refine W_reg (by kernel_rfl) ?_
  refine wla rfl rfl (q_assign (v := (u32 0)) rfl (cst32 (0 : UInt32) rfl)) ?_
  refine wla rfl rfl (q_assign (v := (.bool false)) rfl rfl) ?_
  refine wl_nil ?_
  refine W_th ?_
  refine W_seq ?_
  refine W_reg (by kernel_rfl) ?_
  obtain ⟨r1, hr1, H⟩ := Option.bind_eq_some_iff.1 H
  refine wls rfl rfl (stp_call (vs := []) Try.func80 rfl rfl rfl (ar0 ) (word_Bits_uint32_calls   r1 _  hr1) ?_)
  rintro _ w1 ⟨rfl, x1⟩
  refine ⟨_, rfl, ?_⟩
  have e2 := hE.trans x1
  obtain ⟨c3, hc3, H⟩ := Option.bind_eq_some_iff.1 H
  refine wla rfl rfl (q_divI rfl rfl rfl hc3) ?_
  refine wla rfl rfl (q_assign (v := (i64 c3)) rfl rfl) ?_
  refine wl_nil ?_
  refine W_th ?_
  refine W_seq ?_
  refine W_seq ?_
  refine W_reg (by kernel_rfl) ?_
  refine wla rfl rfl (q_move (v := p0) rfl rfl) ?_
  refine wla rfl rfl (q_len rfl T22.sl rfl (hp0.lift (Lift.ext e2 _))) ?_
  refine wla rfl rfl (q_move (v := (i64 c3)) rfl rfl) ?_
  refine wla rfl rfl (q_ltI rfl rfl rfl) ?_
  refine wl_nil ?_
  refine W_th ?_
  refine W_cond _ rfl rfl (fun hb4 => ?_) (fun hb4 => ?_)
  · replace H := (if_pos (of_decide_eq_true hb4)).symm.trans H
    refine W_seq ?_
    refine W_reg (by kernel_rfl) ?_
    refine wla rfl rfl (q_assign (v := (u32 0)) rfl (cst32 (0 : UInt32) rfl)) ?_
    refine wla rfl rfl (q_assign (v := (.bool false)) rfl rfl) ?_
    refine wl_nil ?_
    refine W_th ?_
    refine W_ret ?_
    refine th_r ?_
    obtain rfl := Option.some.inj H
    refine rt2 (u32 0) (.bool false) rfl rfl rfl rfl rfl rfl ?_
    exact ⟨rfl, e2⟩
  · replace H := (if_neg (of_decide_eq_false hb4)).symm.trans H
    refine W_skip ?_
    refine W_th ?_
    refine W_seq ?_
    refine W_reg (by kernel_rfl) ?_
    refine wla rfl rfl (q_assign (v := (u64 0)) rfl (cst64 (0 : UInt64) rfl)) ?_
    refine wl_nil ?_
    refine W_th ?_
    refine W_seq ?_
    refine W_seq ?_
    refine W_reg (by kernel_rfl) ?_
    refine wla rfl rfl (q_move (v := p0) rfl rfl) ?_
    refine wla rfl rfl (q_move (v := (i64 c3)) rfl rfl) ?_
    obtain ⟨c5, hc5, H⟩ := Option.bind_eq_some_iff.1 H
    refine wla rfl rfl (q_slice (a := 0) (b := c3) rfl T22 rfl (hp0.lift (Lift.ext e2 _)) rfl rfl hc5) ?_
    refine wla rfl rfl (q_len rfl T22.sl rfl (SlK.cut (hp0.lift (Lift.ext e2 _)) hc5)) ?_
    refine wla rfl rfl (q_move (v := (i64 0)) rfl rfl) ?_
    refine wl_nil ?_
    refine W_th ?_
    obtain ⟨x6, G6, H⟩ := Option.bind_eq_some_iff.1 H
    refine W_mid (fun f w => f 5 = (u64 x6) ∧ f 30 = undef ∧ Ext w0 w) ?_ ?_
    · refine W_block ?_
      refine W_loop (fun s6 f w => f 5 = (u64 s6.1) ∧ f 16 = (subV p0 (0 : Int).toNat (c3 : Int).toNat) ∧ f 17 = (i64 ((c5.length : Int))) ∧ f 18 = (i64 s6.2) ∧ f 30 = undef ∧ Ext w0 w) G6 ?_ ?_
      · exact ⟨rfl, rfl, rfl, rfl, rfl, e2⟩
      · rintro s6 _ _ w7 ⟨s5_7, s16_7, s17_7, s18_7, s30_7, hE7⟩ H6 hr6
        refine W_seq ?_
        refine W_reg (by kernel_rfl) ?_
        refine wla rfl rfl (q_ltI rfl s18_7 s17_7) ?_
        refine wl_nil ?_
        refine W_th ?_
        refine W_seq ?_
        refine W_cond _ rfl rfl (fun hb8 => ?_) (fun hb8 => ?_)
        · replace H6 := (if_pos (of_decide_eq_true hb8)).symm.trans H6
          refine W_skip ?_
          refine W_th ?_
          refine W_seq ?_
          refine W_block ?_
          refine W_seq ?_
          refine W_reg (by kernel_rfl) ?_
          obtain ⟨c9, hc9, H6⟩ := Option.bind_eq_some_iff.1 H6
          refine wla rfl rfl (q_adr rfl T22 s16_7 s18_7 (SlK.cut (hp0.lift (Lift.ext hE7 _)) hc5) hc9) ?_
          refine wlq rfl rfl (q_loadS rfl T22 rfl (SlK.cut (hp0.lift (Lift.ext hE7 _)) hc5) hc9) ?_
          refine wla rfl rfl (q_assign (v := (u8 c9)) rfl rfl) ?_
          refine wl_nil ?_
          refine W_th ?_
          refine W_reg (by kernel_rfl) ?_
          refine wla rfl rfl (q_move (v := (u64 s6.1)) rfl s5_7) ?_
          refine wla rfl rfl (q_shl64 8 rfl rfl rfl rfl) ?_
          refine wla rfl rfl (q_move (v := (u8 c9)) rfl rfl) ?_
          refine wla rfl rfl (q_cvt648 rfl rfl rfl rfl) ?_
          refine wla rfl rfl (q_or64 rfl rfl rfl) ?_
          refine wla rfl rfl (q_assign (v := (u64 (((shl64 s6.1 8) ||| (c9.toUInt64))))) rfl rfl) ?_
          refine wl_nil ?_
          refine bk_n ?_
          refine W_th ?_
          refine W_reg (by kernel_rfl) ?_
          refine wla rfl rfl (q_addI rfl s18_7 rfl) ?_
          refine wla rfl rfl (q_move (v := (i64 ((wI (s6.2 + 1))))) rfl rfl) ?_
          refine wl_nil ?_
          obtain rfl := Option.some.inj H6
          exact ⟨_, rfl, rfl, s16_7, s17_7, rfl, s30_7, hE7⟩
        · replace H6 := (if_neg (of_decide_eq_false hb8)).symm.trans H6
          refine W_exit ?_
          refine th_x ?_
          obtain rfl := Option.some.inj H6
          obtain rfl := hr6 _ rfl
          refine th_x ?_
          refine bk_x ?_
          exact ⟨s5_7, s30_7, hE7⟩
    · rintro _ w11 ⟨s5_11, s30_11, hE11⟩
      refine W_th ?_
      refine W_seq ?_
      refine W_reg (by kernel_rfl) ?_
      refine wla rfl rfl (q_move (v := (u64 x6)) rfl s5_11) ?_
      refine wla rfl rfl (q_cvt3264 rfl rfl rfl rfl) ?_
      refine wla rfl rfl (q_assign (v := (u32 ((x6.toUInt32)))) rfl rfl) ?_
      refine wla rfl rfl (q_assign (v := (.bool true)) rfl rfl) ?_
      refine wl_nil ?_
      refine W_th ?_
      refine W_ret ?_
      obtain rfl := Option.some.inj H
      refine rt2 (u32 ((x6.toUInt32))) (.bool true) rfl rfl rfl rfl rfl s30_11 ?_
      exact ⟨rfl, hE11⟩

/-! largesse/word.Put[uint32] -/
noncomputable def word_Put_uint32 (a0b : List UInt8) (a1x : UInt32) : Option (List UInt8) :=
((slices_Clone_sbytebyte a0b).bind fun r1 =>
((word_Bits_uint32 ).bind fun r4 =>
((iterC (fun s6 : List UInt8 × Int =>
(if 0 ≤ s6.2 then
((cnt s6.2).bind fun c9 =>
((appL s6.1 (([(((shr32 a1x c9)).toUInt8)] : List UInt8))).bind fun c12 => some (.inl (c12, (wI (s6.2 - 8))))))
else some (.inr s6.1))) (r1, (wI (r4 - 8)))).bind fun x6 => some x6)))
set_option maxRecDepth 100000 in
set_option maxHeartbeats 8000000 in
theorem word_Put_uint32_calls (a0b : List UInt8) (a1x : UInt32) (p0 : Value) (r : List UInt8) (w0 : World) (hp0 : By w0 [] p0 a0b) (H : word_Put_uint32 a0b a1x = some r) :
    Calls Try.prog 70 [p0, (u32 a1x)].toArray w0 (fun e w' => ∃ u0 : Value, e = .returned u0 ∧ Ext w0 w' ∧ Nw w0 u0 ∧ OwK (Sc u8) w' [] 5 u0 r) := by
  have hE : Ext w0 w0 := Ext.refl w0
  unfold word_Put_uint32 at H
  refine calls_W (n := 23) Try.func70 rfl rfl rfl ?_
  refine W_seq ?_
  refine W_reg (by kernel_rfl) ?_
  refine wla rfl rfl (q_assign (v := (.slice none 0 0)) rfl rfl) ?_
  refine wl_nil ?_
  refine W_th ?_
  refine W_seq ?_
  refine W_reg (by kernel_rfl) ?_
  refine wla rfl rfl (q_move (v := p0) rfl rfl) ?_
  obtain ⟨r1, hr1, H⟩ := Option.bind_eq_some_iff.1 H
  refine wls rfl rfl (stp_call (vs := [p0]) Try.func49 rfl rfl rfl (ar1 rfl) (slices_Clone_sbytebyte_calls a0b p0 r1 _ (hp0.lift (Lift.ext hE _)) hr1) ?_)
  rintro _ w1 ⟨v1, rfl, x1, n1_0, o1_0⟩
  refine ⟨_, rfl, ?_⟩
  have o1 : OwK (Sc u8) w1 (v1 :: []) 5 v1 r1 := OwK.scal o1_0 _
  have n3 := Nw.ext hE n1_0
  have e2 := hE.trans x1
  refine wla rfl rfl (q_assign (v := v1) rfl rfl) ?_
  refine wl_nil ?_
  refine W_th ?_
  refine W_seq ?_
  refine W_seq ?_
  refine W_reg (by kernel_rfl) ?_
  obtain ⟨r4, hr4, H⟩ := Option.bind_eq_some_iff.1 H
  refine wls rfl rfl (stp_call (vs := []) Try.func80 rfl rfl rfl (ar0 ) (word_Bits_uint32_calls   r4 _  hr4) ?_)
  rintro _ w4 ⟨rfl, x4⟩
  refine ⟨_, rfl, ?_⟩
  replace o1 := o1.extL (Sc.stab _) x4 (Lift.ext x4 _)
  have e5 := e2.trans x4
  refine wla rfl rfl (q_subI rfl rfl rfl) ?_
  refine wla rfl rfl (q_assign (v := (i64 ((wI (r4 - 8))))) rfl rfl) ?_
  refine wl_nil ?_
  refine W_th ?_
  obtain ⟨x6, G6, H⟩ := Option.bind_eq_some_iff.1 H
  refine W_mid (fun f w => ∃ v5_17 : Value, f 5 = v5_17 ∧ f 23 = undef ∧ Ext w0 w ∧ OwK (Sc u8) w [v5_17] 5 v5_17 x6 ∧ Nw w0 v5_17) ?_ ?_
  · refine W_block ?_
    refine W_loop (fun s6 f w => ∃ v5_15 : Value, f 1 = (u32 a1x) ∧ f 5 = v5_15 ∧ f 6 = (i64 s6.2) ∧ f 23 = undef ∧ Ext w0 w ∧ OwK (Sc u8) w [v5_15] 5 v5_15 s6.1 ∧ Nw w0 v5_15) G6 ?_ ?_
    · exact ⟨v1, rfl, rfl, rfl, rfl, e5, o1, n3⟩
    · rintro s6 _ _ w7 ⟨v5_7, s1_7, s5_7, s6_7, s23_7, hE7, o0_7, n0_7⟩ H6 hr6
      refine W_seq ?_
      refine W_seq ?_
      refine W_reg (by kernel_rfl) ?_
      refine wla rfl rfl (q_move (v := (i64 s6.2)) rfl s6_7) ?_
      refine wla rfl rfl (q_geI rfl rfl rfl) ?_
      refine wl_nil ?_
      refine W_th ?_
      refine W_cond _ rfl rfl (fun hb8 => ?_) (fun hb8 => ?_)
      · replace H6 := (if_pos (of_decide_eq_true hb8)).symm.trans H6
        refine W_skip ?_
        refine W_th ?_
        refine W_seq ?_
        refine W_block ?_
        refine W_reg (by kernel_rfl) ?_
        refine wla rfl rfl (q_move (v := v5_7) rfl s5_7) ?_
        refine wla rfl rfl (q_move (v := (u32 a1x)) rfl s1_7) ?_
        refine wla rfl rfl (q_move (v := (i64 s6.2)) rfl s6_7) ?_
        obtain ⟨c9, hc9, H6⟩ := Option.bind_eq_some_iff.1 H6
        refine wla rfl rfl (q_shr32 c9 rfl rfl rfl (cnt_eq hc9)) ?_
        refine wla rfl rfl (q_cvt832 rfl rfl rfl rfl) ?_
        refine wls rfl rfl (stp_lit (L := [v5_7]) (R := (Sc u8)) [(u8 ((((shr32 a1x c9)).toUInt8)))] ([(((shr32 a1x c9)).toUInt8)] : List UInt8) rfl T22 rfl (by exact ⟨rfl, rfl, trivial⟩) rfl (litC u8 (oneC_u8) (us := [(u8 ((((shr32 a1x c9)).toUInt8)))]) (l := ([(((shr32 a1x c9)).toUInt8)] : List UInt8)) rfl) rfl (litS u8 (us := [(u8 ((((shr32 a1x c9)).toUInt8)))]) (l := ([(((shr32 a1x c9)).toUInt8)] : List UInt8)) rfl) ?_)
        intro v10 w10 o10 n10 g10 l10
        have x10 := grown_ext g10
        have i10 : By w10 [v5_7] v10 (([(((shr32 a1x c9)).toUInt8)] : List UInt8)) := OwK.slk (Sc.stab _) _ o10 (fun k hk => (Old.cons (Old.nil _) o0_7.lt) k (n10 k hk)) (fun _ h => h.2)
        replace o0_7 := o0_7.extL (Sc.stab _) x10 (Lift.ext x10 _)
        have e11 := hE7.trans x10
        obtain ⟨c12, hc12, H6⟩ := Option.bind_eq_some_iff.1 H6
        refine wls rfl rfl (stp_append (R := (Sc u8)) (v := v5_7) (u := v10) (Sc.stab _) [] [] rfl T22 rfl rfl o0_7 i10 (fun _ _ h => h) hc12 oc_u8 ?_)
        intro v12 w12 o12 g12 nx12 l12
        replace i10 := i10.lift l12
        have e13 := e11.grown g12 n0_7
        have n14 := Nw.nxt e11 n0_7 nx12
        refine wla rfl rfl (q_assign (v := v12) rfl rfl) ?_
        refine wl_nil ?_
        refine bk_n ?_
        refine W_th ?_
        refine W_reg (by kernel_rfl) ?_
        refine wla rfl rfl (q_move (v := (i64 s6.2)) rfl s6_7) ?_
        refine wla rfl rfl (q_subI rfl rfl rfl) ?_
        refine wla rfl rfl (q_assign (v := (i64 ((wI (s6.2 - 8))))) rfl rfl) ?_
        refine wl_nil ?_
        obtain rfl := Option.some.inj H6
        exact ⟨_, rfl, v12, s1_7, rfl, rfl, s23_7, e13, o12, n14⟩
      · replace H6 := (if_neg (of_decide_eq_false hb8)).symm.trans H6
        refine W_exit ?_
        refine th_x ?_
        obtain rfl := Option.some.inj H6
        obtain rfl := hr6 _ rfl
        refine th_x ?_
        refine bk_x ?_
        exact ⟨v5_7, s5_7, s23_7, hE7, o0_7, n0_7⟩
  · rintro _ w16 ⟨v5_16, s5_16, s23_16, hE16, o0_16, n0_16⟩
    refine W_th ?_
    refine W_seq ?_
    refine W_reg (by kernel_rfl) ?_
    refine wla rfl rfl (q_move (v := v5_16) rfl s5_16) ?_
    refine wla rfl rfl (q_assign (v := v5_16) rfl rfl) ?_
    refine wl_nil ?_
    refine W_th ?_
    refine W_ret ?_
    obtain rfl := Option.some.inj H
    refine rt1 v5_16 rfl rfl rfl s23_16 ?_
    exact ⟨v5_16, rfl, hE16, n0_16, (o0_16.weak (Sc.stab _) (fun _ _ => trivial))⟩

/-! largesse/word.Put[uint64] -/
noncomputable def word_Put_uint64 (a0b : List UInt8) (a1x : UInt64) : Option (List UInt8) :=
((slices_Clone_sbytebyte a0b).bind fun r1 =>
((word_Bits_uint64 ).bind fun r4 =>
((iterC (fun s6 : List UInt8 × Int =>
(if 0 ≤ s6.2 then
((cnt s6.2).bind fun c9 =>
((appL s6.1 (([(((shr64 a1x c9)).toUInt8)] : List UInt8))).bind fun c12 => some (.inl (c12, (wI (s6.2 - 8))))))
else some (.inr s6.1))) (r1, (wI (r4 - 8)))).bind fun x6 => some x6)))
set_option maxRecDepth 100000 in
set_option maxHeartbeats 8000000 in
theorem word_Put_uint64_calls (a0b : List UInt8) (a1x : UInt64) (p0 : Value) (r : List UInt8) (w0 : World) (hp0 : By w0 [] p0 a0b) (H : word_Put_uint64 a0b a1x = some r) :
    Calls Try.prog 37 [p0, (u64 a1x)].toArray w0 (fun e w' => ∃ u0 : Value, e = .returned u0 ∧ Ext w0 w' ∧ Nw w0 u0 ∧ OwK (Sc u8) w' [] 5 u0 r) := by
  have hE : Ext w0 w0 := Ext.refl w0
  unfold word_Put_uint64 at H
  refine calls_W (n := 23) Try.func37 rfl rfl rfl ?_
  refine W_seq ?_
  refine W_reg (by kernel_rfl) ?_
  refine wla rfl rfl (q_assign (v := (.slice none 0 0)) rfl rfl) ?_
  refine wl_nil ?_
  refine W_th ?_
  refine W_seq ?_
  refine W_reg (by kernel_rfl) ?_
  refine wla rfl rfl (q_move (v := p0) rfl rfl) ?_
  obtain ⟨r1, hr1, H⟩ := Option.bind_eq_some_iff.1 H
  refine wls rfl rfl (stp_call (vs := [p0]) Try.func49 rfl rfl rfl (ar1 rfl) (slices_Clone_sbytebyte_calls a0b p0 r1 _ (hp0.lift (Lift.ext hE _)) hr1) ?_)
  rintro _ w1 ⟨v1, rfl, x1, n1_0, o1_0⟩
  refine ⟨_, rfl, ?_⟩
  have o1 : OwK (Sc u8) w1 (v1 :: []) 5 v1 r1 := OwK.scal o1_0 _
  have n3 := Nw.ext hE n1_0
  have e2 := hE.trans x1
  refine wla rfl rfl (q_assign (v := v1) rfl rfl) ?_
  refine wl_nil ?_
  refine W_th ?_
  refine W_seq ?_
  refine W_seq ?_
  refine W_reg (by kernel_rfl) ?_
  obtain ⟨r4, hr4, H⟩ := Option.bind_eq_some_iff.1 H
  refine wls rfl rfl (stp_call (vs := []) Try.func64 rfl rfl rfl (ar0 ) (word_Bits_uint64_calls   r4 _  hr4) ?_)
  rintro _ w4 ⟨rfl, x4⟩
  refine ⟨_, rfl, ?_⟩
  replace o1 := o1.extL (Sc.stab _) x4 (Lift.ext x4 _)
  have e5 := e2.trans x4
  refine wla rfl rfl (q_subI rfl rfl rfl) ?_
  refine wla rfl rfl (q_assign (v := (i64 ((wI (r4 - 8))))) rfl rfl) ?_
  refine wl_nil ?_
  refine W_th ?_
  obtain ⟨x6, G6, H⟩ := Option.bind_eq_some_iff.1 H
  refine W_mid (fun f w => ∃ v5_17 : Value, f 5 = v5_17 ∧ f 23 = undef ∧ Ext w0 w ∧ OwK (Sc u8) w [v5_17] 5 v5_17 x6 ∧ Nw w0 v5_17) ?_ ?_
  · refine W_block ?_
    refine W_loop (fun s6 f w => ∃ v5_15 : Value, f 1 = (u64 a1x) ∧ f 5 = v5_15 ∧ f 6 = (i64 s6.2) ∧ f 23 = undef ∧ Ext w0 w ∧ OwK (Sc u8) w [v5_15] 5 v5_15 s6.1 ∧ Nw w0 v5_15) G6 ?_ ?_
    · exact ⟨v1, rfl, rfl, rfl, rfl, e5, o1, n3⟩
    · rintro s6 _ _ w7 ⟨v5_7, s1_7, s5_7, s6_7, s23_7, hE7, o0_7, n0_7⟩ H6 hr6
      refine W_seq ?_
      refine W_seq ?_
      refine W_reg (by kernel_rfl) ?_
      refine wla rfl rfl (q_move (v := (i64 s6.2)) rfl s6_7) ?_
      refine wla rfl rfl (q_geI rfl rfl rfl) ?_
      refine wl_nil ?_
      refine W_th ?_
      refine W_cond _ rfl rfl (fun hb8 => ?_) (fun hb8 => ?_)
      · replace H6 := (if_pos (of_decide_eq_true hb8)).symm.trans H6
        refine W_skip ?_
        refine W_th ?_
        refine W_seq ?_
        refine W_block ?_
        refine W_reg (by kernel_rfl) ?_
        refine wla rfl rfl (q_move (v := v5_7) rfl s5_7) ?_
        refine wla rfl rfl (q_move (v := (u64 a1x)) rfl s1_7) ?_
        refine wla rfl rfl (q_move (v := (i64 s6.2)) rfl s6_7) ?_
        obtain ⟨c9, hc9, H6⟩ := Option.bind_eq_some_iff.1 H6
        refine wla rfl rfl (q_shr64 c9 rfl rfl rfl (cnt_eq hc9)) ?_
        refine wla rfl rfl (q_cvt864 rfl rfl rfl rfl) ?_
        refine wls rfl rfl (stp_lit (L := [v5_7]) (R := (Sc u8)) [(u8 ((((shr64 a1x c9)).toUInt8)))] ([(((shr64 a1x c9)).toUInt8)] : List UInt8) rfl T22 rfl (by exact ⟨rfl, rfl, trivial⟩) rfl (litC u8 (oneC_u8) (us := [(u8 ((((shr64 a1x c9)).toUInt8)))]) (l := ([(((shr64 a1x c9)).toUInt8)] : List UInt8)) rfl) rfl (litS u8 (us := [(u8 ((((shr64 a1x c9)).toUInt8)))]) (l := ([(((shr64 a1x c9)).toUInt8)] : List UInt8)) rfl) ?_)
        intro v10 w10 o10 n10 g10 l10
        have x10 := grown_ext g10
        have i10 : By w10 [v5_7] v10 (([(((shr64 a1x c9)).toUInt8)] : List UInt8)) := OwK.slk (Sc.stab _) _ o10 (fun k hk => (Old.cons (Old.nil _) o0_7.lt) k (n10 k hk)) (fun _ h => h.2)
        replace o0_7 := o0_7.extL (Sc.stab _) x10 (Lift.ext x10 _)
        have e11 := hE7.trans x10
        obtain ⟨c12, hc12, H6⟩ := Option.bind_eq_some_iff.1 H6
        refine wls rfl rfl (stp_append (R := (Sc u8)) (v := v5_7) (u := v10) (Sc.stab _) [] [] rfl T22 rfl rfl o0_7 i10 (fun _ _ h => h) hc12 oc_u8 ?_)
        intro v12 w12 o12 g12 nx12 l12
        replace i10 := i10.lift l12
        have e13 := e11.grown g12 n0_7
        have n14 := Nw.nxt e11 n0_7 nx12
        refine wla rfl rfl (q_assign (v := v12) rfl rfl) ?_
        refine wl_nil ?_
        refine bk_n ?_
        refine W_th ?_
        refine W_reg (by kernel_rfl) ?_
        refine wla rfl rfl (q_move (v := (i64 s6.2)) rfl s6_7) ?_
        refine wla rfl rfl (q_subI rfl rfl rfl) ?_
        refine wla rfl rfl (q_assign (v := (i64 ((wI (s6.2 - 8))))) rfl rfl) ?_
        refine wl_nil ?_
        obtain rfl := Option.some.inj H6
        exact ⟨_, rfl, v12, s1_7, rfl, rfl, s23_7, e13, o12, n14⟩
      · replace H6 := (if_neg (of_decide_eq_false hb8)).symm.trans H6
        refine W_exit ?_
        refine th_x ?_
        obtain rfl := Option.some.inj H6
        obtain rfl := hr6 _ rfl
        refine th_x ?_
        refine bk_x ?_
        exact ⟨v5_7, s5_7, s23_7, hE7, o0_7, n0_7⟩
  · rintro _ w16 ⟨v5_16, s5_16, s23_16, hE16, o0_16, n0_16⟩
    refine W_th ?_
    refine W_seq ?_
    refine W_reg (by kernel_rfl) ?_
    refine wla rfl rfl (q_move (v := v5_16) rfl s5_16) ?_
    refine wla rfl rfl (q_assign (v := v5_16) rfl rfl) ?_
    refine wl_nil ?_
    refine W_th ?_
    refine W_ret ?_
    obtain rfl := Option.some.inj H
    refine rt1 v5_16 rfl rfl rfl s23_16 ?_
    exact ⟨v5_16, rfl, hE16, n0_16, (o0_16.weak (Sc.stab _) (fun _ _ => trivial))⟩

/-! largesse/hash.constants -/
noncomputable def hash_constants  : Option (List UInt32) :=
((lenA 64 ((List.replicate 64 (0 : UInt32)))).bind fun c5 =>
((lenA 64 (([(1116352408 : UInt32), (1899447441 : UInt32), (3049323471 : UInt32), (3921009573 : UInt32), (961987163 : UInt32), (1508970993 : UInt32), (2453635748 : UInt32), (2870763221 : UInt32), (3624381080 : UInt32), (310598401 : UInt32), (607225278 : UInt32), (1426881987 : UInt32), (1925078388 : UInt32), (2162078206 : UInt32), (2614888103 : UInt32), (3248222580 : UInt32), (3835390401 : UInt32), (4022224774 : UInt32), (264347078 : UInt32), (604807628 : UInt32), (770255983 : UInt32), (1249150122 : UInt32), (1555081692 : UInt32), (1996064986 : UInt32), (2554220882 : UInt32), (2821834349 : UInt32), (2952996808 : UInt32), (3210313671 : UInt32), (3336571891 : UInt32), (3584528711 : UInt32), (113926993 : UInt32), (338241895 : UInt32), (666307205 : UInt32), (773529912 : UInt32), (1294757372 : UInt32), (1396182291 : UInt32), (1695183700 : UInt32), (1986661051 : UInt32), (2177026350 : UInt32), (2456956037 : UInt32), (2730485921 : UInt32), (2820302411 : UInt32), (3259730800 : UInt32), (3345764771 : UInt32), (3516065817 : UInt32), (3600352804 : UInt32), (4094571909 : UInt32), (275423344 : UInt32), (430227734 : UInt32), (506948616 : UInt32), (659060556 : UInt32), (883997877 : UInt32), (958139571 : UInt32), (1322822218 : UInt32), (1537002063 : UInt32), (1747873779 : UInt32), (1955562222 : UInt32), (2024104815 : UInt32), (2227730452 : UInt32), (2361852424 : UInt32), (2428436474 : UInt32), (2756734187 : UInt32), (3204031479 : UInt32), (3329325298 : UInt32)] : List UInt32))).bind fun c6 =>
((lenA 64 (([(1116352408 : UInt32), (1899447441 : UInt32), (3049323471 : UInt32), (3921009573 : UInt32), (961987163 : UInt32), (1508970993 : UInt32), (2453635748 : UInt32), (2870763221 : UInt32), (3624381080 : UInt32), (310598401 : UInt32), (607225278 : UInt32), (1426881987 : UInt32), (1925078388 : UInt32), (2162078206 : UInt32), (2614888103 : UInt32), (3248222580 : UInt32), (3835390401 : UInt32), (4022224774 : UInt32), (264347078 : UInt32), (604807628 : UInt32), (770255983 : UInt32), (1249150122 : UInt32), (1555081692 : UInt32), (1996064986 : UInt32), (2554220882 : UInt32), (2821834349 : UInt32), (2952996808 : UInt32), (3210313671 : UInt32), (3336571891 : UInt32), (3584528711 : UInt32), (113926993 : UInt32), (338241895 : UInt32), (666307205 : UInt32), (773529912 : UInt32), (1294757372 : UInt32), (1396182291 : UInt32), (1695183700 : UInt32), (1986661051 : UInt32), (2177026350 : UInt32), (2456956037 : UInt32), (2730485921 : UInt32), (2820302411 : UInt32), (3259730800 : UInt32), (3345764771 : UInt32), (3516065817 : UInt32), (3600352804 : UInt32), (4094571909 : UInt32), (275423344 : UInt32), (430227734 : UInt32), (506948616 : UInt32), (659060556 : UInt32), (883997877 : UInt32), (958139571 : UInt32), (1322822218 : UInt32), (1537002063 : UInt32), (1747873779 : UInt32), (1955562222 : UInt32), (2024104815 : UInt32), (2227730452 : UInt32), (2361852424 : UInt32), (2428436474 : UInt32), (2756734187 : UInt32), (3204031479 : UInt32), (3329325298 : UInt32)] : List UInt32))).bind fun c8 => some ([(1116352408 : UInt32), (1899447441 : UInt32), (3049323471 : UInt32), (3921009573 : UInt32), (961987163 : UInt32), (1508970993 : UInt32), (2453635748 : UInt32), (2870763221 : UInt32), (3624381080 : UInt32), (310598401 : UInt32), (607225278 : UInt32), (1426881987 : UInt32), (1925078388 : UInt32), (2162078206 : UInt32), (2614888103 : UInt32), (3248222580 : UInt32), (3835390401 : UInt32), (4022224774 : UInt32), (264347078 : UInt32), (604807628 : UInt32), (770255983 : UInt32), (1249150122 : UInt32), (1555081692 : UInt32), (1996064986 : UInt32), (2554220882 : UInt32), (2821834349 : UInt32), (2952996808 : UInt32), (3210313671 : UInt32), (3336571891 : UInt32), (3584528711 : UInt32), (113926993 : UInt32), (338241895 : UInt32), (666307205 : UInt32), (773529912 : UInt32), (1294757372 : UInt32), (1396182291 : UInt32), (1695183700 : UInt32), (1986661051 : UInt32), (2177026350 : UInt32), (2456956037 : UInt32), (2730485921 : UInt32), (2820302411 : UInt32), (3259730800 : UInt32), (3345764771 : UInt32), (3516065817 : UInt32), (3600352804 : UInt32), (4094571909 : UInt32), (275423344 : UInt32), (430227734 : UInt32), (506948616 : UInt32), (659060556 : UInt32), (883997877 : UInt32), (958139571 : UInt32), (1322822218 : UInt32), (1537002063 : UInt32), (1747873779 : UInt32), (1955562222 : UInt32), (2024104815 : UInt32), (2227730452 : UInt32), (2361852424 : UInt32), (2428436474 : UInt32), (2756734187 : UInt32), (3204031479 : UInt32), (3329325298 : UInt32)] : List UInt32))))
set_option maxRecDepth 100000 in
set_option maxHeartbeats 8000000 in
theorem hash_constants_calls  (r : List UInt32) (w0 : World) (H : hash_constants = some r) :
    Calls Try.prog 78 [].toArray w0 (fun e w' => e = .returned (ag u32 r) ∧ Ext w0 w') := by
  have hE : Ext w0 w0 := Ext.refl w0
  unfold hash_constants at H
  refine calls_W (n := 2) Try.func78 rfl rfl rfl ?_
  refine W_seq ?_
  refine W_reg (by kernel_rfl) ?_
  refine wls rfl rfl (stp_allocL (z := (ag u32 ((List.replicate 64 (0 : UInt32))))) (cs := (ac u32 ((List.replicate 64 (0 : UInt32))))) [] rfl Z69 rfl ?_)
  intro g1 w1 o1 n1 g1r l1
  have x1 := grown_ext g1r
  have n3 := Nw.ext hE n1
  have e2 := hE.trans x1
  refine wl_nil ?_
  refine W_th ?_
  refine W_seq ?_
  refine W_reg (by kernel_rfl) ?_
  refine wla rfl rfl (q_buildAF (l := ([(1116352408 : UInt32), (1899447441 : UInt32), (3049323471 : UInt32), (3921009573 : UInt32), (961987163 : UInt32), (1508970993 : UInt32), (2453635748 : UInt32), (2870763221 : UInt32), (3624381080 : UInt32), (310598401 : UInt32), (607225278 : UInt32), (1426881987 : UInt32), (1925078388 : UInt32), (2162078206 : UInt32), (2614888103 : UInt32), (3248222580 : UInt32), (3835390401 : UInt32), (4022224774 : UInt32), (264347078 : UInt32), (604807628 : UInt32), (770255983 : UInt32), (1249150122 : UInt32), (1555081692 : UInt32), (1996064986 : UInt32), (2554220882 : UInt32), (2821834349 : UInt32), (2952996808 : UInt32), (3210313671 : UInt32), (3336571891 : UInt32), (3584528711 : UInt32), (113926993 : UInt32), (338241895 : UInt32), (666307205 : UInt32), (773529912 : UInt32), (1294757372 : UInt32), (1396182291 : UInt32), (1695183700 : UInt32), (1986661051 : UInt32), (2177026350 : UInt32), (2456956037 : UInt32), (2730485921 : UInt32), (2820302411 : UInt32), (3259730800 : UInt32), (3345764771 : UInt32), (3516065817 : UInt32), (3600352804 : UInt32), (4094571909 : UInt32), (275423344 : UInt32), (430227734 : UInt32), (506948616 : UInt32), (659060556 : UInt32), (883997877 : UInt32), (958139571 : UInt32), (1322822218 : UInt32), (1537002063 : UInt32), (1747873779 : UInt32), (1955562222 : UInt32), (2024104815 : UInt32), (2227730452 : UInt32), (2361852424 : UInt32), (2428436474 : UInt32), (2756734187 : UInt32), (3204031479 : UInt32), (3329325298 : UInt32)] : List UInt32)) (us := [(u32 1116352408), (u32 1899447441), (u32 3049323471), (u32 3921009573), (u32 961987163), (u32 1508970993), (u32 2453635748), (u32 2870763221), (u32 3624381080), (u32 310598401), (u32 607225278), (u32 1426881987), (u32 1925078388), (u32 2162078206), (u32 2614888103), (u32 3248222580), (u32 3835390401), (u32 4022224774), (u32 264347078), (u32 604807628), (u32 770255983), (u32 1249150122), (u32 1555081692), (u32 1996064986), (u32 2554220882), (u32 2821834349), (u32 2952996808), (u32 3210313671), (u32 3336571891), (u32 3584528711), (u32 113926993), (u32 338241895), (u32 666307205), (u32 773529912), (u32 1294757372), (u32 1396182291), (u32 1695183700), (u32 1986661051), (u32 2177026350), (u32 2456956037), (u32 2730485921), (u32 2820302411), (u32 3259730800), (u32 3345764771), (u32 3516065817), (u32 3600352804), (u32 4094571909), (u32 275423344), (u32 430227734), (u32 506948616), (u32 659060556), (u32 883997877), (u32 958139571), (u32 1322822218), (u32 1537002063), (u32 1747873779), (u32 1955562222), (u32 2024104815), (u32 2227730452), (u32 2361852424), (u32 2428436474), (u32 2756734187), (u32 3204031479), (u32 3329325298)]) (z := (0 : UInt32)) rfl A69 Z69 (by exact ⟨rfl, (cst32 (1116352408 : UInt32) rfl), rfl, (cst32 (1899447441 : UInt32) rfl), rfl, (cst32 (3049323471 : UInt32) rfl), rfl, (cst32 (3921009573 : UInt32) rfl), rfl, (cst32 (961987163 : UInt32) rfl), rfl, (cst32 (1508970993 : UInt32) rfl), rfl, (cst32 (2453635748 : UInt32) rfl), rfl, (cst32 (2870763221 : UInt32) rfl), rfl, (cst32 (3624381080 : UInt32) rfl), rfl, (cst32 (310598401 : UInt32) rfl), rfl, (cst32 (607225278 : UInt32) rfl), rfl, (cst32 (1426881987 : UInt32) rfl), rfl, (cst32 (1925078388 : UInt32) rfl), rfl, (cst32 (2162078206 : UInt32) rfl), rfl, (cst32 (2614888103 : UInt32) rfl), rfl, (cst32 (3248222580 : UInt32) rfl), rfl, (cst32 (3835390401 : UInt32) rfl), rfl, (cst32 (4022224774 : UInt32) rfl), rfl, (cst32 (264347078 : UInt32) rfl), rfl, (cst32 (604807628 : UInt32) rfl), rfl, (cst32 (770255983 : UInt32) rfl), rfl, (cst32 (1249150122 : UInt32) rfl), rfl, (cst32 (1555081692 : UInt32) rfl), rfl, (cst32 (1996064986 : UInt32) rfl), rfl, (cst32 (2554220882 : UInt32) rfl), rfl, (cst32 (2821834349 : UInt32) rfl), rfl, (cst32 (2952996808 : UInt32) rfl), rfl, (cst32 (3210313671 : UInt32) rfl), rfl, (cst32 (3336571891 : UInt32) rfl), rfl, (cst32 (3584528711 : UInt32) rfl), rfl, (cst32 (113926993 : UInt32) rfl), rfl, (cst32 (338241895 : UInt32) rfl), rfl, (cst32 (666307205 : UInt32) rfl), rfl, (cst32 (773529912 : UInt32) rfl), rfl, (cst32 (1294757372 : UInt32) rfl), rfl, (cst32 (1396182291 : UInt32) rfl), rfl, (cst32 (1695183700 : UInt32) rfl), rfl, (cst32 (1986661051 : UInt32) rfl), rfl, (cst32 (2177026350 : UInt32) rfl), rfl, (cst32 (2456956037 : UInt32) rfl), rfl, (cst32 (2730485921 : UInt32) rfl), rfl, (cst32 (2820302411 : UInt32) rfl), rfl, (cst32 (3259730800 : UInt32) rfl), rfl, (cst32 (3345764771 : UInt32) rfl), rfl, (cst32 (3516065817 : UInt32) rfl), rfl, (cst32 (3600352804 : UInt32) rfl), rfl, (cst32 (4094571909 : UInt32) rfl), rfl, (cst32 (275423344 : UInt32) rfl), rfl, (cst32 (430227734 : UInt32) rfl), rfl, (cst32 (506948616 : UInt32) rfl), rfl, (cst32 (659060556 : UInt32) rfl), rfl, (cst32 (883997877 : UInt32) rfl), rfl, (cst32 (958139571 : UInt32) rfl), rfl, (cst32 (1322822218 : UInt32) rfl), rfl, (cst32 (1537002063 : UInt32) rfl), rfl, (cst32 (1747873779 : UInt32) rfl), rfl, (cst32 (1955562222 : UInt32) rfl), rfl, (cst32 (2024104815 : UInt32) rfl), rfl, (cst32 (2227730452 : UInt32) rfl), rfl, (cst32 (2361852424 : UInt32) rfl), rfl, (cst32 (2428436474 : UInt32) rfl), rfl, (cst32 (2756734187 : UInt32) rfl), rfl, (cst32 (3204031479 : UInt32) rfl), rfl, (cst32 (3329325298 : UInt32) rfl), trivial⟩) rfl rfl cel_u32) ?_
  obtain ⟨c5, hc5, H⟩ := Option.bind_eq_some_iff.1 H
  obtain ⟨c6, hc6, H⟩ := Option.bind_eq_some_iff.1 H
  refine wln rfl rfl (stp_storeA [] [] rfl A69 rfl rfl (lenA_eq hc5) (lenA_eq hc6) o1 one_u32 ?_)
  intro w4 o4 g4 l4
  have e7 := e2.grown g4 n3
  refine wl_nil ?_
  refine W_th ?_
  refine W_ret ?_
  obtain ⟨c8, hc8, H⟩ := Option.bind_eq_some_iff.1 H
  obtain rfl := Option.some.inj H
  refine rtc1 A69 rfl rfl rfl o4 (lenA_eq hc8) rfl ?_
  exact ⟨rfl, e7⟩

/-! largesse/hash.first -/
noncomputable def hash_first  : Option (List UInt32) :=
((lenA 8 ((List.replicate 8 (0 : UInt32)))).bind fun c5 =>
((lenA 8 (([(1779033703 : UInt32), (3144134277 : UInt32), (1013904242 : UInt32), (2773480762 : UInt32), (1359893119 : UInt32), (2600822924 : UInt32), (528734635 : UInt32), (1541459225 : UInt32)] : List UInt32))).bind fun c6 =>
((lenA 8 (([(1779033703 : UInt32), (3144134277 : UInt32), (1013904242 : UInt32), (2773480762 : UInt32), (1359893119 : UInt32), (2600822924 : UInt32), (528734635 : UInt32), (1541459225 : UInt32)] : List UInt32))).bind fun c8 => some ([(1779033703 : UInt32), (3144134277 : UInt32), (1013904242 : UInt32), (2773480762 : UInt32), (1359893119 : UInt32), (2600822924 : UInt32), (528734635 : UInt32), (1541459225 : UInt32)] : List UInt32))))
set_option maxRecDepth 100000 in
set_option maxHeartbeats 8000000 in
theorem hash_first_calls  (r : List UInt32) (w0 : World) (H : hash_first = some r) :
    Calls Try.prog 68 [].toArray w0 (fun e w' => e = .returned (ag u32 r) ∧ Ext w0 w') := by
  have hE : Ext w0 w0 := Ext.refl w0
  unfold hash_first at H
  refine calls_W (n := 2) Try.func68 rfl rfl rfl ?_
  refine W_seq ?_
  refine W_reg (by kernel_rfl) ?_
  refine wls rfl rfl (stp_allocL (z := (ag u32 ((List.replicate 8 (0 : UInt32))))) (cs := (ac u32 ((List.replicate 8 (0 : UInt32))))) [] rfl Z98 rfl ?_)
  intro g1 w1 o1 n1 g1r l1
  have x1 := grown_ext g1r
  have n3 := Nw.ext hE n1
  have e2 := hE.trans x1
  refine wl_nil ?_
  refine W_th ?_
  refine W_seq ?_
  refine W_reg (by kernel_rfl) ?_
  refine wla rfl rfl (q_buildAF (l := ([(1779033703 : UInt32), (3144134277 : UInt32), (1013904242 : UInt32), (2773480762 : UInt32), (1359893119 : UInt32), (2600822924 : UInt32), (528734635 : UInt32), (1541459225 : UInt32)] : List UInt32)) (us := [(u32 1779033703), (u32 3144134277), (u32 1013904242), (u32 2773480762), (u32 1359893119), (u32 2600822924), (u32 528734635), (u32 1541459225)]) (z := (0 : UInt32)) rfl A98 Z98 (by exact ⟨rfl, (cst32 (1779033703 : UInt32) rfl), rfl, (cst32 (3144134277 : UInt32) rfl), rfl, (cst32 (1013904242 : UInt32) rfl), rfl, (cst32 (2773480762 : UInt32) rfl), rfl, (cst32 (1359893119 : UInt32) rfl), rfl, (cst32 (2600822924 : UInt32) rfl), rfl, (cst32 (528734635 : UInt32) rfl), rfl, (cst32 (1541459225 : UInt32) rfl), trivial⟩) rfl rfl cel_u32) ?_
  obtain ⟨c5, hc5, H⟩ := Option.bind_eq_some_iff.1 H
  obtain ⟨c6, hc6, H⟩ := Option.bind_eq_some_iff.1 H
  refine wln rfl rfl (stp_storeA [] [] rfl A98 rfl rfl (lenA_eq hc5) (lenA_eq hc6) o1 one_u32 ?_)
  intro w4 o4 g4 l4
  have e7 := e2.grown g4 n3
  refine wl_nil ?_
  refine W_th ?_
  refine W_ret ?_
  obtain ⟨c8, hc8, H⟩ := Option.bind_eq_some_iff.1 H
  obtain rfl := Option.some.inj H
  refine rtc1 A98 rfl rfl rfl o4 (lenA_eq hc8) rfl ?_
  exact ⟨rfl, e7⟩

/-! largesse/hash.turned -/
noncomputable def hash_turned (a0x : UInt32) (a1a : Int) (a2b : Int) (a3c : Int) : Option UInt32 :=
((word_Turn_uint32 a0x (wI (0 - a1a))).bind fun r1 =>
((word_Turn_uint32 a0x (wI (0 - a2b))).bind fun r3 =>
((word_Turn_uint32 a0x (wI (0 - a3c))).bind fun r5 => some ((r1 ^^^ r3) ^^^ r5))))
set_option maxRecDepth 100000 in
set_option maxHeartbeats 8000000 in
theorem hash_turned_calls (a0x : UInt32) (a1a : Int) (a2b : Int) (a3c : Int) (r : UInt32) (w0 : World) (H : hash_turned a0x a1a a2b a3c = some r) :
    Calls Try.prog 79 [(u32 a0x), (i64 a1a), (i64 a2b), (i64 a3c)].toArray w0 (fun e w' => e = .returned (u32 r) ∧ Ext w0 w') := by
  have hE : Ext w0 w0 := Ext.refl w0
  unfold hash_turned at H
  refine calls_W (n := 23) Try.func79 rfl rfl rfl ?_
  refine W_seq ?_
  refine W_reg (by kernel_rfl) ?_
  refine wla rfl rfl (q_assign (v := (u32 0)) rfl (cst32 (0 : UInt32) rfl)) ?_
  refine wl_nil ?_
  refine W_th ?_
  refine W_seq ?_
  refine W_reg (by kernel_rfl) ?_
  refine wla rfl rfl (q_move (v := (u32 a0x)) rfl rfl) ?_
  refine wla rfl rfl (q_move (v := (i64 a1a)) rfl rfl) ?_
  refine wla rfl rfl (q_negI rfl rfl) ?_
  obtain ⟨r1, hr1, H⟩ := Option.bind_eq_some_iff.1 H
  refine wls rfl rfl (stp_call (vs := [(u32 a0x), (i64 ((wI (0 - a1a))))]) Try.func86 rfl rfl rfl (ar2 rfl rfl) (word_Turn_uint32_calls a0x (wI (0 - a1a))  r1 _  hr1) ?_)
  rintro _ w1 ⟨rfl, x1⟩
  refine ⟨_, rfl, ?_⟩
  have e2 := hE.trans x1
  refine wla rfl rfl (q_move (v := (u32 a0x)) rfl rfl) ?_
  refine wla rfl rfl (q_move (v := (i64 a2b)) rfl rfl) ?_
  refine wla rfl rfl (q_negI rfl rfl) ?_
  obtain ⟨r3, hr3, H⟩ := Option.bind_eq_some_iff.1 H
  refine wls rfl rfl (stp_call (vs := [(u32 a0x), (i64 ((wI (0 - a2b))))]) Try.func86 rfl rfl rfl (ar2 rfl rfl) (word_Turn_uint32_calls a0x (wI (0 - a2b))  r3 _  hr3) ?_)
  rintro _ w3 ⟨rfl, x3⟩
  refine ⟨_, rfl, ?_⟩
  have e4 := e2.trans x3
  refine wla rfl rfl (q_xor32 rfl rfl rfl) ?_
  refine wla rfl rfl (q_move (v := (u32 a0x)) rfl rfl) ?_
  refine wla rfl rfl (q_move (v := (i64 a3c)) rfl rfl) ?_
  refine wla rfl rfl (q_negI rfl rfl) ?_
  obtain ⟨r5, hr5, H⟩ := Option.bind_eq_some_iff.1 H
  refine wls rfl rfl (stp_call (vs := [(u32 a0x), (i64 ((wI (0 - a3c))))]) Try.func86 rfl rfl rfl (ar2 rfl rfl) (word_Turn_uint32_calls a0x (wI (0 - a3c))  r5 _  hr5) ?_)
  rintro _ w5 ⟨rfl, x5⟩
  refine ⟨_, rfl, ?_⟩
  have e6 := e4.trans x5
  refine wla rfl rfl (q_xor32 rfl rfl rfl) ?_
  refine wla rfl rfl (q_assign (v := (u32 (((r1 ^^^ r3) ^^^ r5)))) rfl rfl) ?_
  refine wl_nil ?_
  refine W_th ?_
  refine W_ret ?_
  obtain rfl := Option.some.inj H
  refine rt1 (u32 (((r1 ^^^ r3) ^^^ r5))) rfl rfl rfl rfl ?_
  exact ⟨rfl, e6⟩

/-! largesse/hash.plan -/
noncomputable def hash_plan (a0p : List UInt8) : Option (List UInt32) :=
((iterC (fun s8 : List UInt32 × Int =>
(if s8.2 < 64 then
(if s8.2 < 16 then
((subL a0p ((wI (4 * s8.2))) ((a0p.length : Int))).bind fun c12 =>
((word_Get_uint32 c12).bind fun r13 =>
((lenA 64 s8.1).bind fun c15 =>
((idx s8.1 s8.2).bind fun c16 => some (.inl ((s8.1.set (s8.2 : Int).toNat r13.1), (wI (s8.2 + 1))))))))
else
((lenA 64 s8.1).bind fun c21 =>
((idx s8.1 ((wI (s8.2 - 15)))).bind fun c22 =>
((idx s8.1 ((wI (s8.2 - 2)))).bind fun c23 =>
((lenA 64 s8.1).bind fun c26 =>
((idx s8.1 ((wI (s8.2 - 16)))).bind fun c27 =>
((idx s8.1 ((wI (s8.2 - 7)))).bind fun c28 =>
((word_Turn_uint32 c22 (-7)).bind fun r29 =>
((word_Turn_uint32 c22 (-18)).bind fun r31 =>
((word_Turn_uint32 c23 (-17)).bind fun r33 =>
((word_Turn_uint32 c23 (-19)).bind fun r35 =>
((idx s8.1 s8.2).bind fun c37 => some (.inl ((s8.1.set (s8.2 : Int).toNat ((((c27 + c28) + ((r29 ^^^ r31) ^^^ (shr32 c22 3))) + ((r33 ^^^ r35) ^^^ (shr32 c23 10))))), (wI (s8.2 + 1))))))))))))))))
else some (.inr s8.1))) ((List.replicate 64 (0 : UInt32)), 0)).bind fun x8 =>
((lenA 64 x8).bind fun c42 =>
((lenA 64 ((List.replicate 64 (0 : UInt32)))).bind fun c44 =>
((lenA 64 x8).bind fun c46 => some x8))))
set_option maxRecDepth 100000 in
set_option maxHeartbeats 8000000 in
theorem hash_plan_calls (a0p : List UInt8) (p0 : Value) (r : List UInt32) (w0 : World) (hp0 : By w0 [] p0 a0p) (H : hash_plan a0p = some r) :
    Calls Try.prog 77 [p0].toArray w0 (fun e w' => e = .returned (ag u32 r) ∧ Ext w0 w') := by
  have hE : Ext w0 w0 := Ext.refl w0
  unfold hash_plan at H
  refine calls_W (n := 61) Try.func77 rfl rfl rfl ?_
  refine W_seq ?_
  refine W_reg (by kernel_rfl) ?_
  refine wls rfl rfl (stp_allocL (z := (ag u32 ((List.replicate 64 (0 : UInt32))))) (cs := (ac u32 ((List.replicate 64 (0 : UInt32))))) [] rfl Z69 rfl ?_)
  intro g1 w1 o1 n1 g1r l1
  have x1 := grown_ext g1r
  have n3 := Nw.ext hE n1
  have e2 := hE.trans x1
  refine wl_nil ?_
  refine W_th ?_
  refine W_seq ?_
  refine W_reg (by kernel_rfl) ?_
  refine wls rfl rfl (stp_allocL (z := (ag u32 ((List.replicate 64 (0 : UInt32))))) (cs := (ac u32 ((List.replicate 64 (0 : UInt32))))) [(bp g1)] rfl Z69 rfl ?_)
  intro g4 w4 o4 n4 g4r l4
  have x4 := grown_ext g4r
  have q5 : Nq (bp g1) (bp g4) := o1.nq n4
  replace o1 := o1.ext x4
  have n7 := Nw.ext e2 n4
  have e6 := e2.trans x4
  refine wl_nil ?_
  refine W_th ?_
  refine W_seq ?_
  refine W_seq ?_
  refine W_reg (by kernel_rfl) ?_
  refine wla rfl rfl (q_move (v := (i64 0)) rfl rfl) ?_
  refine wl_nil ?_
  refine W_th ?_
  obtain ⟨x8, G8, H⟩ := Option.bind_eq_some_iff.1 H
  refine W_mid (fun f w => f 2 = (bp g1) ∧ f 3 = (bp g4) ∧ f 61 = undef ∧ Ext w0 w ∧ Blk w g1 69 (ac u32 ((List.replicate 64 (0 : UInt32)))) ∧ Nw w0 (bp g1) ∧ Blk w g4 69 (ac u32 x8) ∧ Nw w0 (bp g4) ∧ Nq (bp g1) (bp g4)) ?_ ?_
  · refine W_block ?_
    refine W_loop (fun s8 f w => f 0 = p0 ∧ f 2 = (bp g1) ∧ f 3 = (bp g4) ∧ f 7 = (i64 s8.2) ∧ f 61 = undef ∧ Ext w0 w ∧ Blk w g1 69 (ac u32 ((List.replicate 64 (0 : UInt32)))) ∧ Nw w0 (bp g1) ∧ Blk w g4 69 (ac u32 s8.1) ∧ Nw w0 (bp g4) ∧ Nq (bp g1) (bp g4)) G8 ?_ ?_
    · exact ⟨rfl, rfl, rfl, rfl, rfl, e6, o1, n3, o4, n7, q5⟩
    · rintro s8 _ _ w9 ⟨s0_9, s2_9, s3_9, s7_9, s61_9, hE9, o0_9, n0_9, o1_9, n1_9, q0_1_9⟩ H8 hr8
      refine W_seq ?_
      refine W_reg (by kernel_rfl) ?_
      refine wla rfl rfl (q_ltI rfl s7_9 rfl) ?_
      refine wl_nil ?_
      refine W_th ?_
      refine W_seq ?_
      refine W_cond _ rfl rfl (fun hb10 => ?_) (fun hb10 => ?_)
      · replace H8 := (if_pos (of_decide_eq_true hb10)).symm.trans H8
        refine W_skip ?_
        refine W_th ?_
        refine W_seq ?_
        refine W_block ?_
        refine W_seq ?_
        refine W_reg (by kernel_rfl) ?_
        refine wla rfl rfl (q_move (v := (i64 s8.2)) rfl s7_9) ?_
        refine wla rfl rfl (q_assign (v := (i64 s8.2)) rfl rfl) ?_
        refine wl_nil ?_
        refine W_th ?_
        refine W_seq ?_
        refine W_seq ?_
        refine W_reg (by kernel_rfl) ?_
        refine wla rfl rfl (q_move (v := (i64 s8.2)) rfl rfl) ?_
        refine wla rfl rfl (q_ltI rfl rfl rfl) ?_
        refine wl_nil ?_
        refine W_th ?_
        refine W_cond _ rfl rfl (fun hb11 => ?_) (fun hb11 => ?_)
        · replace H8 := (if_pos (of_decide_eq_true hb11)).symm.trans H8
          refine W_seq ?_
          refine W_reg (by kernel_rfl) ?_
          refine wla rfl rfl (q_move (v := (i64 s8.2)) rfl rfl) ?_
          refine wla rfl rfl (q_move (v := p0) rfl s0_9) ?_
          refine wla rfl rfl (q_move (v := (i64 s8.2)) rfl rfl) ?_
          refine wla rfl rfl (q_mulI rfl rfl rfl) ?_
          obtain ⟨c12, hc12, H8⟩ := Option.bind_eq_some_iff.1 H8
          refine wla rfl rfl (q_slice (a := (wI (4 * s8.2))) (b := (a0p.length : Int)) rfl T22 rfl (hp0.lift (Lift.ext hE9 _)) rfl rfl hc12) ?_
          obtain ⟨r13, hr13, H8⟩ := Option.bind_eq_some_iff.1 H8
          refine wls rfl rfl (stp_call (vs := [(subV p0 ((wI (4 * s8.2)) : Int).toNat ((a0p.length : Int) : Int).toNat)]) Try.func85 rfl rfl rfl (ar1 rfl) (word_Get_uint32_calls c12 (subV p0 ((wI (4 * s8.2)) : Int).toNat ((a0p.length : Int) : Int).toNat) r13 _ (SlK.cut (L := []) (hp0.lift (Lift.ext hE9 _)) hc12) hr13) ?_)
          rintro _ w13 ⟨rfl, x13⟩
          refine ⟨_, rfl, ?_⟩
          replace o0_9 := o0_9.ext x13
          replace o1_9 := o1_9.ext x13
          have e14 := hE9.trans x13
          refine wla rfl rfl (q_move (v := (.tuple #[(u32 r13.1), (.bool r13.2)])) rfl rfl) ?_
          refine wla rfl rfl (q_extract rfl rfl rfl) ?_
          refine wla rfl rfl (q_extract rfl rfl rfl) ?_
          obtain ⟨c15, hc15, H8⟩ := Option.bind_eq_some_iff.1 H8
          obtain ⟨c16, hc16, H8⟩ := Option.bind_eq_some_iff.1 H8
          refine wla rfl rfl (q_ixA (m := 0) rfl A69 (by exact s3_9) rfl (lenA_eq hc15) hc16) ?_
          refine wln rfl rfl (stp_storeX (b := r13.1) [(bp g1)] [] rfl A69 rfl rfl o1_9 hc16 (one_u32 _) ?_)
          intro w17 o17 g17 l17
          replace o0_9 := o0_9.other g17 q0_1_9
          have e18 := e14.grown g17 n1_9
          refine wl_nil ?_
          refine W_th ?_
          refine W_exit ?_
          refine th_x ?_
          refine bk_x ?_
          refine W_th ?_
          refine W_reg (by kernel_rfl) ?_
          refine wla rfl rfl (q_addI rfl s7_9 rfl) ?_
          refine wla rfl rfl (q_move (v := (i64 ((wI (s8.2 + 1))))) rfl rfl) ?_
          refine wl_nil ?_
          obtain rfl := Option.some.inj H8
          exact ⟨_, rfl, s0_9, s2_9, s3_9, rfl, s61_9, e18, o0_9, n0_9, o17, n1_9, q0_1_9⟩
        · replace H8 := (if_neg (of_decide_eq_false hb11)).symm.trans H8
          refine W_skip ?_
          refine W_th ?_
          refine W_seq ?_
          refine W_draw [3, 7] [(0, 0), (1, 0), (2, 0), (3, 1), (4, 0), (5, 0), (6, 0), (7, 1), (8, 0), (9, 0)] mixed (by kernel_rfl) (by kernel_rfl) (by kernel_rfl) (by kernel_rfl) ?_
          have x19 := Ext.drew w9
          replace o0_9 := o0_9.ext x19
          replace o1_9 := o1_9.ext x19
          have e20 := hE9.trans x19
          refine wsa rfl rfl rfl (q_move (v := (i64 s8.2)) rfl rfl) ?_
          refine wsa rfl rfl rfl (q_subI rfl rfl rfl) ?_
          obtain ⟨c21, hc21, H8⟩ := Option.bind_eq_some_iff.1 H8
          obtain ⟨c22, hc22, H8⟩ := Option.bind_eq_some_iff.1 H8
          refine wsa rfl rfl rfl (q_ixA (m := 0) rfl A69 (by exact s3_9) rfl (lenA_eq hc21) hc22) ?_
          refine wsq rfl rfl rfl (q_loadE (m := 0) rfl A69 rfl o1_9 (seg_self _ _) hc22) ?_
          refine wsa rfl rfl rfl (q_move (v := (i64 s8.2)) rfl rfl) ?_
          refine wsa rfl rfl rfl (q_subI rfl rfl rfl) ?_
          obtain ⟨c23, hc23, H8⟩ := Option.bind_eq_some_iff.1 H8
          refine wsa rfl rfl rfl (q_ixA (m := 0) rfl A69 (by exact s3_9) rfl (lenA_eq hc21) hc23) ?_
          refine wsq rfl rfl rfl (q_loadE (m := 0) rfl A69 rfl o1_9 (seg_self _ _) hc23) ?_
          refine wsa rfl rfl rfl (q_assign (v := (u32 c22)) rfl rfl) ?_
          refine wsa rfl rfl rfl (q_assign (v := (u32 c23)) rfl rfl) ?_
          refine ws_nil ?_
          refine W_th ?_
          refine W_draw [4, 8] [(0, 0), (1, 0), (2, 0), (3, 0), (4, 1), (5, 0), (6, 0), (7, 0), (8, 1), (9, 0), (10, 0), (12, 0), (15, 0), (16, 0), (19, 0), (21, 0), (24, 0), (25, 0), (11, 2), (13, 2), (14, 0), (17, 0), (18, 0), (20, 2), (22, 2), (23, 0), (26, 0), (27, 0), (28, 0), (29, 2)] mixed (by kernel_rfl) (by kernel_rfl) (by kernel_rfl) (by kernel_rfl) ?_
          have x24 := Ext.drew (World.drew w9)
          replace o0_9 := o0_9.ext x24
          replace o1_9 := o1_9.ext x24
          have e25 := e20.trans x24
          refine wsa rfl rfl rfl (q_move (v := (i64 s8.2)) rfl rfl) ?_
          refine wsa rfl rfl rfl (q_move (v := (i64 s8.2)) rfl rfl) ?_
          refine wsa rfl rfl rfl (q_subI rfl rfl rfl) ?_
          obtain ⟨c26, hc26, H8⟩ := Option.bind_eq_some_iff.1 H8
          obtain ⟨c27, hc27, H8⟩ := Option.bind_eq_some_iff.1 H8
          refine wsa rfl rfl rfl (q_ixA (m := 0) rfl A69 (by exact s3_9) rfl (lenA_eq hc26) hc27) ?_
          refine wsq rfl rfl rfl (q_loadE (m := 0) rfl A69 rfl o1_9 (seg_self _ _) hc27) ?_
          refine wsa rfl rfl rfl (q_move (v := (i64 s8.2)) rfl rfl) ?_
          refine wsa rfl rfl rfl (q_subI rfl rfl rfl) ?_
          obtain ⟨c28, hc28, H8⟩ := Option.bind_eq_some_iff.1 H8
          refine wsa rfl rfl rfl (q_ixA (m := 0) rfl A69 (by exact s3_9) rfl (lenA_eq hc26) hc28) ?_
          refine wsq rfl rfl rfl (q_loadE (m := 0) rfl A69 rfl o1_9 (seg_self _ _) hc28) ?_
          refine wsa rfl rfl rfl (q_add32 rfl rfl rfl) ?_
          refine wsa rfl rfl rfl (q_move (v := (u32 c22)) rfl rfl) ?_
          refine wsa rfl rfl rfl (q_move (v := (u32 c22)) rfl rfl) ?_
          refine wsa rfl rfl rfl (q_move (v := (u32 c22)) rfl rfl) ?_
          refine wsa rfl rfl rfl (q_shr32 3 rfl rfl rfl rfl) ?_
          refine wsa rfl rfl rfl (q_move (v := (u32 c23)) rfl rfl) ?_
          refine wsa rfl rfl rfl (q_move (v := (u32 c23)) rfl rfl) ?_
          refine wsa rfl rfl rfl (q_move (v := (u32 c23)) rfl rfl) ?_
          refine wsa rfl rfl rfl (q_shr32 10 rfl rfl rfl rfl) ?_
          obtain ⟨r29, hr29, H8⟩ := Option.bind_eq_some_iff.1 H8
          refine wss rfl rfl rfl (stp_call (vs := [(u32 c22), (i64 (-7))]) Try.func86 rfl rfl rfl (ar2 rfl rfl) (word_Turn_uint32_calls c22 (-7)  r29 _  hr29) ?_)
          rintro _ w29 ⟨rfl, x29⟩
          refine ⟨_, rfl, x29, ?_⟩
          replace o0_9 := o0_9.ext x29
          replace o1_9 := o1_9.ext x29
          have e30 := e25.trans x29
          obtain ⟨r31, hr31, H8⟩ := Option.bind_eq_some_iff.1 H8
          refine wss rfl rfl rfl (stp_call (vs := [(u32 c22), (i64 (-18))]) Try.func86 rfl rfl rfl (ar2 rfl rfl) (word_Turn_uint32_calls c22 (-18)  r31 _  hr31) ?_)
          rintro _ w31 ⟨rfl, x31⟩
          refine ⟨_, rfl, x31, ?_⟩
          replace o0_9 := o0_9.ext x31
          replace o1_9 := o1_9.ext x31
          have e32 := e30.trans x31
          refine wsa rfl rfl rfl (q_xor32 rfl rfl rfl) ?_
          refine wsa rfl rfl rfl (q_xor32 rfl rfl rfl) ?_
          refine wsa rfl rfl rfl (q_add32 rfl rfl rfl) ?_
          obtain ⟨r33, hr33, H8⟩ := Option.bind_eq_some_iff.1 H8
          refine wss rfl rfl rfl (stp_call (vs := [(u32 c23), (i64 (-17))]) Try.func86 rfl rfl rfl (ar2 rfl rfl) (word_Turn_uint32_calls c23 (-17)  r33 _  hr33) ?_)
          rintro _ w33 ⟨rfl, x33⟩
          refine ⟨_, rfl, x33, ?_⟩
          replace o0_9 := o0_9.ext x33
          replace o1_9 := o1_9.ext x33
          have e34 := e32.trans x33
          obtain ⟨r35, hr35, H8⟩ := Option.bind_eq_some_iff.1 H8
          refine wss rfl rfl rfl (stp_call (vs := [(u32 c23), (i64 (-19))]) Try.func86 rfl rfl rfl (ar2 rfl rfl) (word_Turn_uint32_calls c23 (-19)  r35 _  hr35) ?_)
          rintro _ w35 ⟨rfl, x35⟩
          refine ⟨_, rfl, x35, ?_⟩
          replace o0_9 := o0_9.ext x35
          replace o1_9 := o1_9.ext x35
          have e36 := e34.trans x35
          refine wsa rfl rfl rfl (q_xor32 rfl rfl rfl) ?_
          refine wsa rfl rfl rfl (q_xor32 rfl rfl rfl) ?_
          refine wsa rfl rfl rfl (q_add32 rfl rfl rfl) ?_
          obtain ⟨c37, hc37, H8⟩ := Option.bind_eq_some_iff.1 H8
          refine wsa rfl rfl rfl (q_ixA (m := 0) rfl A69 (by exact s3_9) rfl (lenA_eq hc26) hc37) ?_
          refine wsn rfl (by kernel_rfl) rfl rfl (stp_storeX (b := (((c27 + c28) + ((r29 ^^^ r31) ^^^ (shr32 c22 3))) + ((r33 ^^^ r35) ^^^ (shr32 c23 10)))) [(bp g1)] [] rfl A69 rfl rfl o1_9 hc37 (one_u32 _) ?_)
          intro w38 o38 g38 l38
          replace o0_9 := o0_9.other g38 q0_1_9
          have e39 := e36.grown g38 n1_9
          refine ws_nil ?_
          refine bk_n ?_
          refine W_th ?_
          refine W_reg (by kernel_rfl) ?_
          refine wla rfl rfl (q_addI rfl s7_9 rfl) ?_
          refine wla rfl rfl (q_move (v := (i64 ((wI (s8.2 + 1))))) rfl rfl) ?_
          refine wl_nil ?_
          obtain rfl := Option.some.inj H8
          exact ⟨_, rfl, s0_9, s2_9, s3_9, rfl, s61_9, e39, o0_9, n0_9, o38, n1_9, q0_1_9⟩
      · replace H8 := (if_neg (of_decide_eq_false hb10)).symm.trans H8
        refine W_exit ?_
        refine th_x ?_
        obtain rfl := Option.some.inj H8
        obtain rfl := hr8 _ rfl
        refine th_x ?_
        refine bk_x ?_
        exact ⟨s2_9, s3_9, s61_9, hE9, o0_9, n0_9, o1_9, n1_9, q0_1_9⟩
  · rintro _ w41 ⟨s2_41, s3_41, s61_41, hE41, o0_41, n0_41, o1_41, n1_41, q0_1_41⟩
    refine W_th ?_
    refine W_seq ?_
    refine W_reg (by kernel_rfl) ?_
    obtain ⟨c42, hc42, H⟩ := Option.bind_eq_some_iff.1 H
    refine wlq rfl rfl (q_loadA (m := 0) rfl A69 (by exact s3_41) o1_41 (seg_self _ _) (lenA_eq hc42)) ?_
    obtain ⟨c44, hc44, H⟩ := Option.bind_eq_some_iff.1 H
    refine wln rfl rfl (stp_storeA [] [(bp g4)] rfl A69 (by exact s2_41) rfl (lenA_eq hc44) (lenA_eq hc42) o0_41 one_u32 ?_)
    intro w43 o43 g43 l43
    replace o1_41 := o1_41.other g43 q0_1_41.symm
    have e45 := hE41.grown g43 n0_41
    refine wl_nil ?_
    refine W_th ?_
    refine W_ret ?_
    obtain ⟨c46, hc46, H⟩ := Option.bind_eq_some_iff.1 H
    obtain rfl := Option.some.inj H
    refine rtc1 A69 rfl rfl (by exact s2_41) o43 (lenA_eq hc46) s61_41 ?_
    exact ⟨rfl, e45⟩

end Gk

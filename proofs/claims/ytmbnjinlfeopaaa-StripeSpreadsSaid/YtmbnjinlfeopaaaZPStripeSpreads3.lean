/- Parts F5a, Hc, Fj, F5c, Gv, Fk, F5d, Hd, Fm, F5e, R5, Qa, Qb, Qc, one behind the other. What is proved: said at the head of each part. No condition beside those said there. -/
import Derived.Test.YtmbnjinlfeopaaaRows
import Derived.Orders
import Derived.Deep.Draws
import Derived.Laws.World
import Derived.KernelRfl
import Derived.OrdersIn
import Derived.TacticsIn
import Derived.RangeFuncCalls
import Derived.Deep.LoopGhost
import Derived.Tactics
import Derived.Sort.LoopGhostIn
import Derived.RangeFuncLeaves
import Derived.RangeFuncNested
import Derived.RangeFuncRecord
import Derived.Laws.Sem
import Derived.OwnWalk
import Derived.RangeFuncWrites
import Derived.Laws.IdiomCopy
import Derived.WalkKit
import Derived.ProofKit
import Derived.OpenShut
import Derived.ChangeOld
import Derived.Below
import Derived.Test.YtmbnjinlfeopaaaProg
import Derived.MapKept
import Derived.Lib.AppendZerosOnto
import Derived.Laws.CopyRow
import Derived.Laws.Cells
import Derived.Lib.SlBytesConst
import Derived.Test.YtmbnjinlfeopaaaZPStripeSpreads1
import Derived.Test.YtmbnjinlfeopaaaZPStripeSpreads2
set_option maxRecDepth 100000
set_option maxHeartbeats 8000000
set_option linter.unusedVariables false
set_option linter.unusedSimpArgs false
/- Printed by gen.py: for each Go function a pure function, and that the Go code comes to it. No condition beside the equation that says what the pure function gives. -/
namespace Gk
open Go Go.Proofs
noncomputable def cipher_rows (a0s : List UInt8) (a1by : Int) : Option (List UInt8) :=
((iterC (fun s5 : List UInt8 × Int =>
(if s5.2 < 4 then
((iterC (fun s8 : List UInt8 × Int =>
(if s8.2 < 4 then
((lenA 16 a0s).bind fun c11 =>
((idx a0s ((wI ((wI (4 * (andI (wI (s8.2 + (wI (a1by * s5.2)))) 3))) + s5.2)))).bind fun c12 =>
((lenA 16 s8.1).bind fun c13 =>
((idx s8.1 ((wI ((wI (4 * s8.2)) + s5.2)))).bind fun c14 => some (.inl ((s8.1.set ((wI ((wI (4 * s8.2)) + s5.2)) : Int).toNat c12), (wI (s8.2 + 1))))))))
else some (.inr s8.1))) (s5.1, 0)).bind fun x8 => some (.inl (x8, (wI (s5.2 + 1)))))
else some (.inr s5.1))) ((List.replicate 16 (0 : UInt8)), 0)).bind fun x5 =>
((lenA 16 x5).bind fun c22 =>
((lenA 16 a0s).bind fun c24 => some x5)))
theorem cipher_rows_calls (a0s : List UInt8) (a1by : Int) (gio0 : Nat) (r : List UInt8) (w0 : World) (hio0 : Blk w0 gio0 106 (ac u8 a0s)) (H : cipher_rows a0s a1by = some r) :
    Calls Try.prog 98 [(bp gio0), (i64 a1by)].toArray w0 (fun e w' => e = .returned (.tuple #[]) ∧ ExG [(bp gio0)] w0 w' ∧ Blk w' gio0 106 (ac u8 r)) := by
  have hE : ExG [(bp gio0)] w0 w0 := ExG.refl _ w0; unfold cipher_rows at H; refine calls_W (n := 36) Try.func98 rfl rfl rfl ?_; refine W_seq <| W_rg <| ?_; refine wls rfl rfl (sal u8 (List.replicate 16 (0 : UInt8)) [(bp gio0)] rfl Z106 ?_); intro g1 w1 o1 n1 g1r l1; have x1 := grown_ext g1r; have q2 : Nq (bp gio0) (bp g1) := hio0.nq n1; replace hio0 := hio0.ext x1; have n4 := NS.ext hE n1; have e3 := hE.trans x1; refine wnt <| W_seq <| W_seq <| W_rg <| mv (i64 0) rfl rfl <| wnt <| ?_; obtain ⟨x5, G5, H⟩ := bsi H; refine W_mid (fun f w => f 0 = (bp gio0) ∧ f 4 = (bp g1) ∧ f 36 = undef ∧ ExG [(bp gio0)] w0 w ∧ Blk w gio0 106 (ac u8 a0s) ∧ NS [(bp gio0)] w0 (bp gio0) ∧ Blk w g1 106 (ac u8 x5) ∧ NS [(bp gio0)] w0 (bp g1) ∧ Nq (bp gio0) (bp g1)) ?_ ?_
  · refine W_block ?_; refine W_loop (fun s5 f w => f 0 = (bp gio0) ∧ f 1 = (i64 a1by) ∧ f 4 = (bp g1) ∧ f 7 = (i64 s5.2) ∧ f 36 = undef ∧ ExG [(bp gio0)] w0 w ∧ Blk w gio0 106 (ac u8 a0s) ∧ NS [(bp gio0)] w0 (bp gio0) ∧ Blk w g1 106 (ac u8 s5.1) ∧ NS [(bp gio0)] w0 (bp g1) ∧ Nq (bp gio0) (bp g1)) G5 ?_ ?_
    · exact ⟨rfl, rfl, rfl, rfl, rfl, e3, hio0, NS.own, o1, n4, q2⟩
    rintro s5 _ _ w6 ⟨s0_6, s1_6, s4_6, s7_6, s36_6, hE6, o0_6, n0_6, o1_6, n1_6, q0_1_6⟩ H5 hr5; refine W_seq <| W_rg <| wa rfl (q_ltI rfl s7_6 rfl) <| wnt <| W_seq <| ?_; refine W_cond _ rfl rfl (fun hb7 => ?_) (fun hb7 => ?_)
    · replace H5 := ifp hb7 H5; refine W_skip <| W_th <| W_seq <| W_block <| W_seq <| W_rg <| mv (i64 s5.2) rfl s7_6 <| av (i64 s5.2) rfl rfl <| ?_; refine wnt <| W_seq <| W_rg <| mv (i64 0) rfl rfl <| wnt <| ?_; obtain ⟨x8, G8, H5⟩ := bsi H5; refine W_mid (fun f w => f 0 = (bp gio0) ∧ f 1 = (i64 a1by) ∧ f 4 = (bp g1) ∧ f 7 = (i64 s5.2) ∧ f 36 = undef ∧ ExG [(bp gio0)] w0 w ∧ Blk w gio0 106 (ac u8 a0s) ∧ NS [(bp gio0)] w0 (bp gio0) ∧ Blk w g1 106 (ac u8 x8) ∧ NS [(bp gio0)] w0 (bp g1) ∧ Nq (bp gio0) (bp g1)) ?_ ?_
      · refine W_block ?_; refine W_loop (fun s8 f w => f 0 = (bp gio0) ∧ f 1 = (i64 a1by) ∧ f 4 = (bp g1) ∧ f 5 = (i64 s5.2) ∧ f 7 = (i64 s5.2) ∧ f 10 = (i64 s8.2) ∧ f 36 = undef ∧ ExG [(bp gio0)] w0 w ∧ Blk w gio0 106 (ac u8 a0s) ∧ NS [(bp gio0)] w0 (bp gio0) ∧ Blk w g1 106 (ac u8 s8.1) ∧ NS [(bp gio0)] w0 (bp g1) ∧ Nq (bp gio0) (bp g1)) G8 ?_ ?_
        · exact ⟨s0_6, s1_6, s4_6, rfl, s7_6, rfl, s36_6, hE6, o0_6, n0_6, o1_6, n1_6, q0_1_6⟩
        rintro s8 _ _ w9 ⟨s0_9, s1_9, s4_9, s5_9, s7_9, s10_9, s36_9, hE9, o0_9, n0_9, o1_9, n1_9, q0_1_9⟩ H8 hr8; refine W_seq <| W_rg <| wa rfl (q_ltI rfl s10_9 rfl) <| wnt <| W_seq <| ?_; refine W_cond _ rfl rfl (fun hb10 => ?_) (fun hb10 => ?_)
        · replace H8 := ifp hb10 H8; refine W_skip <| W_th <| W_seq <| W_block <| W_seq <| W_rg <| mv (i64 s8.2) rfl s10_9 <| av (i64 s8.2) rfl rfl <| ?_; refine wnt <| W_rg <| mv (i64 s8.2) rfl rfl <| wa rfl (q_mulI rfl rfl rfl) <| mv (i64 s5.2) rfl s5_9 <| wa rfl (q_addI rfl rfl rfl) <| mv (bp gio0) rfl s0_9 <| mv (i64 s8.2) rfl rfl <| ?_; refine mv (i64 a1by) rfl s1_9 <| mv (i64 s5.2) rfl s5_9 <| wa rfl (q_mulI rfl rfl rfl) <| wa rfl (q_addI rfl rfl rfl) <| wa rfl (q_andI rfl rfl rfl) <| wa rfl (q_mulI rfl rfl rfl) <| mv (i64 s5.2) rfl s5_9 <| wa rfl (q_addI rfl rfl rfl) <| ?_; refine wa rfl (q_nilP rfl rfl) ?_; obtain ⟨c11, hc11, H8⟩ := bsi H8; obtain ⟨c12, hc12, H8⟩ := bsi H8; refine wa rfl (q_ixA (m := 0) rfl A106 rfl rfl (lenA_eq hc11) hc12) <| wq rfl (q_loadE (m := 0) rfl A106 rfl o0_9 (seg_self _ _) hc12) <| ?_; obtain ⟨c13, hc13, H8⟩ := bsi H8; obtain ⟨c14, hc14, H8⟩ := bsi H8; refine wa rfl (q_ixA (m := 0) rfl A106 (by exact s4_9) rfl (lenA_eq hc13) hc14) ?_; refine wln rfl rfl (stp_storeX (b := c12) [(bp gio0)] [] rfl A106 rfl rfl o1_9 hc14 (one_u8 _) ?_); intro w15 o15 g15 l15; replace o0_9 := o0_9.other g15 q0_1_9; have e16 := hE9.grown g15 n1_9; refine wl_nil <| bk_n <| W_th <| W_rg <| wa rfl (q_addI rfl s10_9 rfl) <| mv (i64 ((wI (s8.2 + 1)))) rfl rfl <| wl_nil <| ?_; obtain rfl := osi H8; exact ⟨_, rfl, s0_9, s1_9, s4_9, s5_9, s7_9, rfl, s36_9, e16, o0_9, n0_9, o15, n1_9, q0_1_9⟩
        replace H8 := ifn hb10 H8; refine W_exit <| th_x <| ?_; obtain rfl := osi H8; obtain rfl := hr8 _ rfl; refine th_x <| bk_x <| ?_; exact ⟨s0_9, s1_9, s4_9, s7_9, s36_9, hE9, o0_9, n0_9, o1_9, n1_9, q0_1_9⟩
      rintro _ w18 ⟨s0_18, s1_18, s4_18, s7_18, s36_18, hE18, o0_18, n0_18, o1_18, n1_18, q0_1_18⟩; refine bk_n <| W_th <| W_rg <| wa rfl (q_addI rfl s7_18 rfl) <| mv (i64 ((wI (s5.2 + 1)))) rfl rfl <| wl_nil <| ?_; obtain rfl := osi H5; exact ⟨_, rfl, s0_18, s1_18, s4_18, rfl, s36_18, hE18, o0_18, n0_18, o1_18, n1_18, q0_1_18⟩
    replace H5 := ifn hb7 H5; refine W_exit <| th_x <| ?_; obtain rfl := osi H5; obtain rfl := hr5 _ rfl; refine th_x <| bk_x <| ?_; exact ⟨s0_6, s4_6, s36_6, hE6, o0_6, n0_6, o1_6, n1_6, q0_1_6⟩
  rintro _ w21 ⟨s0_21, s4_21, s36_21, hE21, o0_21, n0_21, o1_21, n1_21, q0_1_21⟩; refine W_th <| W_rg <| mv (bp gio0) rfl s0_21 <| ?_; obtain ⟨c22, hc22, H⟩ := bsi H; refine wq rfl (q_loadA (m := 0) rfl A106 (by exact s4_21) o1_21 (seg_self _ _) (lenA_eq hc22)) <| wa rfl (q_nilP rfl rfl) <| ?_; obtain ⟨c24, hc24, H⟩ := bsi H; refine wln rfl rfl (stp_storeA [] [(bp g1)] rfl A106 rfl rfl (lenA_eq hc24) (lenA_eq hc22) o0_21 one_u8 ?_); intro w23 o23 g23 l23; replace o1_21 := o1_21.other g23 q0_1_21.symm; have e25 := hE21.grown g23 n0_21; refine wl_nil ?_; refine rtn ?_; obtain rfl := osi H; refine rt0 rfl s36_21 ?_; exact ⟨rfl, e25, o23⟩
noncomputable def cipher_columns (a0s : List UInt8) (a1f : Bool) (a2p : List UInt8) : Option (List UInt8) :=
((iterC (fun s10 : List UInt8 × Int =>
(if s10.2 < 4 then
((iterC (fun s13 : List UInt8 × Int =>
(if s13.2 < 4 then
((iterC (fun s16 : List UInt8 × Int =>
(if s16.2 < 4 then
((lenA 16 s16.1).bind fun c21 =>
((idx s16.1 ((wI ((wI (4 * s10.2)) + s13.2)))).bind fun c22 =>
((lenA 4 a2p).bind fun c23 =>
((idx a2p ((andI (wI (s13.2 - s16.2)) 3))).bind fun c24 =>
((lenA 16 a0s).bind fun c25 =>
((idx a0s ((wI ((wI (4 * s10.2)) + s16.2)))).bind fun c26 =>
((field_Mul a1f c24 c26).bind fun r27 => some (.inl ((s16.1.set ((wI ((wI (4 * s10.2)) + s13.2)) : Int).toNat ((c22 ^^^ r27))), (wI (s16.2 + 1)))))))))))
else some (.inr s16.1))) (s13.1, 0)).bind fun x16 => some (.inl (x16, (wI (s13.2 + 1)))))
else some (.inr s13.1))) (s10.1, 0)).bind fun x13 => some (.inl (x13, (wI (s10.2 + 1)))))
else some (.inr s10.1))) ((List.replicate 16 (0 : UInt8)), 0)).bind fun x10 =>
((lenA 16 x10).bind fun c39 =>
((lenA 16 a0s).bind fun c41 => some x10)))
theorem cipher_columns_calls (a0s : List UInt8) (a1f : Bool) (a2p : List UInt8) (gio0 : Nat) (p1 : Value) (r : List UInt8) (w0 : World) (hio0 : Blk w0 gio0 106 (ac u8 a0s)) (hp1 : Fd w0 [(bp gio0)] p1 a1f) (H : cipher_columns a0s a1f a2p = some r) :
    Calls Try.prog 100 [(bp gio0), p1, (ag u8 a2p)].toArray w0 (fun e w' => e = .returned (.tuple #[]) ∧ ExG [(bp gio0)] w0 w' ∧ Blk w' gio0 106 (ac u8 r)) := by
  have hE : ExG [(bp gio0)] w0 w0 := ExG.refl _ w0; unfold cipher_columns at H; refine calls_W (n := 49) Try.func100 rfl rfl rfl ?_; refine W_seq <| W_rg <| ?_; refine wls rfl rfl (stp_boxL (v := (ag u8 a2p)) (cs := (ac u8 a2p)) [(bp gio0)] rfl rfl rfl ?_); intro g1 w1 o1 n1 g1r l1; have x1 := grown_ext g1r; have q2 : Nq (bp gio0) (bp g1) := hio0.nq n1; replace hio0 := hio0.ext x1; have n4 := NS.ext hE n1; have e3 := hE.trans x1; refine wnt <| W_seq <| W_rg <| ?_; refine wls rfl rfl (sal u8 (List.replicate 16 (0 : UInt8)) [(bp g1), (bp gio0)] rfl Z106 ?_); intro g5 w5 o5 n5 g5r l5; have x5 := grown_ext g5r; have q6 : Nq (bp g1) (bp g5) := o1.nq n5; have q7 : Nq (bp gio0) (bp g5) := hio0.nq n5; replace o1 := o1.ext x5; replace hio0 := hio0.ext x5; have n9 := NS.ext e3 n5; have e8 := e3.trans x5; refine wnt <| W_seq <| W_seq <| W_rg <| mv (i64 0) rfl rfl <| wnt <| ?_; obtain ⟨x10, G10, H⟩ := bsi H; refine W_mid (fun f w => f 0 = (bp gio0) ∧ f 6 = (bp g5) ∧ f 49 = undef ∧ ExG [(bp gio0)] w0 w ∧ Blk w gio0 106 (ac u8 a0s) ∧ NS [(bp gio0)] w0 (bp gio0) ∧ Blk w g5 106 (ac u8 x10) ∧ NS [(bp gio0)] w0 (bp g5) ∧ Nq (bp gio0) (bp g5)) ?_ ?_
  · refine W_block ?_; refine W_loop (fun s10 f w => f 0 = (bp gio0) ∧ f 1 = p1 ∧ f 5 = (bp g1) ∧ f 6 = (bp g5) ∧ f 10 = (i64 s10.2) ∧ f 49 = undef ∧ ExG [(bp gio0)] w0 w ∧ Blk w gio0 106 (ac u8 a0s) ∧ NS [(bp gio0)] w0 (bp gio0) ∧ Blk w g1 127 (ac u8 a2p) ∧ NS [(bp gio0)] w0 (bp g1) ∧ Blk w g5 106 (ac u8 s10.1) ∧ NS [(bp gio0)] w0 (bp g5) ∧ Nq (bp gio0) (bp g1) ∧ Nq (bp gio0) (bp g5) ∧ Nq (bp g1) (bp g5)) G10 ?_ ?_
    · exact ⟨rfl, rfl, rfl, rfl, rfl, rfl, e8, hio0, NS.own, o1, n4, o5, n9, q2, q7, q6⟩
    rintro s10 _ _ w11 ⟨s0_11, s1_11, s5_11, s6_11, s10_11, s49_11, hE11, o0_11, n0_11, o1_11, n1_11, o2_11, n2_11, q0_1_11, q0_2_11, q1_2_11⟩ H10 hr10; refine W_seq <| W_rg <| wa rfl (q_ltI rfl s10_11 rfl) <| wnt <| W_seq <| ?_; refine W_cond _ rfl rfl (fun hb12 => ?_) (fun hb12 => ?_)
    · replace H10 := ifp hb12 H10; refine W_skip <| W_th <| W_seq <| W_block <| W_seq <| W_rg <| mv (i64 s10.2) rfl s10_11 <| av (i64 s10.2) rfl rfl <| ?_; refine wnt <| W_seq <| W_rg <| mv (i64 0) rfl rfl <| wnt <| ?_; obtain ⟨x13, G13, H10⟩ := bsi H10; refine W_mid (fun f w => f 0 = (bp gio0) ∧ f 1 = p1 ∧ f 5 = (bp g1) ∧ f 6 = (bp g5) ∧ f 10 = (i64 s10.2) ∧ f 49 = undef ∧ ExG [(bp gio0)] w0 w ∧ Blk w gio0 106 (ac u8 a0s) ∧ NS [(bp gio0)] w0 (bp gio0) ∧ Blk w g1 127 (ac u8 a2p) ∧ NS [(bp gio0)] w0 (bp g1) ∧ Blk w g5 106 (ac u8 x13) ∧ NS [(bp gio0)] w0 (bp g5) ∧ Nq (bp gio0) (bp g1) ∧ Nq (bp gio0) (bp g5) ∧ Nq (bp g1) (bp g5)) ?_ ?_
      · refine W_block ?_; refine W_loop (fun s13 f w => f 0 = (bp gio0) ∧ f 1 = p1 ∧ f 5 = (bp g1) ∧ f 6 = (bp g5) ∧ f 7 = (i64 s10.2) ∧ f 10 = (i64 s10.2) ∧ f 13 = (i64 s13.2) ∧ f 49 = undef ∧ ExG [(bp gio0)] w0 w ∧ Blk w gio0 106 (ac u8 a0s) ∧ NS [(bp gio0)] w0 (bp gio0) ∧ Blk w g1 127 (ac u8 a2p) ∧ NS [(bp gio0)] w0 (bp g1) ∧ Blk w g5 106 (ac u8 s13.1) ∧ NS [(bp gio0)] w0 (bp g5) ∧ Nq (bp gio0) (bp g1) ∧ Nq (bp gio0) (bp g5) ∧ Nq (bp g1) (bp g5)) G13 ?_ ?_
        · exact ⟨s0_11, s1_11, s5_11, s6_11, rfl, s10_11, rfl, s49_11, hE11, o0_11, n0_11, o1_11, n1_11, o2_11, n2_11, q0_1_11, q0_2_11, q1_2_11⟩
        rintro s13 _ _ w14 ⟨s0_14, s1_14, s5_14, s6_14, s7_14, s10_14, s13_14, s49_14, hE14, o0_14, n0_14, o1_14, n1_14, o2_14, n2_14, q0_1_14, q0_2_14, q1_2_14⟩ H13 hr13; refine W_seq <| W_rg <| wa rfl (q_ltI rfl s13_14 rfl) <| wnt <| W_seq <| ?_; refine W_cond _ rfl rfl (fun hb15 => ?_) (fun hb15 => ?_)
        · replace H13 := ifp hb15 H13; refine W_skip <| W_th <| W_seq <| W_block <| W_seq <| W_rg <| mv (i64 s13.2) rfl s13_14 <| av (i64 s13.2) rfl rfl <| ?_; refine wnt <| W_seq <| W_rg <| mv (i64 0) rfl rfl <| wnt <| ?_; obtain ⟨x16, G16, H13⟩ := bsi H13; refine W_mid (fun f w => f 0 = (bp gio0) ∧ f 1 = p1 ∧ f 5 = (bp g1) ∧ f 6 = (bp g5) ∧ f 7 = (i64 s10.2) ∧ f 10 = (i64 s10.2) ∧ f 13 = (i64 s13.2) ∧ f 49 = undef ∧ ExG [(bp gio0)] w0 w ∧ Blk w gio0 106 (ac u8 a0s) ∧ NS [(bp gio0)] w0 (bp gio0) ∧ Blk w g1 127 (ac u8 a2p) ∧ NS [(bp gio0)] w0 (bp g1) ∧ Blk w g5 106 (ac u8 x16) ∧ NS [(bp gio0)] w0 (bp g5) ∧ Nq (bp gio0) (bp g1) ∧ Nq (bp gio0) (bp g5) ∧ Nq (bp g1) (bp g5)) ?_ ?_
          · refine W_block ?_; refine W_loop (fun s16 f w => f 0 = (bp gio0) ∧ f 1 = p1 ∧ f 5 = (bp g1) ∧ f 6 = (bp g5) ∧ f 7 = (i64 s10.2) ∧ f 8 = (i64 s13.2) ∧ f 10 = (i64 s10.2) ∧ f 13 = (i64 s13.2) ∧ f 16 = (i64 s16.2) ∧ f 49 = undef ∧ ExG [(bp gio0)] w0 w ∧ Blk w gio0 106 (ac u8 a0s) ∧ NS [(bp gio0)] w0 (bp gio0) ∧ Blk w g1 127 (ac u8 a2p) ∧ NS [(bp gio0)] w0 (bp g1) ∧ Blk w g5 106 (ac u8 s16.1) ∧ NS [(bp gio0)] w0 (bp g5) ∧ Nq (bp gio0) (bp g1) ∧ Nq (bp gio0) (bp g5) ∧ Nq (bp g1) (bp g5)) G16 ?_ ?_
            · exact ⟨s0_14, s1_14, s5_14, s6_14, s7_14, rfl, s10_14, s13_14, rfl, s49_14, hE14, o0_14, n0_14, o1_14, n1_14, o2_14, n2_14, q0_1_14, q0_2_14, q1_2_14⟩
            rintro s16 _ _ w17 ⟨s0_17, s1_17, s5_17, s6_17, s7_17, s8_17, s10_17, s13_17, s16_17, s49_17, hE17, o0_17, n0_17, o1_17, n1_17, o2_17, n2_17, q0_1_17, q0_2_17, q1_2_17⟩ H16 hr16; refine W_seq <| W_rg <| wa rfl (q_ltI rfl s16_17 rfl) <| wnt <| W_seq <| ?_; refine W_cond _ rfl rfl (fun hb18 => ?_) (fun hb18 => ?_)
            · replace H16 := ifp hb18 H16; refine W_skip <| W_th <| W_seq <| W_block <| W_seq <| W_rg <| mv (i64 s16.2) rfl s16_17 <| av (i64 s16.2) rfl rfl <| ?_; refine wnt ?_; refine W_draw [5, 12, 20] [(0, 0), (1, 0), (2, 0), (3, 0), (4, 0), (5, 1), (6, 0), (7, 0), (8, 0), (9, 0), (10, 0), (11, 0), (12, 1), (13, 0), (14, 0), (15, 0), (16, 0), (17, 0), (18, 0), (19, 0), (20, 1), (21, 2), (22, 0), (23, 0), (24, 2)] mixed (by kernel_rfl) (by kernel_rfl) (by kernel_rfl) (by kernel_rfl) ?_; have x19 := Ext.drew w17; replace o0_17 := o0_17.ext x19; replace o1_17 := o1_17.ext x19; replace o2_17 := o2_17.ext x19; have e20 := hE17.trans x19; refine sv (i64 s10.2) rfl rfl s7_17 <| sa rfl rfl (q_mulI rfl rfl rfl) <| sv (i64 s13.2) rfl rfl s8_17 <| sa rfl rfl (q_addI rfl rfl rfl) <| ?_; obtain ⟨c21, hc21, H16⟩ := bsi H16; obtain ⟨c22, hc22, H16⟩ := bsi H16; refine sa rfl rfl (q_ixA (m := 0) rfl A106 (by exact s6_17) rfl (lenA_eq hc21) hc22) <| sq rfl rfl (q_loadE (m := 0) rfl A106 rfl o2_17 (seg_self _ _) hc22) <| sv p1 rfl rfl s1_17 <| sv (i64 s13.2) rfl rfl s8_17 <| sv (i64 s16.2) rfl rfl rfl <| sa rfl rfl (q_subI rfl rfl rfl) <| sa rfl rfl (q_andI rfl rfl rfl) <| ?_; obtain ⟨c23, hc23, H16⟩ := bsi H16; obtain ⟨c24, hc24, H16⟩ := bsi H16; refine sa rfl rfl (q_ixA (m := 0) rfl A127 (by exact s5_17) rfl (lenA_eq hc23) hc24) <| sq rfl rfl (q_loadE (m := 0) rfl A127 rfl o1_17 (seg_self _ _) hc24) <| sv (bp gio0) rfl rfl s0_17 <| sv (i64 s10.2) rfl rfl s7_17 <| sa rfl rfl (q_mulI rfl rfl rfl) <| sv (i64 s16.2) rfl rfl rfl <| sa rfl rfl (q_addI rfl rfl rfl) <| sa rfl rfl (q_nilP rfl rfl) <| ?_; obtain ⟨c25, hc25, H16⟩ := bsi H16; obtain ⟨c26, hc26, H16⟩ := bsi H16; refine sa rfl rfl (q_ixA (m := 0) rfl A106 rfl rfl (lenA_eq hc25) hc26) <| sq rfl rfl (q_loadE (m := 0) rfl A106 rfl o0_17 (seg_self _ _) hc26) <| ?_; obtain ⟨r27, hr27, H16⟩ := bsi H16; refine wss rfl rfl rfl (stp_call (vs := [p1, (u8 c24), (u8 c26)]) Try.func68 rfl rfl rfl (ar3 rfl rfl rfl) (field_Mul_calls a1f c24 c26 p1 r27 _ (hp1.lift (Lift.exg0 e20)) hr27) ?_); rintro _ w27 ⟨rfl, x27⟩; refine ⟨_, rfl, x27, ?_⟩; replace o0_17 := o0_17.ext x27; replace o1_17 := o1_17.ext x27; replace o2_17 := o2_17.ext x27; have e28 := e20.trans x27; refine sa rfl rfl (q_xor8 rfl rfl rfl) <| sa rfl rfl (q_ixA (m := 0) rfl A106 (by exact s6_17) rfl (lenA_eq hc21) hc22) <| ?_
              refine wsn rfl (by kernel_rfl) rfl rfl (stp_storeX (b := (c22 ^^^ r27)) [(bp gio0), (bp g1)] [] rfl A106 rfl rfl o2_17 hc22 (one_u8 _) ?_); intro w29 o29 g29 l29; replace o0_17 := o0_17.other g29 q0_2_17; replace o1_17 := o1_17.other g29 q1_2_17; have e30 := e28.grown g29 n2_17; refine ws_nil ?_; refine bk_n <| W_th <| W_rg <| wa rfl (q_addI rfl s16_17 rfl) <| mv (i64 ((wI (s16.2 + 1)))) rfl rfl <| wl_nil <| ?_; obtain rfl := osi H16; exact ⟨_, rfl, s0_17, s1_17, s5_17, s6_17, s7_17, s8_17, s10_17, s13_17, rfl, s49_17, e30, o0_17, n0_17, o1_17, n1_17, o29, n2_17, q0_1_17, q0_2_17, q1_2_17⟩
            replace H16 := ifn hb18 H16; refine W_exit <| th_x <| ?_; obtain rfl := osi H16; obtain rfl := hr16 _ rfl; refine th_x <| bk_x <| ?_; exact ⟨s0_17, s1_17, s5_17, s6_17, s7_17, s10_17, s13_17, s49_17, hE17, o0_17, n0_17, o1_17, n1_17, o2_17, n2_17, q0_1_17, q0_2_17, q1_2_17⟩
          rintro _ w32 ⟨s0_32, s1_32, s5_32, s6_32, s7_32, s10_32, s13_32, s49_32, hE32, o0_32, n0_32, o1_32, n1_32, o2_32, n2_32, q0_1_32, q0_2_32, q1_2_32⟩; refine bk_n <| W_th <| W_rg <| wa rfl (q_addI rfl s13_32 rfl) <| mv (i64 ((wI (s13.2 + 1)))) rfl rfl <| wl_nil <| ?_; obtain rfl := osi H13; exact ⟨_, rfl, s0_32, s1_32, s5_32, s6_32, s7_32, s10_32, rfl, s49_32, hE32, o0_32, n0_32, o1_32, n1_32, o2_32, n2_32, q0_1_32, q0_2_32, q1_2_32⟩
        replace H13 := ifn hb15 H13; refine W_exit <| th_x <| ?_; obtain rfl := osi H13; obtain rfl := hr13 _ rfl; refine th_x <| bk_x <| ?_; exact ⟨s0_14, s1_14, s5_14, s6_14, s10_14, s49_14, hE14, o0_14, n0_14, o1_14, n1_14, o2_14, n2_14, q0_1_14, q0_2_14, q1_2_14⟩
      rintro _ w35 ⟨s0_35, s1_35, s5_35, s6_35, s10_35, s49_35, hE35, o0_35, n0_35, o1_35, n1_35, o2_35, n2_35, q0_1_35, q0_2_35, q1_2_35⟩; refine bk_n <| W_th <| W_rg <| wa rfl (q_addI rfl s10_35 rfl) <| mv (i64 ((wI (s10.2 + 1)))) rfl rfl <| wl_nil <| ?_; obtain rfl := osi H10; exact ⟨_, rfl, s0_35, s1_35, s5_35, s6_35, rfl, s49_35, hE35, o0_35, n0_35, o1_35, n1_35, o2_35, n2_35, q0_1_35, q0_2_35, q1_2_35⟩
    replace H10 := ifn hb12 H10; refine W_exit <| th_x <| ?_; obtain rfl := osi H10; obtain rfl := hr10 _ rfl; refine th_x <| bk_x <| ?_; exact ⟨s0_11, s6_11, s49_11, hE11, o0_11, n0_11, o2_11, n2_11, q0_2_11⟩
  rintro _ w38 ⟨s0_38, s6_38, s49_38, hE38, o0_38, n0_38, o1_38, n1_38, q0_1_38⟩; refine W_th <| W_rg <| mv (bp gio0) rfl s0_38 <| ?_; obtain ⟨c39, hc39, H⟩ := bsi H; refine wq rfl (q_loadA (m := 0) rfl A106 (by exact s6_38) o1_38 (seg_self _ _) (lenA_eq hc39)) <| wa rfl (q_nilP rfl rfl) <| ?_; obtain ⟨c41, hc41, H⟩ := bsi H; refine wln rfl rfl (stp_storeA [] [(bp g5)] rfl A106 rfl rfl (lenA_eq hc41) (lenA_eq hc39) o0_38 one_u8 ?_); intro w40 o40 g40 l40; replace o1_38 := o1_38.other g40 q0_1_38.symm; have e42 := hE38.grown g40 n0_38; refine wl_nil ?_; refine rtn ?_; obtain rfl := osi H; refine rt0 rfl s49_38 ?_; exact ⟨rfl, e42, o40⟩
noncomputable def cipher_through (a0box : List UInt8) (a1b : List UInt8) : Option (List UInt8) :=
((slices_Clone_sbytebyte a1b).bind fun r1 =>
((iterC (fun s4 : List UInt8 × Int =>
(if s4.2 < (a1b.length : Int) then
((idx a1b s4.2).bind fun c7 =>
((lenA 256 a0box).bind fun c8 =>
((idx a0box ((c7.toNat : Int))).bind fun c9 =>
((idx s4.1 s4.2).bind fun c10 => some (.inl ((s4.1.set (s4.2 : Int).toNat c9), (wI (s4.2 + 1))))))))
else some (.inr s4.1))) (r1, 0)).bind fun x4 => some x4))
theorem cipher_through_calls (a0box : List UInt8) (a1b : List UInt8) (p0 : Value) (p1 : Value) (r : List UInt8) (w0 : World) (hp0 : Pa w0 [] p0 a0box) (hp1 : By w0 [] p1 a1b) (H : cipher_through a0box a1b = some r) :
    Calls Try.prog 70 [p0, p1].toArray w0 (fun e w' => ∃ u0 : Value, e = .returned u0 ∧ Ext w0 w' ∧ Nw w0 u0 ∧ OwK (Sc u8) w' [] 5 u0 r) := by
  have hE : Ext w0 w0 := Ext.refl w0; unfold cipher_through at H; refine calls_W (n := 27) Try.func70 rfl rfl rfl ?_; refine W_seq <| W_rg <| av (.slice none 0 0) rfl rfl <| wnt <| W_seq <| W_rg <| mv p1 rfl rfl <| ?_; obtain ⟨r1, hr1, H⟩ := bsi H; refine wls rfl rfl (stp_call (vs := [p1]) Try.func35 rfl rfl rfl (ar1 rfl) (slices_Clone_sbytebyte_calls a1b p1 r1 _ (hp1.lift (Lift.ext hE _)) hr1) ?_); rintro _ w1 ⟨v1, rfl, x1, n1_0, o1_0⟩; refine ⟨_, rfl, ?_⟩; have o1 : OwK (Sc u8) w1 (v1 :: []) 5 v1 r1 := OwK.scal o1_0 _; have n3 := Nw.ext hE n1_0; have e2 := hE.trans x1; refine av v1 rfl rfl <| wnt <| W_seq <| W_seq <| W_rg <| mv p1 rfl rfl <| wa rfl (q_len rfl T22.sl rfl (hp1.lift (Lift.ext e2 _))) <| mv (i64 0) rfl rfl <| ?_; refine wnt ?_; obtain ⟨x4, G4, H⟩ := bsi H; refine W_mid (fun f w => f 5 = v1 ∧ f 27 = undef ∧ Ext w0 w ∧ OwK (Sc u8) w [v1] 5 v1 x4 ∧ Nw w0 v1) ?_ ?_
  · refine W_block ?_; refine W_loop (fun s4 f w => f 0 = p0 ∧ f 5 = v1 ∧ f 10 = p1 ∧ f 11 = (i64 ((a1b.length : Int))) ∧ f 12 = (i64 s4.2) ∧ f 27 = undef ∧ Ext w0 w ∧ OwK (Sc u8) w [v1] 5 v1 s4.1 ∧ Nw w0 v1) G4 ?_ ?_
    · exact ⟨rfl, rfl, rfl, rfl, rfl, rfl, e2, o1, n3⟩
    rintro s4 _ _ w5 ⟨s0_5, s5_5, s10_5, s11_5, s12_5, s27_5, hE5, o0_5, n0_5⟩ H4 hr4; refine W_seq <| W_rg <| wa rfl (q_ltI rfl s12_5 s11_5) <| wnt <| W_seq <| ?_; refine W_cond _ rfl rfl (fun hb6 => ?_) (fun hb6 => ?_)
    · replace H4 := ifp hb6 H4; refine W_skip <| W_th <| W_seq <| W_block <| W_seq <| W_rg <| mv (i64 s4.2) rfl s12_5 <| ?_; obtain ⟨c7, hc7, H4⟩ := bsi H4; refine wa rfl (q_adr rfl T22 s10_5 s12_5 (hp1.lift (Lift.ext hE5 _)) hc7) <| wq rfl (q_loadS rfl T22 rfl (hp1.lift (Lift.ext hE5 _)) hc7) <| av (i64 s4.2) rfl rfl <| av (u8 c7) rfl rfl <| wnt <| W_rg <| mv v1 rfl s5_5 <| mv (i64 s4.2) rfl rfl <| ?_; refine mv p0 rfl s0_5 <| mv (u8 c7) rfl rfl <| wa rfl (q_nilPa rfl rfl (hp0.lift (Lift.ext hE5 _))) <| ?_; obtain ⟨c8, hc8, H4⟩ := bsi H4; obtain ⟨c9, hc9, H4⟩ := bsi H4; refine wa rfl (q_ixPa8 rfl A98 rfl (hp0.lift (Lift.ext hE5 _)) rfl (lenA_eq hc8) hc9) <| wq rfl (q_loadPa rfl T22 rfl (hp0.lift (Lift.ext hE5 _)) hc9) <| ?_; obtain ⟨c10, hc10, H4⟩ := bsi H4; refine wa rfl (q_adr rfl T22 rfl rfl (o0_5.rd (Sc.stab _)) hc10) ?_; refine wln rfl rfl (stp_store (R := (Sc u8)) (u := (u8 c9)) (Sc.stab _) [] [] rfl T22 rfl rfl o0_5 (put_of c9 hc10) rfl rfl ?_); intro w11 o11 g11 l11; have e12 := hE5.grown g11 n0_5; refine wl_nil <| bk_n <| W_th <| W_rg <| wa rfl (q_addI rfl s12_5 rfl) <| mv (i64 ((wI (s4.2 + 1)))) rfl rfl <| wl_nil <| ?_; obtain rfl := osi H4; exact ⟨_, rfl, s0_5, s5_5, s10_5, s11_5, rfl, s27_5, e12, o11, n0_5⟩
    replace H4 := ifn hb6 H4; refine W_exit <| th_x <| ?_; obtain rfl := osi H4; obtain rfl := hr4 _ rfl; refine th_x <| bk_x <| ?_; exact ⟨s5_5, s27_5, hE5, o0_5, n0_5⟩
  rintro _ w14 ⟨s5_14, s27_14, hE14, o0_14, n0_14⟩; refine W_th <| W_seq <| W_rg <| mv v1 rfl s5_14 <| av v1 rfl rfl <| wnt <| W_ret <| ?_; obtain rfl := osi H; refine rt1 v1 rfl rfl rfl s27_14 ?_; exact ⟨v1, rfl, hE14, n0_14, (o0_14.weak (Sc.stab _) (fun _ _ => trivial))⟩
noncomputable def cipher_add (a0s : List UInt8) (a1key : List UInt8) : Option (List UInt8) :=
((lenA 16 a0s).bind fun c7 =>
((lenA 16 a1key).bind fun c8 =>
((word_Xor a0s a1key).bind fun r9 => some (copyL a0s 0 r9))))
theorem cipher_add_calls (a0s : List UInt8) (a1key : List UInt8) (gio0 : Nat) (r : List UInt8) (w0 : World) (hio0 : Blk w0 gio0 106 (ac u8 a0s)) (H : cipher_add a0s a1key = some r) :
    Calls Try.prog 96 [(bp gio0), (ag u8 a1key)].toArray w0 (fun e w' => e = .returned (.tuple #[]) ∧ ExG [(bp gio0)] w0 w' ∧ Blk w' gio0 106 (ac u8 r)) := by
  have hE : ExG [(bp gio0)] w0 w0 := ExG.refl _ w0; unfold cipher_add at H; refine calls_W (n := 13) Try.func96 rfl rfl rfl ?_; refine W_seq <| W_rg <| ?_; refine wls rfl rfl (stp_boxL (v := (ag u8 a1key)) (cs := (ac u8 a1key)) [(bp gio0)] rfl rfl rfl ?_); intro g1 w1 o1 n1 g1r l1; have x1 := grown_ext g1r; have q2 : Nq (bp gio0) (bp g1) := hio0.nq n1; replace hio0 := hio0.ext x1; have n4 := NS.ext hE n1; have e3 := hE.trans x1; refine wnt ?_; refine W_draw [] [(0, 0), (1, 0), (2, 0), (3, 0), (4, 0), (5, 0), (6, 0), (7, 2), (8, 2)] mixed (by kernel_rfl) (by kernel_rfl) (by kernel_rfl) (by kernel_rfl) ?_; have x5 := Ext.drew w1; replace o1 := o1.ext x5; replace hio0 := hio0.ext x5; have e6 := e3.trans x5; refine sv (bp gio0) rfl rfl rfl <| sa rfl rfl (q_nilP rfl rfl) <| ?_; obtain ⟨c7, hc7, H⟩ := bsi H; refine sa rfl rfl (q_sliceA rfl A106 rfl) <| sv (bp gio0) rfl rfl rfl <| sa rfl rfl (q_nilP rfl rfl) <| sa rfl rfl (q_sliceA rfl A106 rfl) <| ?_; obtain ⟨c8, hc8, H⟩ := bsi H; refine sa rfl rfl (q_sliceA rfl A106 rfl) ?_; obtain ⟨r9, hr9, H⟩ := bsi H; refine wsc rfl (by kernel_rfl) rfl rfl (stp_call (vs := [(.slice (some ⟨gio0, 0, none⟩) 16 16), (.slice (some ⟨g1, 0, none⟩) 16 16)]) Try.func32 rfl rfl rfl (ar2 rfl rfl) (word_Xor_calls a0s a1key (.slice (some ⟨gio0, 0, none⟩) 16 16) (.slice (some ⟨g1, 0, none⟩) 16 16) r9 _ (Blk.by hio0 (lenA_eq hc7)) (Blk.by o1 (lenA_eq hc8)) hr9) ?_); rintro _ w9 ⟨v9, rfl, x9, n9_0, o9_0⟩; refine ⟨_, rfl, ?_⟩; have i9_0 : By w9 [(bp g1), (bp gio0)] v9 r9 := OwK.slk (Sc.stab _) _ (OwK.scal o9_0 (v9 :: [(bp g1), (bp gio0)])) (fun k hk => (Old.cons (Old.cons (Old.nil _) hio0.ltB) o1.ltB) k (n9_0 k hk)) (fun _ h => h.2); replace o1 := o1.ext x9; replace hio0 := hio0.ext x9; have e10 := e6.trans x9; refine wsc rfl (by kernel_rfl) rfl rfl (stp_copyA (u := v9) [(bp g1)] [] rfl T22 rfl rfl hio0 (lenA_eq hc7) i9_0 ?_); intro w11 o11 g11 l11; replace i9_0 := i9_0.lift l11; replace o1 := o1.other g11 q2.symm; have e12 := e10.grown g11 NS.own; refine ws_nil ?_; refine rtn ?_; obtain rfl := osi H; refine rt0 rfl rfl ?_; exact ⟨rfl, e12, o11⟩
noncomputable def cipher_box (a0s : List UInt8) (a1b : List UInt8) : Option (List UInt8) :=
((lenA 16 a0s).bind fun c3 =>
((cipher_through a1b a0s).bind fun r4 => some (copyL a0s 0 r4)))
theorem cipher_box_calls (a0s : List UInt8) (a1b : List UInt8) (gio0 : Nat) (p1 : Value) (r : List UInt8) (w0 : World) (hio0 : Blk w0 gio0 106 (ac u8 a0s)) (hp1 : Pa w0 [(bp gio0)] p1 a1b) (H : cipher_box a0s a1b = some r) :
    Calls Try.prog 97 [(bp gio0), p1].toArray w0 (fun e w' => e = .returned (.tuple #[]) ∧ ExG [(bp gio0)] w0 w' ∧ Blk w' gio0 106 (ac u8 r)) := by
  have hE : ExG [(bp gio0)] w0 w0 := ExG.refl _ w0; unfold cipher_box at H; refine calls_W (n := 13) Try.func97 rfl rfl rfl ?_; refine W_draw [] [(0, 0), (1, 0), (2, 0), (3, 0), (4, 0), (5, 0), (6, 0), (7, 2), (8, 2)] mixed (by kernel_rfl) (by kernel_rfl) (by kernel_rfl) (by kernel_rfl) ?_; have x1 := Ext.drew w0; replace hio0 := hio0.ext x1; have e2 := hE.trans x1; refine sv (bp gio0) rfl rfl rfl <| sa rfl rfl (q_nilP rfl rfl) <| ?_; obtain ⟨c3, hc3, H⟩ := bsi H; refine sa rfl rfl (q_sliceA rfl A106 rfl) <| sv p1 rfl rfl rfl <| sv (bp gio0) rfl rfl rfl <| sa rfl rfl (q_nilP rfl rfl) <| sa rfl rfl (q_sliceA rfl A106 rfl) <| ?_; obtain ⟨r4, hr4, H⟩ := bsi H; refine wsc rfl (by kernel_rfl) rfl rfl (stp_call (vs := [p1, (.slice (some ⟨gio0, 0, none⟩) 16 16)]) Try.func70 rfl rfl rfl (ar2 rfl rfl) (cipher_through_calls a1b a0s p1 (.slice (some ⟨gio0, 0, none⟩) 16 16) r4 _ (hp1.lift (Lift.exg0 e2)) (Blk.by hio0 (lenA_eq hc3)) hr4) ?_); rintro _ w4 ⟨v4, rfl, x4, n4_0, o4_0⟩; refine ⟨_, rfl, ?_⟩; have i4_0 : By w4 [(bp gio0)] v4 r4 := OwK.slk (Sc.stab _) _ (OwK.scal o4_0 (v4 :: [(bp gio0)])) (fun k hk => (Old.cons (Old.nil _) hio0.ltB) k (n4_0 k hk)) (fun _ h => h.2); replace hio0 := hio0.ext x4; have e5 := e2.trans x4; refine wsc rfl (by kernel_rfl) rfl rfl (stp_copyA (u := v4) [] [] rfl T22 rfl rfl hio0 (lenA_eq hc3) i4_0 ?_); intro w6 o6 g6 l6; replace i4_0 := i4_0.lift l6; have e7 := e5.grown g6 NS.own; refine ws_nil ?_; refine rtn ?_; obtain rfl := osi H; refine rt0 rfl rfl ?_; exact ⟨rfl, e7, o6⟩
end Gk

/- Slices of arrays of sixteen bytes, read and owned. No condition. -/
namespace Gk
open Go Go.RowKit
theorem Tn.low {B k : Nat} {w w' : World} {o : Obj} (h : Tn B w w') (ho : w.heap[k]? = some o) (hk : k < B) : w'.heap[k]? = some o := by
  obtain ⟨row, hg, hr⟩ := h
  exact (hg.block k (lt_of_get ho) (fun e => by have := (hr k e.symm).1; omega)).trans ho
def L16 (l : List (List UInt8)) : Prop := ∀ x ∈ l, x.length = 16
theorem L16.nil : L16 [] := fun x h => by cases h
theorem L16.tail {x : List UInt8} {l : List (List UInt8)} (h : L16 (x :: l)) : L16 l := fun y hy => h y (List.mem_cons_of_mem _ hy)
theorem L16.app {l m : List (List UInt8)} (h : L16 l) (k : L16 m) : L16 (l ++ m) := fun y hy => (List.mem_append.1 hy).elim (h y) (k y)
theorem L16.flat : ∀ {l : List (List UInt8)}, L16 l → l.flatten.length = 16 * l.length
  | [], _ => rfl
  | x :: l, h => by
    have := L16.flat h.tail
    have h1 := h x (List.mem_cons_self ..)
    simp only [List.flatten_cons, List.length_append, List.length_cons]; omega
theorem L16.cut : ∀ {l : List (List UInt8)}, L16 l → ∀ (a b : Nat), (l.flatten.take (16 * b)).drop (16 * a) = ((l.take b).drop a).flatten
  | [], _, a, b => by simp
  | x :: l, h, a, 0 => by simp
  | x :: l, h, 0, b + 1 => by
    have h1 := h x (List.mem_cons_self ..)
    have ih := L16.cut h.tail 0 b
    simp only [Nat.mul_zero, List.drop_zero] at ih ⊢
    rw [List.flatten_cons, List.take_append, List.take_of_length_le (by omega), show 16 * (b + 1) - x.length = 16 * b by omega, ih]
    simp
  | x :: l, h, a + 1, b + 1 => by
    have h1 := h x (List.mem_cons_self ..)
    have ih := L16.cut h.tail a b
    rw [List.flatten_cons, List.take_append, List.take_of_length_le (by omega), show 16 * (b + 1) - x.length = 16 * b by omega, List.drop_append, List.drop_of_length_le (by omega), show 16 * (a + 1) - x.length = 16 * a by omega, ih]
    simp
theorem L16.at {l : List (List UInt8)} (h : L16 l) {i : Nat} (hi : i < l.length) : (l.flatten.take (16 * (i + 1))).drop (16 * i) = l[i] := by
  rw [h.cut i (i + 1), List.take_add_one, List.drop_append, List.drop_of_length_le (by simp; omega)]
  simp [hi, Nat.min_eq_left (Nat.le_of_lt hi)]
structure TyK (P : Program) (t e b : TypeId) : Prop where
  sl : P.underlying t = some (.slice e)
  arr : TyA P e b 16
  info : (P.info? e).map (fun i => (i.zero, i.size, i.bytes)) = some (some (ag u8 (List.replicate 16 (0 : UInt8))), 16, 16)
def Ka (w : World) (L : List Value) (v : Value) (l : List (List UInt8)) : Prop :=
  L16 l ∧ ∃ p cap, v = .slice p l.length cap ∧ l.length ≤ cap ∧ By w L (.slice p (16 * l.length) (16 * cap)) l.flatten
theorem Ka.lift {w w' : World} {L L' : List Value} {v : Value} {l : List (List UInt8)} (h : Ka w L v l) (g : Lift w w' L L') : Ka w' L' v l := by
  obtain ⟨h1, p, cap, hv, hc, hb⟩ := h
  exact ⟨h1, p, cap, hv, hc, hb.lift g⟩
theorem Ka.oc {w : World} {L : List Value} {v : Value} {l : List (List UInt8)} (h : Ka w L v l) : v.oneCell' = true := by
  obtain ⟨_, p, cap, rfl, _⟩ := h; rfl
def adk (v : Value) (i : Nat) : Value := match v with | .slice (some a) _ _ => .pointer (some (a.add (i * 16))) | _ => undef
def subK (v : Value) (lo hi : Nat) : Value := match v with | .slice a _ cap => .slice (if cap = lo then a else a.map (·.add (lo * 16))) (hi - lo) (cap - lo) | v => v
section
variable {P : Program} {o : Oper} {f : Nat → Value} {w : World} {L : List Value} {t e b : TypeId} {v : Value} {l m : List (List UInt8)} {x y : Operand} {i : Int} {a : List UInt8}
theorem q_lenK (ho : o.op = .call ⟨.builtin .len, #[x], #[t]⟩) (ht : P.underlying t = some (.slice e)) (hx : ev f x = v) (h : Ka w L v l) : Qa P o f (i64 (l.length : Int)) := by
  obtain ⟨_, p, cap, rfl, _⟩ := h
  intro w'
  rw [exec_builtin _ ho]
  simp [builtin, Builtin.len_, run_underlying ht, hx, goInt, i64]
theorem By.cell {p : Option Addr} {n cap : Nat} {d : List UInt8} (h : By w L (.slice p n cap) d) (h0 : 0 < n) : ∃ g off, p = some ⟨g, off, none⟩ ∧ Av L g ∧ ∀ j u, (d.map u8)[j]? = some u → w.cell? ⟨g, off + j, none⟩ = some u := by
  obtain ⟨us, ⟨p', cap', hv, hc, hne⟩, hl, he⟩ := h
  cases hv
  obtain ⟨g, off, rfl, ha, hr⟩ := hne (fun e => by subst e; simp at h0)
  refine ⟨g, off, rfl, ha, fun j u hj => ?_⟩
  obtain ⟨hj', rfl⟩ := List.getElem?_eq_some_iff.1 hj
  have h1 : j < us.length := by rw [hl]; simpa using hj'
  rw [hr j h1]
  have := he j h1 (by simpa using hj')
  simp only [Sc] at this
  simp [this]
theorem By.len {p : Option Addr} {n cap : Nat} {d : List UInt8} (h : By w L (.slice p n cap) d) : n = d.length := by
  obtain ⟨us, ⟨p', cap', hv, _, _⟩, hl, _⟩ := h
  cases hv; exact hl
theorem q_adrK (ho : o.op = .indexAddr t x y) (T : TyK P t e b) (hx : ev f x = v) (hy : ev f y = i64 i) (h : Ka w L v l) (hi : idx l i = some a) : Qa P o f (adk v i.toNat) := by
  intro w'
  obtain ⟨h16, p, cap, rfl, hc, hb⟩ := h
  obtain ⟨h0, h1, _⟩ := idx_some.1 hi
  obtain ⟨g, off, rfl, _⟩ := hb.cell (by omega)
  have hlt : i < (l.length : Int) := by omega
  simp [execOp, ho, hx, hy, i64, Instr.indexAt, asIntOf, run_underlying T.sl, T.arr.size, h0, hlt, adk]
theorem q_loadK (ho : o.op = .load e x) (T : TyK P t e b) (hx : ev f x = adk v i.toNat) (h : Ka w L v l) (hi : idx l i = some a) : Qt P o f w (ag u8 a) := by
  obtain ⟨h16, p, cap, rfl, hc, hb⟩ := h
  obtain ⟨h0, h1, rfl⟩ := idx_some.1 hi
  obtain ⟨g, off, rfl, _, hr⟩ := hb.cell (by omega)
  intro w' hE
  have hl : l[i.toNat].length = 16 := h16 _ (List.getElem_mem _)
  have h2 := h16.at (i := i.toNat) (by omega)
  have hcs := run_loadCells_list (P := P) w' ⟨g, off + i.toNat * 16, none⟩ (l[i.toNat].map u8) (fun j u hj => by
    have hj' : j < 16 := by have := (List.getElem?_eq_some_iff.1 hj).1; simp [hl] at this; exact this
    have h3 : (l.flatten.map u8)[16 * i.toNat + j]? = some u := by
      rw [← hj, ← h2]
      simp only [List.getElem?_map, List.getElem?_drop, List.getElem?_take]
      rw [if_pos (by omega)]
    have h4 := hr _ _ h3
    rw [add_off]
    rw [show off + i.toNat * 16 + j = off + (16 * i.toNat + j) by omega]
    rw [World.cell?_of_block (w := w) (hE.blk g (World.block_lt_of_cell? w _ h4))]
    exact h4)
  rw [List.length_map, hl] at hcs
  simp [execOp, ho, hx, adk, add_off, Instr.loadAt, Instr.sureAddr, loadVar, T.arr.agg, T.arr.size, hcs, ag, ac]
theorem Ka.cut (h : Ka w L v l) {lo hi : Int} (hs : subL l lo hi = some m) : Ka w L (subK v lo.toNat hi.toNat) m := by
  obtain ⟨h16, p, cap, rfl, hc, hb⟩ := h
  obtain ⟨⟨h0, h1, h2⟩, rfl⟩ := subL_some.1 hs
  have hlen : ((l.take hi.toNat).drop lo.toNat).length = hi.toNat - lo.toNat := by simp; omega
  have hfl := h16.flat
  refine ⟨fun x hx => h16 x (List.mem_of_mem_take (List.mem_of_mem_drop hx)), _, cap - lo.toNat, by rw [hlen]; rfl, by rw [hlen]; omega, ?_⟩
  have hcut := SlK.cut hb (lo := (16 * lo.toNat : Nat)) (hi := (16 * hi.toNat : Nat)) (subL_some.2 ⟨⟨by omega, by omega, by omega⟩, rfl⟩)
  simp only [Int.toNat_natCast, subV] at hcut
  rw [h16.cut] at hcut
  have e1 : (16 * cap = 16 * lo.toNat) ↔ (cap = lo.toNat) := by omega
  simp only [e1, ← Nat.mul_sub] at hcut
  rw [hlen]
  rw [Nat.mul_comm lo.toNat 16]
  exact hcut
theorem q_sliceK {lo hi : Option Operand} {a c : Int} (ho : o.op = .slice t x lo hi none) (T : TyK P t e b) (hx : ev f x = v) (h : Ka w L v l)
    (hlo : match lo with | none => a = 0 | some y => ev f y = i64 a) (hhi : match hi with | none => c = (l.length : Int) | some y => ev f y = i64 c) (hs : subL l a c = some m) : Qa P o f (subK v a.toNat c.toNat) := by
  intro w'
  obtain ⟨_, p, cap, rfl, hc, _⟩ := h
  obtain ⟨⟨h0, h1, h2⟩, _⟩ := subL_some.1 hs
  have hb : ∀ k w, (Instr.sliceBound (i64 c) cap k).run P w = .ok c.toNat w := fun k w => run_bound rfl (by omega) (by omega) w
  have ha : ∀ k w, (Instr.sliceBound (i64 a) c.toNat k).run P w = .ok a.toNat w := fun k w => run_bound rfl (by omega) (by omega) w
  have ha' : c = (l.length : Int) → ∀ k w, (Instr.sliceBound (i64 a) l.length k).run P w = .ok a.toNat w := fun e k w => run_bound rfl (by omega) (by omega) w
  have hsz := T.arr.size
  cases lo with
  | none =>
    cases hi with
    | none =>
      dsimp only at hlo hhi; subst hlo; subst hhi
      simp [execOp, ho, hx, Instr.sliceAt, run_underlying T.sl, Instr.slice, Instr.sliceBounds, hsz, subK]
    | some y =>
      dsimp only at hlo hhi; subst hlo
      simp [execOp, ho, hx, hhi, Instr.sliceAt, run_underlying T.sl, Instr.slice, Instr.sliceBounds, hsz, hb, subK]
  | some y =>
    cases hi with
    | none =>
      dsimp only at hlo hhi
      have := ha' hhi
      subst hhi
      simp [execOp, ho, hx, hlo, Instr.sliceAt, run_underlying T.sl, Instr.slice, Instr.sliceBounds, hsz, this, subK]
    | some y' =>
      dsimp only at hlo hhi
      simp [execOp, ho, hx, hlo, hhi, Instr.sliceAt, run_underlying T.sl, Instr.slice, Instr.sliceBounds, hsz, ha, hb, subK]
end
def OwS (w : World) (e : TypeId) (v : Value) (l : List (List UInt8)) : Prop :=
  L16 l ∧ ((v = .slice none 0 0 ∧ l = []) ∨ ∃ g cap cur, v = .slice (some ⟨g, 0, none⟩) l.length cap ∧ l ≠ [] ∧ Blk w g e cur ∧ l.length ≤ cap ∧ cap ≤ maxLen ∧ cur.size = cap * 16 ∧ cur.toList.take (l.length * 16) = l.flatten.map u8)
section
variable {w w' : World} {e : TypeId} {u v v' : Value} {l m : List (List UInt8)} {g : Nat}
theorem OwS.nil (w : World) (e : TypeId) : OwS w e (.slice none 0 0) [] := ⟨L16.nil, .inl ⟨rfl, rfl⟩⟩
theorem OwS.cases (h : OwS w e v l) : v = .slice none 0 0 ∨ ∃ g cur, (∀ k, Hs v k ↔ g = k) ∧ Blk w g e cur := by
  rcases h.2 with ⟨rfl, _⟩ | ⟨g, cap, cur, rfl, hl, hB, hc, _⟩
  · exact .inl rfl
  · have h0 : 0 < l.length := List.length_pos_iff.2 hl
    refine .inr ⟨g, cur, fun k => ⟨fun h => ?_, fun h => ?_⟩, hB⟩
    · have := hs_sl h; rw [oB_pos (by omega)] at this; exact Option.some.inj this
    · subst h; exact .inl (oB_pos (by omega))
theorem OwS.lt (h : OwS w e v l) : ∀ k, Hs v k → k < w.heap.size := fun k hk => by
  rcases h.cases with rfl | ⟨g, cur, hg, hB⟩
  · exact absurd hk nh_nil
  · obtain rfl := (hg k).1 hk; exact hB.lt
theorem OwS.ltB (h : OwS w e v l) : ∀ k, Hs v k → k < w.heap.size := h.lt
theorem OwS.cl (h : OwS w e v l) : Cl w v := fun k hk => by
  rcases h.cases with rfl | ⟨g, cur, hg, hB⟩
  · exact absurd hk nh_nil
  · obtain rfl := (hg k).1 hk; exact ⟨_, hB, rfl⟩
theorem OwS.keep (h : OwS w e v l) (hb : ∀ g cur, (∀ k, Hs v k ↔ g = k) → Blk w g e cur → Blk w' g e cur) : OwS w' e v l := by
  have hc := h.cases
  refine ⟨h.1, ?_⟩
  rcases h.2 with h1 | ⟨g, cap, cur, rfl, hl, hB, hr⟩
  · exact .inl h1
  · refine .inr ⟨g, cap, cur, rfl, hl, hb g cur (fun k => ?_) hB, hr⟩
    have h0 : 0 < l.length := List.length_pos_iff.2 hl
    have hc0 : 0 < cap := by have := hr.1; omega
    refine ⟨fun h => ?_, fun h => ?_⟩
    · have := hs_sl h; rw [oB_pos hc0] at this; exact Option.some.inj this
    · subst h; exact .inl (oB_pos hc0)
theorem OwS.ext (h : OwS w e v l) (x : Ext w w') : OwS w' e v l := h.keep fun g cur _ hB => hB.ext x
theorem OwS.tn {B : Nat} (h : OwS w e v l) (t : Tn B w w') : OwS w' e v l := h.keep fun g cur _ hB => hB.tn t
theorem OwS.other (h : OwS w e u l) (hg : Gr w w' v) (hq : Nq u v) : OwS w' e u l := h.keep fun g cur hk hB => by
  unfold Blk; rw [hg.block hB.lt (hq g ((hk g).2 rfl))]; exact hB
theorem OwS.ka (L : List Value) (h : OwS w e v l) (ha : ∀ k, Hs v k → Av L k) : Ka w L v l := by
  have h16 := h.1
  refine ⟨h16, ?_⟩
  rcases h.2 with ⟨rfl, rfl⟩ | ⟨g, cap, cur, rfl, hl, hB, hc, hm, hs, ht⟩
  · exact ⟨none, 0, rfl, Nat.le_refl _, SlK.nil _ _ _⟩
  · have h0 : 0 < l.length := List.length_pos_iff.2 hl
    have hfl := h16.flat
    refine ⟨_, cap, rfl, hc, l.flatten.map u8, ⟨_, 16 * cap, by rw [List.length_map, hfl], by rw [List.length_map, hfl]; omega, fun _ => ⟨g, 0, rfl, ha g (.inl (oB_pos (by omega))), fun i hi => ?_⟩⟩, List.length_map .., fun i a1 a2 => by simp only [Sc, List.getElem_map]⟩
    rw [Nat.zero_add, hB.cell]
    rw [List.length_map, hfl] at hi
    have : (cur.toList.take (l.length * 16))[i]? = (l.flatten.map u8)[i]? := by rw [ht]
    rw [List.getElem?_take, if_pos (by omega)] at this
    rw [← Array.getElem?_toList, this, List.getElem?_eq_getElem]
theorem OwS.rd (h : OwS w e v l) : Ka w [] v l := h.ka [] (fun _ _ => trivial)
theorem OwS.oc (h : OwS w e v l) : v.oneCell' = true := h.rd.oc
end
section
variable {P : Program} {o : Oper} {f : Nat → Value} {w : World} {t e b : TypeId} {v u : Value} {l m r : List (List UInt8)} {x s : Operand} {a : List UInt8}
theorem infoK (T : TyK P t e b) : ∃ i, P.info? e = some i ∧ i.zero = some (ag u8 (List.replicate 16 (0 : UInt8))) ∧ i.size = 16 ∧ i.bytes = 16 := by
  have h := T.info
  cases hi : P.info? e with
  | none => rw [hi] at h; cases h
  | some i =>
    rw [hi] at h
    simp only [Option.map_some, Option.some.injEq, Prod.mk.injEq] at h
    exact ⟨i, rfl, h.1, h.2.1, h.2.2⟩
theorem stp_appendK (L1 L2 : List Value) (ho : o.op = .call ⟨.builtin .append, #[s, x], #[t, t]⟩) (T : TyK P t e b) (hs : ev f s = v) (hx : ev f x = u) (h : OwS w e v l) {Lu : List Value} (hu : Ka w Lu u m) (hm0 : m ≠ []) (hm : appL l m = some r)
    {K : Value → World → Prop} (hk : ∀ v' w', OwS w' e v' r → Gr w w' v → Nx w v v' → Lift w w' (L1 ++ v :: L2) (L1 ++ v' :: L2) → K v' w') : Stp P o f w K := by
  obtain ⟨i, hi, i1, i2, i3⟩ := infoK T
  obtain ⟨hmost, rfl⟩ := appL_some.1 hm
  obtain ⟨hm16, p, cap, rfl, hcap, hb⟩ := hu
  have hpos : 0 < m.length := List.length_pos_iff.2 hm0
  obtain ⟨gb, off, rfl, _, hr⟩ := hb.cell (by omega)
  have hmfl := hm16.flat
  have hnews : ∀ j u, (m.flatten.map u8)[j]? = some u → w.cell? ((⟨gb, off, none⟩ : Addr).add j) = some u := fun j u hj => by rw [add_off]; exact hr j u hj
  have hnl : (m.flatten.map u8).length = m.length * i.size := by rw [i2, List.length_map, hmfl]; omega
  have h1 : ∀ u ∈ m.flatten.map u8, u.oneCell' = true := fun u hu => by obtain ⟨y, _, rfl⟩ := List.mem_map.1 hu; rfl
  have b1 : (l.length + m.length) * i.bytes ≤ 140737488355328 := by rw [i3]; simp only [most] at hmost; omega
  have b3 : l.length + m.length ≤ maxLen := by simp only [maxLen]; simp only [most] at hmost; omega
  have h63 : ((l.length + m.length : Nat) : Int) ≤ 9223372036854775807 := by simp only [most] at hmost; omega
  have hr16 : L16 (l ++ m) := h.1.app hm16
  have hne : l ++ m ≠ [] := fun e => hm0 (List.append_eq_nil_iff.1 e).2
  have hlfl := h.1.flat
  have key : ∀ v' w', (Builtin.append_ #[t, t] o.type #[v, .slice (some ⟨gb, off, none⟩) m.length cap]).run P w = .ok v' w' → OwS w' e v' (l ++ m) → Gr w w' v → Nx w v v' → Stp P o f w K := fun v' w' hrun a1 a2 a3 =>
    stp_of_run (v := v') (w' := w') (by rw [exec_builtin _ ho]; simp [builtin, hs, hx, hrun]) (hk v' w' a1 a2 a3 (Lift.own L1 L2 a2 a3))
  have made : ∀ (old : Nat), OwS (w.drew.alloc (.cells ((l.flatten.map u8).toArray ++ (m.flatten.map u8).toArray ++ Builtin.zeroCells (ag u8 (List.replicate 16 (0 : UInt8))).cells (grownCap w (l.length + m.length) old e - (l.length + m.length))) e)) e
      (.slice (some ⟨w.heap.size, 0, none⟩) (l.length + m.length) (grownCap w (l.length + m.length) old e)) (l ++ m) := fun old => by
    have hge := grownCap_ge w (l.length + m.length) old e
    refine ⟨hr16, .inr ⟨w.heap.size, grownCap w (l.length + m.length) old e, _, by simp, hne, heap_alloc_new w.drew _, by simpa using hge, grownCap_le_maxLen w _ old e b3, ?_, ?_⟩⟩
    · have hz : (ag u8 (List.replicate 16 (0 : UInt8))).cells.size = 16 := by simp [ag, Value.cells, ac]
      simp only [Array.size_append, List.size_toArray, size_zeroCells, hz, List.length_map, hlfl, hmfl]
      omega
    · simp only [Array.toList_append, List.append_assoc]
      rw [← List.append_assoc, ← List.map_append, ← List.flatten_append]
      refine List.take_left' ?_
      rw [List.length_map, hr16.flat]; omega
  have hgn : ∀ (cs : Array Value) (v : Value), Gr w (w.drew.alloc (.cells cs e)) v := fun cs v => ⟨none, ⟨rfl, rfl, rfl, by simp, fun k hk _ => alloc_old w.drew _ k hk⟩, fun _ e => by cases e⟩
  rcases h.2 with ⟨rfl, rfl⟩ | ⟨g, cap', cur, rfl, hl, hB, hc, hcm, hcs, ht⟩
  · have hrun := run_append_nil (P := P) w t o.type e i _ T.sl hi i1 ⟨gb, off, none⟩ m.length cap (m.flatten.map u8) hnl hnews hpos (by simpa using h63) (by simp only [List.length_nil, Nat.zero_add] at b1; omega)
    have hmk := made 0
    simp only [List.length_nil, Nat.zero_add, List.nil_append, List.flatten_nil, List.map_nil, Array.empty_append] at hmk key hgn
    exact key _ _ hrun hmk (hgn _ _) ((Nw.mk w _ _).nx _)
  · have h0 : 0 < cap' := by have := List.length_pos_iff.2 hl; omega
    by_cases hroom : l.length + m.length ≤ cap'
    · have hfit : l.length * i.size + (m.flatten.map u8).length ≤ cur.size := by rw [hnl, hcs, i2]; omega
      have hrun := run_append_room (P := P) w t o.type e i T.sl hi g l.length cap' cur hB ⟨gb, off, none⟩ m.length cap (m.flatten.map u8) hnl hnews h1 hroom hfit
      refine key _ _ hrun ⟨hr16, .inr ⟨g, cap', _, by simp, hne, setRow_heap w g cur _ e _ hB, by simpa using hroom, hcm, ?_, ?_⟩⟩ (Gr.of ⟨rfl, rfl, rfl, by simp, fun k _ hk => setRow_other w g k _ (fun e => hk (by rw [oB_pos h0, e]))⟩)
        (fun k hk => .inl (.inl (by have := hs_sl hk; rw [oB_pos h0] at *; exact this)))
      · have := Array.length_toList (xs := cur)
        simp only [List.size_toArray, List.length_append, List.length_take, List.length_drop, hnl, i2]
        omega
      · rw [i2, ht, ← List.map_append, ← List.flatten_append]
        refine List.take_left' ?_
        rw [List.length_map, hr16.flat]; omega
    · have holds : ∀ j u, (l.flatten.map u8)[j]? = some u → w.cell? ((⟨g, 0, none⟩ : Addr).add j) = some u := fun j u hj => by
        rw [add_off, Nat.zero_add, hB.cell, ← Array.getElem?_toList]
        rw [← ht, List.getElem?_take] at hj
        split at hj
        · exact hj
        · cases hj
      have hrun := run_append_grow (P := P) w t o.type e i _ T.sl hi i1 ⟨g, 0, none⟩ l.length cap' (l.flatten.map u8) (by rw [i2, List.length_map, hlfl]; omega) holds ⟨gb, off, none⟩ m.length cap (m.flatten.map u8) hnl hnews (by omega) h63 (growslice_fits (by omega) b1)
      exact key _ _ hrun (made cap') (hgn _ _) ((Nw.mk w _ _).nx _)
theorem fold_set (us : List Value) : ∀ (k : Nat) (pre post : List Value), pre.length = k → post.length = us.length → (us.zipIdx k).foldl (fun cs (p : Value × Nat) => Array.setIfInBounds cs (0 + p.2) p.1) (pre ++ post).toArray = (pre ++ us).toArray := by
  induction us with
  | nil => intro k pre post _ h; rw [List.length_nil] at h; rw [List.eq_nil_of_length_eq_zero h]; rfl
  | cons u us ih =>
    intro k pre post hk h
    cases post with
    | nil => cases h
    | cons p post =>
      simp only [List.zipIdx_cons, List.foldl_cons]
      have e1 : (pre ++ p :: post).toArray.setIfInBounds (0 + k) u = ((pre ++ [u]) ++ post).toArray := by
        apply Array.ext'
        simp [hk.symm, List.set_append]
      rw [e1, ih (k + 1) (pre ++ [u]) post (by simp [hk]) (by simpa using h)]
      simp
theorem stp_litK (L : List Value) (ho : o.op = .buildSlice t 1 #[(0, x)]) (T : TyK P t e b) (hx : ev f x = ag u8 a) (ha : a.length = 16)
    {K : Value → World → Prop} (hk : ∀ v w', OwS w' e v [a] → Nw w v → w.grownBy w' none → Lift w w' L (v :: L) → K v w') : Stp P o f w K := by
  obtain ⟨i, hi, i1, i2, i3⟩ := infoK T
  have hv : Nw w (.slice (some ⟨w.heap.size, 0, none⟩) 1 1) := Nw.mk _ _ _
  have h0 := World.grownBy_alloc w (.cells (ac u8 a) e) none
  have hcs : (ag u8 a).cells = ac u8 a := rfl
  have hsz : (ac u8 a).size = 16 := by rw [ac_size, ha]
  have hfill : Instr.fill (fun i => some (i * 16, 16)) ((Array.range (1 * 16)).map (((ag u8 (List.replicate 16 (0 : UInt8))).cells)[· % ((ag u8 (List.replicate 16 (0 : UInt8))).cells).size]!)) [(0, ag u8 a)] = some (ac u8 a) := by
    simp only [Instr.fill, hcs, hsz]
    rw [if_neg (by simp)]
    have := fold_set (a.map u8) 0 [] ((Array.range (1 * 16)).map (((ag u8 (List.replicate 16 (0 : UInt8))).cells)[· % ((ag u8 (List.replicate 16 (0 : UInt8))).cells).size]!)).toList rfl (by simp [ha])
    simp only [List.nil_append, Array.toArray_toList] at this
    congr 1
    rw [← Array.foldl_toList, Array.toList_zipIdx, ac]
    simpa [Nat.zero_mul] using this
  have hrun : (Instr.buildSlice t 1 #[(0, ag u8 a)]).run P w = .ok (.slice (some ⟨w.heap.size, 0, none⟩) 1 1) (w.alloc (.cells (ac u8 a) e)) := by
    unfold Instr.buildSlice
    have hz : ∀ w, (zeroValue e).run P w = .ok (ag u8 (List.replicate 16 (0 : UInt8))) w := fun w => by simp [zeroValue, typeInfo, hi, i1]
    simp [run_underlying T.sl, T.arr.size, hz]
    simp at hfill
    rw [hfill]
    simp [newRow]
  refine stp_of_run (v := .slice (some ⟨w.heap.size, 0, none⟩) 1 1) (w' := w.alloc (.cells (ac u8 a) e)) (by simp [execOp, ho, hx, hrun]) (hk _ _ ?_ hv h0 (Lift.new L h0 hv))
  refine ⟨fun y hy => by rw [List.mem_singleton.1 hy]; exact ha, .inr ⟨w.heap.size, 1, ac u8 a, rfl, by simp, heap_alloc_new w _, Nat.le_refl _, by decide, by rw [hsz], ?_⟩⟩
  simp [ac, List.take_of_length_le, ha]
def sptr (v : Value) : Value := match v with | .slice a _ _ => .pointer a | v => v
theorem q_arrAt {T n : Nat} {d : List UInt8} {L : List Value} (ho : o.op = .sliceToArrayPointer T x) (A : TyA P T b n) (hx : ev f x = v) (h : By w L v d) (hn : n ≤ d.length) : Qa P o f (sptr v) := by
  intro w'
  obtain ⟨us, ⟨p, cap, rfl, _⟩, hl, _⟩ := h
  have : ¬ us.length < n := by omega
  simp [execOp, ho, hx, Instr.arrayAt, run_underlying A.und, this, sptr]
theorem q_loadSp {T n : Nat} {d : List UInt8} {L : List Value} (ho : o.op = .load T x) (A : TyA P T b n) (hx : ev f x = sptr v) (h : By w L v d) (hn : d.length = n) (h0 : 0 < n) : Qt P o f w (ag u8 d) := by
  obtain ⟨p, k, cap, rfl⟩ := (show ∃ p k cap, v = .slice p k cap from by obtain ⟨us, ⟨p, cap, rfl, _⟩, _⟩ := h; exact ⟨_, _, _, rfl⟩)
  have hk := h.len
  obtain ⟨g, off, rfl, _, hr⟩ := h.cell (by omega)
  intro w' hE
  have hcs := run_loadCells_list (P := P) w' ⟨g, off, none⟩ (d.map u8) (fun j u hj => by
    have h4 := hr _ _ hj
    rw [add_off, World.cell?_of_block (w := w) (hE.blk g (World.block_lt_of_cell? w _ h4))]
    exact h4)
  rw [List.length_map, hn] at hcs
  simp [execOp, ho, hx, sptr, Instr.loadAt, Instr.sureAddr, loadVar, A.agg, A.size, hcs, ag, ac]
end
end Gk

/- Ciphers of this seat's program: the struct behind its pointer. No condition. -/
namespace Gk
open Go Go.Proofs Go.RowKit
structure Cip where
  f : Bool
  keys : List (List UInt8)
  box : List UInt8
  back : List UInt8
def cipc (fv ks : Value) (box back : List UInt8) : Array Value := (fv :: ks :: (box ++ back).map u8).toArray
theorem K97 : TyK Try.prog 97 106 5 := ⟨Try.underlying97, A106, by kernel_rfl⟩
def Ci (w : World) (L : List Value) (v : Value) (c : Option Cip) : Prop :=
  (c = none ∧ v = .pointer none) ∨ ∃ x g fv ks, c = some x ∧ v = bp g ∧ Av L g ∧ Blk w g 100 (cipc fv ks x.box x.back) ∧ Fd w L fv x.f ∧ Ka w L ks x.keys ∧ x.box.length = 256 ∧ x.back.length = 256
theorem Ci.lift {w w' : World} {L L' : List Value} {v : Value} {c : Option Cip} (h : Ci w L v c) (g : Lift w w' L L') : Ci w' L' v c := by
  rcases h with h | ⟨x, k, fv, ks, h1, h2, ha, hB, hF, hK, h3⟩
  · exact .inl h
  · exact .inr ⟨x, k, fv, ks, h1, h2, g.av k hB.lt ha, g.blk k _ hB rfl ha, hF.lift g, hK.lift g, h3⟩
theorem Ci.nil (w : World) (L : List Value) : Ci w L (.pointer none) none := .inl ⟨rfl, rfl⟩
theorem Ci.mk {w : World} {L : List Value} {g : Nat} {fv ks : Value} {b : Bool} {k : List (List UInt8)} {x y : List UInt8} (hB : Blk w g 100 (cipc fv ks x y)) (ha : Av L g) (hF : Fd w L fv b) (hK : Ka w L ks k) (hx : x.length = 256) (hy : y.length = 256) : Ci w L (bp g) (some ⟨b, k, x, y⟩) :=
  .inr ⟨⟨b, k, x, y⟩, g, fv, ks, rfl, rfl, ha, hB, hF, hK, hx, hy⟩
theorem Ci.some {w : World} {L : List Value} {v : Value} {x : Cip} {c : Option Cip} (h : Ci w L v c) (hc : c = some x) : ∃ g fv ks, v = bp g ∧ Blk w g 100 (cipc fv ks x.box x.back) ∧ Fd w L fv x.f ∧ Ka w L ks x.keys ∧ Pa w L (bpo g 2) x.box ∧ Pa w L (bpo g 258) x.back := by
  rcases h with ⟨h1, _⟩ | ⟨x', g, fv, ks, h1, h2, ha, hB, hF, hK, hb, hb'⟩
  · rw [h1] at hc; cases hc
  · rw [h1] at hc; obtain rfl := Option.some.inj hc
    refine ⟨g, fv, ks, h2, hB, hF, hK, ⟨_, rfl, x'.box.map u8, ⟨_, _, by rw [List.length_map], by rw [List.length_map]; exact Nat.le_refl _, fun _ => ⟨g, 2, rfl, ha, fun i hi => ?_⟩⟩, List.length_map .., fun i a1 a2 => by simp only [Sc, List.getElem_map]⟩, ⟨_, rfl, x'.back.map u8, ⟨_, _, by rw [List.length_map], by rw [List.length_map]; exact Nat.le_refl _, fun _ => ⟨g, 258, rfl, ha, fun i hi => ?_⟩⟩, List.length_map .., fun i a1 a2 => by simp only [Sc, List.getElem_map]⟩⟩
    · rw [hB.cell, Nat.add_comm]
      simp only [List.length_map] at hi
      simp [cipc, hi, List.getElem?_append]
    · rw [hB.cell, Nat.add_comm, show i + 258 = i + 256 + 2 by omega]
      simp only [List.length_map] at hi
      simp [cipc, hi, hb, List.getElem?_append]
theorem blk_box {w : World} {g : Nat} {fv ks : Value} {x y : List UInt8} (hB : Blk w g 100 (cipc fv ks x y)) : Pa w [] (bpo g 2) x := by
  refine ⟨_, rfl, x.map u8, ⟨_, _, by rw [List.length_map], by rw [List.length_map]; exact Nat.le_refl _, fun _ => ⟨g, 2, rfl, trivial, fun i hi => ?_⟩⟩, List.length_map .., fun i a1 a2 => by simp only [Sc, List.getElem_map]⟩
  rw [hB.cell, Nat.add_comm]
  simp only [List.length_map] at hi
  simp [cipc, hi, List.getElem?_append]
theorem cip_zero : ∀ w, (zeroValue 100).run Try.prog w = .ok (.agg (cipc (.pointer none) (.slice none 0 0) (List.replicate 256 0) (List.replicate 256 0))) w := fun w => by rw [Try.zeroValue100]; rfl
theorem fieldAtC0 (a : Addr) (w : World) : (Instr.fieldAt 100 (.pointer (some a)) 0).run Try.prog w = .ok (.pointer (some (a.add 0))) w := by
  simp [Instr.fieldAt, Instr.sureAddr, fieldPlace]
theorem fieldAtC1 (a : Addr) (w : World) : (Instr.fieldAt 100 (.pointer (some a)) 1).run Try.prog w = .ok (.pointer (some (a.add 1))) w := by
  simp [Instr.fieldAt, Instr.sureAddr, fieldPlace]
theorem fieldAtC2 (a : Addr) (w : World) : (Instr.fieldAt 100 (.pointer (some a)) 2).run Try.prog w = .ok (.pointer (some (a.add 2))) w := by
  simp [Instr.fieldAt, Instr.sureAddr, fieldPlace]
theorem fieldAtC3 (a : Addr) (w : World) : (Instr.fieldAt 100 (.pointer (some a)) 3).run Try.prog w = .ok (.pointer (some (a.add 258))) w := by
  simp [Instr.fieldAt, Instr.sureAddr, fieldPlace]
section
variable {o : Oper} {f : Nat → Value} {w : World} {x y : Operand} {v : Value} {g m j : Nat} {L : List Value} {c : Option Cip} {fv ks ks' : Value} {b k k' : List UInt8} {t t' e : TypeId} {i : Int} {a z : UInt8}
theorem q_fldC {d : Nat} (ho : o.op = .fieldAddr 100 x j) (hf : ∀ (a : Addr) (w : World), (Instr.fieldAt 100 (.pointer (some a)) j).run Try.prog w = .ok (.pointer (some (a.add d))) w) (hx : ev f x = bp g) : Qa Try.prog o f (bpo g d) := by
  intro w'
  simp [execOp, ho, hx, hf, add_off]
theorem q_buildC (ho : o.op = .build 100 #[(0, x)]) (hx : ev f x = fv) (hv : fv.cells = #[fv]) : Qa Try.prog o f (.agg (cipc fv (.slice none 0 0) (List.replicate 256 0) (List.replicate 256 0))) := by
  intro w'
  have hb : (Instr.build 100 #[(0, fv)]).run Try.prog w' = .ok (.agg (cipc fv (.slice none 0 0) (List.replicate 256 0) (List.replicate 256 0))) w' := by
    unfold Instr.build
    simp only [Sem.run_bind, cip_zero, Result.andThen_ok, run_underlying Try.underlying100]
    generalize List.replicate 256 (0 : UInt8) = bx
    have hfill : Instr.fill (fun i => ([((0 : Nat), (1 : Nat)), (1, 1), (2, 256), (258, 256)] : List (Nat × Nat))[i]?) (cipc (.pointer none) (.slice none 0 0) bx bx) [(0, fv)] = some (cipc fv (.slice none 0 0) bx bx) := by
      simp [Instr.fill, hv, cipc]
    simp [Try.sizeOf32, Try.sizeOf97, Try.sizeOf98, Value.cells, hfill]
  generalize List.replicate 256 (0 : UInt8) = bx at hb ⊢
  simp [execOp, ho, hx, hb]
theorem q_eqC (ho : o.op = .binOp .eql t x y t') (ht : Try.prog.underlying t = some (.pointer e)) (hx : ev f x = v) (hy : ev f y = .pointer none) (h : Ci w L v c) : Qa Try.prog o f (.bool c.isNone) := by
  rcases h with ⟨rfl, rfl⟩ | ⟨l, g, u, _, rfl, rfl, _⟩
  · exact q_eqP ho ht hx hy
  · exact q_eqP ho ht hx hy
theorem stp_storeCb (L1 L2 : List Value) (ho : o.op = .store 5 x y) (hx : ev f x = bpo g (2 + i.toNat)) (hy : ev f y = u8 z) (h : Blk w g 100 (cipc fv ks b k)) (hi : idx b i = some a)
    {K : Value → World → Prop} (hk : ∀ w', Blk w' g 100 (cipc fv ks (b.set i.toNat z) k) → Gr w w' (bp g) → Lift w w' (L1 ++ bp g :: L2) (L1 ++ bp g :: L2) → K undef w') : Stp Try.prog o f w K := by
  obtain ⟨h0, h1, h2⟩ := idx_some.1 hi
  have hlt : i.toNat < b.length := by omega
  have hset : (cipc fv ks b k).setIfInBounds (2 + i.toNat) (u8 z) = cipc fv ks (b.set i.toNat z) k := by
    apply Array.ext'
    rw [Nat.add_comm]
    simp [cipc, List.set_append, hlt]
  exact stp_storeB ho Try.sizeOf5 hx hy h (by simp [cipc]; omega) rfl fun w' hB hg => hk w' (by rw [hset] at hB; exact hB) (Gr.of hg) (Lift.own L1 L2 (Gr.of hg) (Nx.refl _ _))
theorem stp_storeCk (L1 L2 : List Value) (ho : o.op = .store 5 x y) (hb : b.length = 256) (hx : ev f x = bpo g (258 + i.toNat)) (hy : ev f y = u8 z) (h : Blk w g 100 (cipc fv ks b k)) (hi : idx k i = some a)
    {K : Value → World → Prop} (hk : ∀ w', Blk w' g 100 (cipc fv ks b (k.set i.toNat z)) → Gr w w' (bp g) → Lift w w' (L1 ++ bp g :: L2) (L1 ++ bp g :: L2) → K undef w') : Stp Try.prog o f w K := by
  obtain ⟨h0, h1, h2⟩ := idx_some.1 hi
  have hlt : i.toNat < k.length := by omega
  have hset : (cipc fv ks b k).setIfInBounds (258 + i.toNat) (u8 z) = cipc fv ks b (k.set i.toNat z) := by
    apply Array.ext'
    rw [Nat.add_comm, show i.toNat + 258 = i.toNat + 256 + 2 by omega]
    simp [cipc, List.set_append, hlt, hb]
  exact stp_storeB ho Try.sizeOf5 hx hy h (by simp [cipc, hb]; omega) rfl fun w' hB hg => hk w' (by rw [hset] at hB; exact hB) (Gr.of hg) (Lift.own L1 L2 (Gr.of hg) (Nx.refl _ _))
theorem stp_storeCs (L1 L2 : List Value) (ho : o.op = .store 97 x y) (hx : ev f x = bpo g 1) (hy : ev f y = ks') (h : Blk w g 100 (cipc fv ks b k)) (hc : ks'.oneCell' = true)
    {K : Value → World → Prop} (hk : ∀ w', Blk w' g 100 (cipc fv ks' b k) → Gr w w' (bp g) → Lift w w' (L1 ++ bp g :: L2) (L1 ++ bp g :: L2) → K undef w') : Stp Try.prog o f w K := by
  have hset : (cipc fv ks b k).setIfInBounds 1 ks' = cipc fv ks' b k := by
    apply Array.ext'
    simp [cipc]
  exact stp_storeB ho Try.sizeOf97 hx hy h (by simp [cipc]) hc fun w' hB hg => hk w' (by rw [hset] at hB; exact hB) (Gr.of hg) (Lift.own L1 L2 (Gr.of hg) (Nx.refl _ _))
end
end Gk

/- Printed by gen.py: for each Go function a pure function, and that the Go code comes to it. No condition beside the equation that says what the pure function gives. -/
namespace Gk
open Go Go.Proofs
noncomputable def cipher_boxes (a0c : Cip) : Option Cip :=
((iterC (fun s1 : List UInt8 × List UInt8 × Int =>
(if s1.2.2 < 256 then
((field_Inv a0c.f (UInt8.ofInt s1.2.2)).bind fun r4 =>
((iterC (fun s6 : UInt8 × Int =>
(if s6.2 ≤ 4 then
((word_Turn_byte r4.1 s6.2).bind fun r9 => some (.inl ((s6.1 ^^^ r9), (wI (s6.2 + 1)))))
else some (.inr s6.1))) ((r4.1 ^^^ (99 : UInt8)), 1)).bind fun x6 =>
((lenA 256 s1.1).bind fun c15 =>
((idx s1.1 s1.2.2).bind fun c16 =>
((lenA 256 s1.2.1).bind fun c19 =>
((idx s1.2.1 ((x6.toNat : Int))).bind fun c20 => some (.inl ((s1.1.set (s1.2.2 : Int).toNat x6), (s1.2.1.set ((x6.toNat : Int) : Int).toNat ((UInt8.ofInt s1.2.2))), (wI (s1.2.2 + 1))))))))))
else some (.inr (s1.1, s1.2.1)))) (a0c.box, a0c.back, 0)).bind fun x1 => some (⟨a0c.f, a0c.keys, x1.1, x1.2⟩ : Cip))
theorem cipher_boxes_calls (a0c : Cip) (gio0 : Nat) (fv0 : Value) (ks0 : Value) (r : Cip) (w0 : World) (hio0 : Blk w0 gio0 100 (cipc fv0 ks0 a0c.box a0c.back)) (hfv0 : Fd w0 [(bp gio0)] fv0 a0c.f) (H : cipher_boxes a0c = some r) :
    Calls Try.prog 69 [(bp gio0)].toArray w0 (fun e w' => e = .returned (.tuple #[]) ∧ ExG [(bp gio0)] w0 w' ∧ Blk w' gio0 100 (cipc fv0 ks0 r.box r.back)) := by
  have hE : ExG [(bp gio0)] w0 w0 := ExG.refl _ w0; unfold cipher_boxes at H; refine calls_W (n := 45) Try.func69 rfl rfl rfl ?_; refine W_seq <| W_rg <| mv (i64 0) rfl rfl <| wnt <| ?_; obtain ⟨x1, G1, H⟩ := bsi H; refine W_mid (fun f w => f 0 = (bp gio0) ∧ f 45 = undef ∧ ExG [(bp gio0)] w0 w ∧ Blk w gio0 100 (cipc fv0 ks0 x1.1 x1.2) ∧ NS [(bp gio0)] w0 (bp gio0)) ?_ ?_
  · refine W_block ?_; refine W_loop (fun s1 f w => f 0 = (bp gio0) ∧ f 7 = (i64 s1.2.2) ∧ f 45 = undef ∧ ExG [(bp gio0)] w0 w ∧ Blk w gio0 100 (cipc fv0 ks0 s1.1 s1.2.1) ∧ NS [(bp gio0)] w0 (bp gio0)) G1 ?_ ?_
    · exact ⟨rfl, rfl, rfl, hE, hio0, NS.own⟩
    rintro s1 _ _ w2 ⟨s0_2, s7_2, s45_2, hE2, o0_2, n0_2⟩ H1 hr1; refine W_seq <| W_rg <| wa rfl (q_ltI rfl s7_2 rfl) <| wnt <| W_seq <| ?_; refine W_cond _ rfl rfl (fun hb3 => ?_) (fun hb3 => ?_)
    · replace H1 := ifp hb3 H1; refine W_skip <| W_th <| W_seq <| W_block <| W_seq <| W_rg <| mv (i64 s1.2.2) rfl s7_2 <| av (i64 s1.2.2) rfl rfl <| ?_; refine wnt <| W_seq <| W_rg <| mv (bp gio0) rfl s0_2 <| wa rfl (q_nilP rfl rfl) <| wa rfl (q_fldC (g := gio0) (d := 0) rfl fieldAtC0 rfl) <| wq rfl (q_loadB (u := fv0) rfl Try.isAgg32 rfl o0_2 rfl) <| mv (i64 s1.2.2) rfl rfl <| ?_; refine wa rfl (q_cvt8I rfl rfl rfl rfl) ?_; obtain ⟨r4, hr4, H1⟩ := bsi H1; refine wls rfl rfl (stp_call (vs := [fv0, (u8 ((UInt8.ofInt s1.2.2)))]) Try.func84 rfl rfl rfl (ar2 rfl rfl) (field_Inv_calls a0c.f (UInt8.ofInt s1.2.2) fv0 r4 _ (hfv0.lift (Lift.exg0 hE2)) hr4) ?_); rintro _ w4 ⟨rfl, x4⟩; refine ⟨_, rfl, ?_⟩; replace o0_2 := o0_2.ext x4; have e5 := hE2.trans x4; refine mv (.tuple #[(u8 r4.1), (i64 r4.2)]) rfl rfl <| wa rfl (q_extract rfl rfl rfl) <| wa rfl (q_extract rfl rfl rfl) <| av (u8 r4.1) rfl rfl <| av (i64 r4.2) rfl rfl <| wnt <| W_seq <| W_rg <| ?_; refine mv (u8 r4.1) rfl rfl <| wa rfl (q_xor8 rfl rfl (cst8 (99 : UInt8) rfl)) <| av (u8 ((r4.1 ^^^ (99 : UInt8)))) rfl rfl <| wnt <| W_seq <| W_seq <| W_rg <| av (i64 1) rfl rfl <| ?_; refine wnt ?_; obtain ⟨x6, G6, H1⟩ := bsi H1; refine W_mid (fun f w => f 0 = (bp gio0) ∧ f 2 = (i64 s1.2.2) ∧ f 5 = (u8 x6) ∧ f 7 = (i64 s1.2.2) ∧ f 45 = undef ∧ ExG [(bp gio0)] w0 w ∧ Blk w gio0 100 (cipc fv0 ks0 s1.1 s1.2.1) ∧ NS [(bp gio0)] w0 (bp gio0)) ?_ ?_
      · refine W_block ?_; refine W_loop (fun s6 f w => f 0 = (bp gio0) ∧ f 2 = (i64 s1.2.2) ∧ f 3 = (u8 r4.1) ∧ f 5 = (u8 s6.1) ∧ f 6 = (i64 s6.2) ∧ f 7 = (i64 s1.2.2) ∧ f 45 = undef ∧ ExG [(bp gio0)] w0 w ∧ Blk w gio0 100 (cipc fv0 ks0 s1.1 s1.2.1) ∧ NS [(bp gio0)] w0 (bp gio0)) G6 ?_ ?_
        · exact ⟨s0_2, rfl, rfl, rfl, rfl, s7_2, s45_2, e5, o0_2, n0_2⟩
        rintro s6 _ _ w7 ⟨s0_7, s2_7, s3_7, s5_7, s6_7, s7_7, s45_7, hE7, o0_7, n0_7⟩ H6 hr6; refine W_seq <| W_seq <| W_rg <| mv (i64 s6.2) rfl s6_7 <| wa rfl (q_leI rfl rfl rfl) <| wnt <| ?_; refine W_cond _ rfl rfl (fun hb8 => ?_) (fun hb8 => ?_)
        · replace H6 := ifp hb8 H6; refine W_skip <| W_th <| W_seq <| W_block <| W_rg <| mv (u8 s6.1) rfl s5_7 <| mv (u8 r4.1) rfl s3_7 <| mv (i64 s6.2) rfl s6_7 <| ?_; obtain ⟨r9, hr9, H6⟩ := bsi H6; refine wls rfl rfl (stp_call (vs := [(u8 r4.1), (i64 s6.2)]) Try.func85 rfl rfl rfl (ar2 rfl rfl) (word_Turn_byte_calls r4.1 s6.2  r9 _  hr9) ?_); rintro _ w9 ⟨rfl, x9⟩; refine ⟨_, rfl, ?_⟩; replace o0_7 := o0_7.ext x9; have e10 := hE7.trans x9; refine wa rfl (q_xor8 rfl rfl rfl) <| av (u8 ((s6.1 ^^^ r9))) rfl rfl <| wl_nil <| bk_n <| W_th <| W_rg <| mv (i64 s6.2) rfl s6_7 <| wa rfl (q_addI rfl rfl rfl) <| ?_; refine av (i64 ((wI (s6.2 + 1)))) rfl rfl <| wl_nil <| ?_; obtain rfl := osi H6; exact ⟨_, rfl, s0_7, s2_7, s3_7, rfl, rfl, s7_7, s45_7, e10, o0_7, n0_7⟩
        replace H6 := ifn hb8 H6; refine W_exit <| th_x <| ?_; obtain rfl := osi H6; obtain rfl := hr6 _ rfl; refine th_x <| bk_x <| ?_; exact ⟨s0_7, s2_7, s5_7, s7_7, s45_7, hE7, o0_7, n0_7⟩
      rintro _ w12 ⟨s0_12, s2_12, s5_12, s7_12, s45_12, hE12, o0_12, n0_12⟩; refine W_th ?_; refine W_draw [] [(0, 0), (1, 0), (2, 0), (3, 0), (4, 0), (5, 0), (6, 0), (7, 0), (8, 0), (9, 0), (11, 0), (12, 0), (10, 2), (13, 0), (14, 2)] mixed (by kernel_rfl) (by kernel_rfl) (by kernel_rfl) (by kernel_rfl) ?_; have x13 := Ext.drew w12; replace o0_12 := o0_12.ext x13; have e14 := hE12.trans x13; refine sv (bp gio0) rfl rfl s0_12 <| sv (i64 s1.2.2) rfl rfl s2_12 <| sv (bp gio0) rfl rfl s0_12 <| sv (u8 x6) rfl rfl s5_12 <| sv (u8 x6) rfl rfl s5_12 <| sv (i64 s1.2.2) rfl rfl s2_12 <| sa rfl rfl (q_cvt8I rfl rfl rfl rfl) <| sa rfl rfl (q_nilP rfl rfl) <| ?_; refine sa rfl rfl (q_fldC (g := gio0) (d := 2) rfl fieldAtC2 rfl) ?_; obtain ⟨c15, hc15, H1⟩ := bsi H1; obtain ⟨c16, hc16, H1⟩ := bsi H1; refine sa rfl rfl (q_ixA (m := 2) rfl A98 rfl rfl (lenA_eq hc15) hc16) <| sa rfl rfl (q_nilP rfl rfl) <| sa rfl rfl (q_fldC (g := gio0) (d := 258) rfl fieldAtC3 rfl) <| ?_; refine wsn rfl (by kernel_rfl) rfl rfl (stp_storeCb (i := s1.2.2) (z := x6) [] [] rfl rfl rfl o0_12 hc16 ?_); intro w17 o17 g17 l17; have e18 := e14.grown g17 n0_12; obtain ⟨c19, hc19, H1⟩ := bsi H1; obtain ⟨c20, hc20, H1⟩ := bsi H1; refine sa rfl rfl (q_ixA8 (m := 258) rfl A98 rfl rfl (lenA_eq hc19) hc20) ?_; refine wsn rfl (by kernel_rfl) rfl rfl (stp_storeCk (i := (x6.toNat : Int)) (z := (UInt8.ofInt s1.2.2)) [] [] rfl (List.length_set.trans (lenA_eq hc15)) rfl rfl o17 hc20 ?_); intro w21 o21 g21 l21; have e22 := e18.grown g21 n0_12; refine ws_nil ?_; refine bk_n <| W_th <| W_rg <| wa rfl (q_addI rfl s7_12 rfl) <| mv (i64 ((wI (s1.2.2 + 1)))) rfl rfl <| wl_nil <| ?_; obtain rfl := osi H1; exact ⟨_, rfl, s0_12, rfl, s45_12, e22, o21, n0_12⟩
    replace H1 := ifn hb3 H1; refine W_exit <| th_x <| ?_; obtain rfl := osi H1; obtain rfl := hr1 _ rfl; refine th_x <| bk_x <| ?_; exact ⟨s0_2, s45_2, hE2, o0_2, n0_2⟩
  rintro _ w25 ⟨s0_25, s45_25, hE25, o0_25, n0_25⟩; refine rtn ?_; obtain rfl := osi H; refine rt0 rfl s45_25 ?_; exact ⟨rfl, hE25, o0_25⟩
noncomputable def cipher_Rounds (a0c : Option Cip) : Option Int :=
(if a0c.isNone = true then some 0
else
((a0c).bind fun c2 => some (wI ((c2.keys.length : Int) - 1))))
theorem cipher_Rounds_calls (a0c : Option Cip) (p0 : Value) (r : Int) (w0 : World) (hp0 : Ci w0 [] p0 a0c) (H : cipher_Rounds a0c = some r) :
    Calls Try.prog 99 [p0].toArray w0 (fun e w' => e = .returned (i64 r) ∧ Ext w0 w') := by
  have hE : Ext w0 w0 := Ext.refl w0; unfold cipher_Rounds at H; refine calls_W (n := 11) Try.func99 rfl rfl rfl ?_; refine W_seq <| W_rg <| av (i64 0) rfl rfl <| wnt <| W_seq <| W_seq <| W_rg <| mv p0 rfl rfl <| ?_; refine wa rfl (q_eqC rfl rfl rfl rfl (hp0.lift (Lift.ext hE _))) <| wnt <| ?_; refine W_cond _ rfl rfl (fun hb1 => ?_) (fun hb1 => ?_)
  · replace H := (if_pos hb1).symm.trans H; refine W_seq <| W_rg <| av (i64 0) rfl rfl <| wnt <| W_ret <| th_r <| ?_; obtain rfl := osi H; refine rt1 (i64 0) rfl rfl rfl rfl ?_; exact ⟨rfl, hE⟩
  replace H := (if_neg (ne_true_of_eq_false hb1)).symm.trans H; refine W_skip <| W_th <| W_seq <| W_rg <| mv p0 rfl rfl <| ?_; obtain ⟨c2, hc2, H⟩ := bsi H; obtain ⟨g2, fv2, ks2, hv2, hB2, hF2, hK2, hP2, hQ2⟩ := Ci.some hp0 hc2; refine wa rfl (q_nilP (g := g2) (m := 0) rfl (Eq.trans rfl hv2)) <| wa rfl (q_fldC (g := g2) (d := 1) rfl fieldAtC1 rfl) <| wq rfl (q_loadB (u := ks2) rfl Try.isAgg97 rfl (hB2.ext hE) rfl) <| wa rfl (q_lenK rfl Try.underlying97 rfl (hK2.lift (Lift.ext hE _))) <| wa rfl (q_subI rfl rfl rfl) <| av (i64 ((wI ((c2.keys.length : Int) - 1)))) rfl rfl <| wnt <| W_ret <| ?_; obtain rfl := osi H; refine rt1 (i64 ((wI ((c2.keys.length : Int) - 1)))) rfl rfl rfl rfl ?_; exact ⟨rfl, hE⟩
noncomputable def cipher_Encrypt (a0c : Option Cip) (a1b : List UInt8) : Option (List UInt8 × Int) :=
(if a0c.isNone = true then some (([] : List UInt8), 1)
else
(if (a1b.length : Int) = 16 then
((lenA 16 a1b).bind fun c3 =>
((lenA 16 ((List.replicate 16 (0 : UInt8)))).bind fun c8 =>
((a0c).bind fun c10 =>
((idx c10.keys 0).bind fun c11 =>
((cipher_add a1b c11).bind fun r12 =>
((subL c10.keys 1 ((c10.keys.length : Int))).bind fun c14 =>
((iterC (fun s15 : List UInt8 × Int =>
(if s15.2 < (c14.length : Int) then
((idx c14 s15.2).bind fun c18 =>
((lenA 16 ((List.replicate 16 (0 : UInt8)))).bind fun c24 =>
((lenA 16 c18).bind fun c25 =>
((cipher_box s15.1 c10.box).bind fun r27 =>
((cipher_rows r27 1).bind fun r29 =>
((cipher_Rounds a0c).bind fun r31 =>
(if s15.2 < (wI (r31 - 1)) then
((cipher_columns r29 c10.f ([(2 : UInt8), (1 : UInt8), (1 : UInt8), (3 : UInt8)] : List UInt8)).bind fun r34 =>
((lenA 16 c18).bind fun c36 =>
((cipher_add r34 c18).bind fun r37 => some (.inl (r37, (wI (s15.2 + 1)))))))
else
((lenA 16 c18).bind fun c39 =>
((cipher_add r29 c18).bind fun r40 => some (.inl (r40, (wI (s15.2 + 1)))))))))))))
else some (.inr s15.1))) (r12, 0)).bind fun x15 =>
((lenA 16 x15).bind fun c44 =>
((slices_Clone_sbytebyte x15).bind fun r45 => some (r45, 0))))))))))
else some (([] : List UInt8), 3)))
theorem cipher_Encrypt_calls (a0c : Option Cip) (a1b : List UInt8) (p0 : Value) (p1 : Value) (r : List UInt8 × Int) (w0 : World) (hp0 : Ci w0 [] p0 a0c) (hp1 : By w0 [] p1 a1b) (H : cipher_Encrypt a0c a1b = some r) :
    Calls Try.prog 87 [p0, p1].toArray w0 (fun e w' => ∃ u0 : Value, e = .returned (.tuple #[u0, (i64 r.2)]) ∧ Ext w0 w' ∧ Nw w0 u0 ∧ OwK (Sc u8) w' [] 5 u0 r.1) := by
  have hE : Ext w0 w0 := Ext.refl w0; unfold cipher_Encrypt at H; refine calls_W (n := 58) Try.func87 rfl rfl rfl ?_; refine W_seq <| W_rg <| av (.slice none 0 0) rfl rfl <| av (i64 0) rfl rfl <| wnt <| W_seq <| W_block <| W_seq <| ?_; refine W_rg <| mv p0 rfl rfl <| wa rfl (q_eqC rfl rfl rfl rfl (hp0.lift (Lift.ext hE _))) <| av (.bool a0c.isNone) rfl rfl <| wnt <| ?_; refine W_cond _ rfl rfl (fun hb1 => ?_) (fun hb1 => ?_)
  · replace H := (if_pos hb1).symm.trans H; refine W_seq <| W_rg <| av (.slice none 0 0) rfl rfl <| av (i64 1) rfl rfl <| wnt <| W_ret <| bk_r <| th_r <| ?_; obtain rfl := osi H; refine rt2 (.slice none 0 0) (i64 1) rfl rfl rfl rfl rfl rfl ?_; exact ⟨(.slice none 0 0), rfl, hE, Nw.nil _, (OwK.nil _ _ _ _)⟩
  replace H := (if_neg (ne_true_of_eq_false hb1)).symm.trans H; refine W_seq <| W_rg <| mv p1 rfl rfl <| wa rfl (q_len rfl T22.sl rfl (hp1.lift (Lift.ext hE _))) <| wa rfl (q_neI rfl rfl rfl) <| av (.bool ((!decide ((a1b.length : Int) = 16)))) rfl rfl <| wnt <| ?_; refine W_cond _ rfl rfl (fun hb2 => ?_) (fun hb2 => ?_)
  · replace H := (if_neg (ndec_t hb2)).symm.trans H; refine W_seq <| W_rg <| av (.slice none 0 0) rfl rfl <| av (i64 3) rfl rfl <| wnt <| W_ret <| bk_r <| th_r <| ?_; obtain rfl := osi H; refine rt2 (.slice none 0 0) (i64 3) rfl rfl rfl rfl rfl rfl ?_; exact ⟨(.slice none 0 0), rfl, hE, Nw.nil _, (OwK.nil _ _ _ _)⟩
  replace H := (if_pos (ndec_f hb2)).symm.trans H; refine W_skip <| bk_n <| W_th <| W_seq <| W_rg <| mv p1 rfl rfl <| ?_; obtain ⟨c3, hc3, H⟩ := bsi H; refine wa rfl (q_arrAt rfl A106 rfl (hp1.lift (Lift.ext hE _)) (Nat.le_of_eq (lenA_eq hc3).symm)) <| wq rfl (q_loadSp rfl A106 rfl (hp1.lift (Lift.ext hE _)) (lenA_eq hc3) (by decide)) <| ?_; refine wls rfl rfl (sal u8 (List.replicate 16 (0 : UInt8)) [] rfl Z106 ?_); intro g4 w4 o4 n4 g4r l4; have x4 := grown_ext g4r; have n6 := Nw.ext hE n4; have e5 := hE.trans x4; obtain ⟨c8, hc8, H⟩ := bsi H; refine wln rfl rfl (stp_storeA [] [] rfl A106 rfl rfl (lenA_eq hc8) (lenA_eq hc3) o4 one_u8 ?_); intro w7 o7 g7 l7; have e9 := e5.grown g7 n6; refine wnt <| W_seq <| W_rg <| mv p0 rfl rfl <| ?_; obtain ⟨c10, hc10, H⟩ := bsi H; obtain ⟨g10, fv10, ks10, hv10, hB10, hF10, hK10, hP10, hQ10⟩ := Ci.some hp0 hc10; refine wa rfl (q_nilP (g := g10) (m := 0) rfl (Eq.trans rfl hv10)) <| wa rfl (q_fldC (g := g10) (d := 1) rfl fieldAtC1 rfl) <| wq rfl (q_loadB (u := ks10) rfl Try.isAgg97 rfl (hB10.ext e9) rfl) <| ?_; obtain ⟨c11, hc11, H⟩ := bsi H; refine wa rfl (q_adrK rfl K97 rfl rfl (hK10.lift (Lift.ext e9 _)) hc11) <| wq rfl (q_loadK rfl K97 rfl (hK10.lift (Lift.ext e9 _)) hc11) <| ?_; obtain ⟨r12, hr12, H⟩ := bsi H; refine wls rfl rfl (stp_call (vs := [(bp g4), (ag u8 c11)]) Try.func96 rfl rfl rfl (ar2 rfl rfl) (cipher_add_calls a1b c11 g4 r12 _ o7 hr12) ?_); rintro _ w12 ⟨rfl, x12, hb12_0⟩; refine ⟨_, rfl, ?_⟩; have lx12 := Lift.ownX [] [] x12; have e13 := e9.grownX x12 n6; refine wnt <| W_seq <| W_seq <| W_rg <| mv p0 rfl rfl <| wa rfl (q_nilP (g := g10) (m := 0) rfl (Eq.trans rfl hv10)) <| wa rfl (q_fldC (g := g10) (d := 1) rfl fieldAtC1 rfl) <| wq rfl (q_loadB (u := ks10) rfl Try.isAgg97 rfl (hB10.ext e13) rfl) <| ?_; obtain ⟨c14, hc14, H⟩ := bsi H; refine wa rfl (q_sliceK (a := 1) (c := (c10.keys.length : Int)) rfl K97 rfl (hK10.lift (Lift.ext e13 _)) rfl rfl hc14) <| wa rfl (q_lenK rfl Try.underlying97 rfl (Ka.cut (hK10.lift (Lift.ext e13 _)) hc14)) <| mv (i64 0) rfl rfl <| wnt <| ?_; obtain ⟨x15, G15, H⟩ := bsi H; refine W_mid (fun f w => f 6 = (bp g4) ∧ f 58 = undef ∧ Ext w0 w ∧ Blk w g4 106 (ac u8 x15) ∧ Nw w0 (bp g4)) ?_ ?_
  · refine W_block ?_; refine W_loop (fun s15 f w => f 0 = p0 ∧ f 6 = (bp g4) ∧ f 30 = (subK ks10 (1 : Int).toNat ((c10.keys.length : Int) : Int).toNat) ∧ f 31 = (i64 ((c14.length : Int))) ∧ f 32 = (i64 s15.2) ∧ f 58 = undef ∧ Ext w0 w ∧ Blk w g4 106 (ac u8 s15.1) ∧ Nw w0 (bp g4)) G15 ?_ ?_
    · exact ⟨rfl, rfl, rfl, rfl, rfl, rfl, e13, hb12_0, n6⟩
    rintro s15 _ _ w16 ⟨s0_16, s6_16, s30_16, s31_16, s32_16, s58_16, hE16, o0_16, n0_16⟩ H15 hr15; refine W_seq <| W_rg <| wa rfl (q_ltI rfl s32_16 s31_16) <| wnt <| W_seq <| ?_; refine W_cond _ rfl rfl (fun hb17 => ?_) (fun hb17 => ?_)
    · replace H15 := ifp hb17 H15; refine W_skip <| W_th <| W_seq <| W_block <| W_seq <| W_rg <| mv (i64 s15.2) rfl s32_16 <| ?_; obtain ⟨c18, hc18, H15⟩ := bsi H15; refine wa rfl (q_adrK rfl K97 (by exact s30_16) (by exact s32_16) (Ka.cut (hK10.lift (Lift.ext hE16 _)) hc14) hc18) <| wq rfl (q_loadK rfl K97 rfl (Ka.cut (hK10.lift (Lift.ext hE16 _)) hc14) hc18) <| ?_; refine wls rfl rfl (sal u8 (List.replicate 16 (0 : UInt8)) [(bp g4)] rfl Z106 ?_); intro g19 w19 o19 n19 g19r l19; have x19 := grown_ext g19r; have q20 : Nq (bp g4) (bp g19) := o0_16.nq n19; replace o0_16 := o0_16.ext x19; have n22 := Nw.ext hE16 n19; have e21 := hE16.trans x19; refine av (i64 s15.2) rfl rfl ?_; obtain ⟨c24, hc24, H15⟩ := bsi H15; obtain ⟨c25, hc25, H15⟩ := bsi H15; refine wln rfl rfl (stp_storeA [] [(bp g4)] rfl A106 rfl rfl (lenA_eq hc24) (lenA_eq hc25) o19 one_u8 ?_); intro w23 o23 g23 l23; replace o0_16 := o0_16.other g23 q20; have e26 := e21.grown g23 n22; refine wnt <| W_seq <| W_rg <| mv p0 rfl s0_16 <| wa rfl (q_nilP (g := g10) (m := 0) rfl (Eq.trans rfl hv10)) <| wa rfl (q_fldC (g := g10) (d := 2) rfl fieldAtC2 rfl) <| ?_; obtain ⟨r27, hr27, H15⟩ := bsi H15; refine wls rfl rfl (stp_call (vs := [(bp g4), (bpo g10 2)]) Try.func97 rfl rfl rfl (ar2 (by exact s6_16) rfl) (cipher_box_calls s15.1 c10.box g4 (bpo g10 2) r27 _ o0_16 (hP10.lift (Lift.arg e26 (nv_cons n0_16 nv_nil))) hr27) ?_); rintro _ w27 ⟨rfl, x27, hb27_0⟩; refine ⟨_, rfl, ?_⟩; have lx27 := Lift.ownX [(bp g19)] [] x27; replace o23 := o23.otherX x27 q20.symm; have e28 := e26.grownX x27 n0_16; refine wnt <| W_seq <| W_rg <| ?_; obtain ⟨r29, hr29, H15⟩ := bsi H15; refine wls rfl rfl (stp_call (vs := [(bp g4), (i64 1)]) Try.func98 rfl rfl rfl (ar2 (by exact s6_16) rfl) (cipher_rows_calls r27 1 g4 r29 _ hb27_0 hr29) ?_); rintro _ w29 ⟨rfl, x29, hb29_0⟩; refine ⟨_, rfl, ?_⟩; have lx29 := Lift.ownX [(bp g19)] [] x29; replace o23 := o23.otherX x29 q20.symm; have e30 := e28.grownX x29 n0_16; refine wnt <| W_seq <| W_seq <| W_rg <| mv (i64 s15.2) rfl rfl <| mv p0 rfl s0_16 <| ?_; obtain ⟨r31, hr31, H15⟩ := bsi H15; refine wls rfl rfl (stp_call (vs := [p0]) Try.func99 rfl rfl rfl (ar1 rfl) (cipher_Rounds_calls a0c p0 r31 _ (hp0.lift (Lift.ext e30 _)) hr31) ?_); rintro _ w31 ⟨rfl, x31⟩; refine ⟨_, rfl, ?_⟩; replace o23 := o23.ext x31; replace hb29_0 := hb29_0.ext x31; have e32 := e30.trans x31
      refine wa rfl (q_subI rfl rfl rfl) <| wa rfl (q_ltI rfl rfl rfl) <| wnt <| ?_; refine W_cond _ rfl rfl (fun hb33 => ?_) (fun hb33 => ?_)
      · replace H15 := ifp hb33 H15; refine W_rg <| mv p0 rfl s0_16 <| wa rfl (q_nilP (g := g10) (m := 0) rfl (Eq.trans rfl hv10)) <| wa rfl (q_fldC (g := g10) (d := 0) rfl fieldAtC0 rfl) <| wq rfl (q_loadB (u := fv10) rfl Try.isAgg32 rfl (hB10.ext e32) rfl) <| wa rfl (q_buildAF (l := ([(2 : UInt8), (1 : UInt8), (1 : UInt8), (3 : UInt8)] : List UInt8)) (us := [(u8 2), (u8 1), (u8 1), (u8 3)]) (z := (0 : UInt8)) rfl A127 Z127 (by exact ⟨rfl, (cst8 (2 : UInt8) rfl), rfl, (cst8 (1 : UInt8) rfl), rfl, (cst8 (1 : UInt8) rfl), rfl, (cst8 (3 : UInt8) rfl), trivial⟩) rfl rfl cel_u8) <| ?_; obtain ⟨r34, hr34, H15⟩ := bsi H15; refine wls rfl rfl (stp_call (vs := [(bp g4), fv10, (ag u8 (([(2 : UInt8), (1 : UInt8), (1 : UInt8), (3 : UInt8)] : List UInt8)))]) Try.func100 rfl rfl rfl (ar3 (by exact s6_16) rfl rfl) (cipher_columns_calls r29 c10.f ([(2 : UInt8), (1 : UInt8), (1 : UInt8), (3 : UInt8)] : List UInt8) g4 fv10 r34 _ hb29_0 ((hF10.lift (Lift.arg e32 (nv_cons n22 (nv_cons n0_16 nv_nil)))).lift (Lift.sub (fun _ h => ⟨h.2.1, trivial⟩))) hr34) ?_); rintro _ w34 ⟨rfl, x34, hb34_0⟩; refine ⟨_, rfl, ?_⟩; have lx34 := Lift.ownX [(bp g19)] [] x34; replace o23 := o23.otherX x34 q20.symm; have e35 := e32.grownX x34 n0_16; refine wnt <| W_rg <| ?_; obtain ⟨c36, hc36, H15⟩ := bsi H15; refine wq rfl (q_loadA (m := 0) rfl A106 rfl o23 (seg_self _ _) (lenA_eq hc36)) ?_; obtain ⟨r37, hr37, H15⟩ := bsi H15; refine wls rfl rfl (stp_call (vs := [(bp g4), (ag u8 c18)]) Try.func96 rfl rfl rfl (ar2 (by exact s6_16) rfl) (cipher_add_calls r34 c18 g4 r37 _ hb34_0 hr37) ?_); rintro _ w37 ⟨rfl, x37, hb37_0⟩; refine ⟨_, rfl, ?_⟩; have lx37 := Lift.ownX [(bp g19)] [] x37; replace o23 := o23.otherX x37 q20.symm; have e38 := e35.grownX x37 n0_16; refine wl_nil <| bk_n <| W_th <| W_rg <| wa rfl (q_addI rfl s32_16 rfl) <| mv (i64 ((wI (s15.2 + 1)))) rfl rfl <| wl_nil <| ?_; obtain rfl := osi H15; exact ⟨_, rfl, s0_16, s6_16, s30_16, s31_16, rfl, s58_16, e38, hb37_0, n0_16⟩
      replace H15 := ifn hb33 H15; refine W_skip <| W_th <| W_rg <| ?_; obtain ⟨c39, hc39, H15⟩ := bsi H15; refine wq rfl (q_loadA (m := 0) rfl A106 rfl o23 (seg_self _ _) (lenA_eq hc39)) ?_; obtain ⟨r40, hr40, H15⟩ := bsi H15; refine wls rfl rfl (stp_call (vs := [(bp g4), (ag u8 c18)]) Try.func96 rfl rfl rfl (ar2 (by exact s6_16) rfl) (cipher_add_calls r29 c18 g4 r40 _ hb29_0 hr40) ?_); rintro _ w40 ⟨rfl, x40, hb40_0⟩; refine ⟨_, rfl, ?_⟩; have lx40 := Lift.ownX [(bp g19)] [] x40; replace o23 := o23.otherX x40 q20.symm; have e41 := e32.grownX x40 n0_16; refine wl_nil <| bk_n <| W_th <| W_rg <| wa rfl (q_addI rfl s32_16 rfl) <| mv (i64 ((wI (s15.2 + 1)))) rfl rfl <| wl_nil <| ?_; obtain rfl := osi H15; exact ⟨_, rfl, s0_16, s6_16, s30_16, s31_16, rfl, s58_16, e41, hb40_0, n0_16⟩
    replace H15 := ifn hb17 H15; refine W_exit <| th_x <| ?_; obtain rfl := osi H15; obtain rfl := hr15 _ rfl; refine th_x <| bk_x <| ?_; exact ⟨s6_16, s58_16, hE16, o0_16, n0_16⟩
  rintro _ w43 ⟨s6_43, s58_43, hE43, o0_43, n0_43⟩; refine W_th <| W_seq <| W_rg <| ?_; obtain ⟨c44, hc44, H⟩ := bsi H; refine wa rfl (q_sliceA rfl A106 (by exact s6_43)) ?_; obtain ⟨r45, hr45, H⟩ := bsi H; refine wls rfl rfl (stp_call (vs := [(.slice (some ⟨g4, 0, none⟩) 16 16)]) Try.func35 rfl rfl rfl (ar1 rfl) (slices_Clone_sbytebyte_calls x15 (.slice (some ⟨g4, 0, none⟩) 16 16) r45 _ (Blk.by o0_43 (lenA_eq hc44)) hr45) ?_); rintro _ w45 ⟨v45, rfl, x45, n45_0, o45_0⟩; refine ⟨_, rfl, ?_⟩; have o45 : OwK (Sc u8) w45 (v45 :: [(bp g4)]) 5 v45 r45 := OwK.scal o45_0 _; have q46 : Nq (bp g4) v45 := o0_43.nq n45_0; replace o0_43 := o0_43.ext x45; have n48 := Nw.ext hE43 n45_0; have e47 := hE43.trans x45; refine av v45 rfl rfl <| av (i64 0) rfl rfl <| wnt <| W_ret <| ?_; obtain rfl := osi H; refine rt2 v45 (i64 0) rfl rfl rfl rfl rfl s58_43 ?_; exact ⟨v45, rfl, e47, n48, (o45.weak (Sc.stab _) (fun _ _ => trivial))⟩
end Gk

/- A range over a function whose iterator may draw an order of evaluation: what a round needs then stays behind a draw, too. No condition. -/
namespace Gk
open Go Go.RowKit
def SeqD {α : Type} (P : Program) (gf : Nat) (lb : Array Value) (encs : α → Array Value) (Kp : World → World → Prop) (S : List α → Prop) (N : Nat) (w : World) : Prop :=
  ∀ (l : Nat) (J : List α → World → Prop) (W : World), Below w.heap.size w W → (∀ pre W, J pre W → J pre W.drew) →
    (∀ pre x W1, J pre W1 → pre.length < N → YieldAt Fence.wide 0 P l (encs x) W1 fun e W' => e = .returned (.bool true) ∧ J (pre ++ [x]) W' ∧ Kp W1 W') →
    J [] W → CallsIn Fence.wide 1 P gf (#[.func (.yield l) #[] #[]] ++ lb) W fun e W' => (∃ v, e = .returned v) ∧ ∃ xs, S xs ∧ J xs W'
def RoundD {α : Type} (B : Nat) (Kp : World → World → Prop) (I : List α → World → Prop) (xs : List α) (W : World) : Exit → (Nat → Value) → World → Prop
  | .normal, _, W' => KeepsFrom B W W' ∧ Kp W W' ∧ I xs W'
  | _, _, _ => False
theorem Tn.alloc {B : Nat} (w : World) (o : Obj) : Tn B w (w.alloc o) := ⟨none, World.grownBy_alloc w o none, fun _ e => by cases e⟩
theorem Tn.putO {B : Nat} {w : World} {l : Nat} {o : Obj} (h : w.heap[l]? = some o) (hc : o.isCells = false) (hB : B ≤ l) (o' : Obj) : Tn B w (w.putObj l o') :=
  ⟨some l, grownBy_putObj' w l o', fun r e => by cases e; exact ⟨hB, o, h, hc⟩⟩
section
variable {P : Program} {n : Nat} {Q : Exit → (Nat → Value) → World → Prop} {f : Nat → Value} {w : World}
theorem params1 {n : Nat} {F : Nat → Value} {p : Nat} {a : Value} (hm : F n = undef) (hp : Nat.blt p n = true) :
    ({ tmps := ((#[p] : Array Tmp).zip #[a]).foldl (fun t (p, v) => t.setIfInBounds p v) (fr n F).tmps, defers := [] } : Act) = fr n (upd F p a) := by
  have h1 := fr_put n F (some p) a hp
  have e : (fr n F).defers = [] := by show dec (F n) = []; rw [hm]; rfl
  simp only [updO] at h1
  rw [← h1]
  simp [Act.put, e]
theorem tmps_clear {n : Nat} (f : Nat → Value) : (fr n (upd f n undef)).tmps = (fr n f).tmps := by
  apply Array.ext_getElem?
  intro i
  by_cases hi : i < n
  · rw [fr_get n _ i hi, fr_get n _ i hi, upd_ne f _ (by omega)]
  · rw [fr_none n _ i (by omega), fr_none n _ i (by omega)]
theorem upd_clear {n : Nat} {f : Nat → Value} (hm : f n = undef) : upd f n undef = f := by
  funext t
  by_cases h : t = n
  · subst h; rw [upd_eq, hm]
  · rw [upd_ne f _ h]
theorem mark_one {n : Nat} {f : Nat → Value} (hm : f n = undef) (D : Nat) : fr n (upd f n (bp D)) = { fr n f with defers := { target := .collected D, args := #[] } :: (fr n f).defers } := (fr_mark n f D hm).symm
theorem mark_two {n D' : Nat} {f : Nat → Value} (hm : f n = bp D') (D : Nat) : fr n (upd f n (mk2 D D')) = { fr n f with defers := { target := .collected D, args := #[] } :: (fr n f).defers } := by
  have e1 : (fr n (upd f n (mk2 D D'))).tmps = (fr n f).tmps := by
    apply Array.ext_getElem?
    intro i
    by_cases hi : i < n
    · rw [fr_get n _ i hi, fr_get n _ i hi, upd_ne f _ (by omega)]
    · rw [fr_none n _ i (by omega), fr_none n _ i (by omega)]
  have e2 : (fr n f).defers = [{ target := .collected D', args := #[] }] := by show dec (f n) = _; rw [hm]; rfl
  have e3 : (fr n (upd f n (mk2 D D'))).defers = [{ target := .collected D, args := #[] }, { target := .collected D', args := #[] }] := by
    show dec (upd f n (mk2 D D') n) = _
    rw [upd_eq]; rfl
  rw [e2]
  show Act.mk (fr n (upd f n (mk2 D D'))).tmps (fr n (upd f n (mk2 D D'))).defers = _
  rw [e1, e3]
theorem W_rangeD {α : Type} {g : Operand} {p : Tmp} {assign body : Code} {mk : Nat → Value} (hm : ∀ D, fr n (upd f n (mk D)) = { fr n f with defers := { target := .collected D, args := #[] } :: (fr n f).defers }) (hog : okO n g = true) {gf : Nat} {lb : Array Value} (hg : ev f g = .func (.func gf) #[] lb)
    (eg : ∀ args w, (callFunc gf args).run P w = .ok (.enter gf args) w)
    {ea : α → Value} {Kp : World → World → Prop} {S : List α → Prop} {N : Nat} (hseq : SeqD P gf lb (fun x => #[ea x]) Kp S N w)
    (hKt : ∀ {A B C : World}, Kp A B → Kp B C → Kp A C) (hKb : ∀ (W : World) (l : Nat) (o o' : Obj), w.heap.size ≤ l → W.heap[l]? = some o → o.isCells = false → Kp W (W.putObj l o')) (hp : Nat.blt p n = true)
    (I : List α → World → Prop) (hI : ∀ s W W', Tn w.heap.size W W' → I s W → I s W') (hD : ∀ s W, I s W → I s W.drew) (h0 : I [] w) (fa : α → Nat → Value)
    (hassign : ∀ (l : Nat) (x : α) (W1 : World) (K : (Nat → Value) → World → Prop), K (fa x) W1 → W (ro := some l) P n assign (Th K (fun _ _ _ => False)) (upd (upd f n undef) p (ea x)) W1)
    (hbody : ∀ (l : Nat) (pre : List α) (x : α) (W1 : World), I pre W1 → pre.length < N → W (ro := some l) P n body (RoundD w.heap.size Kp I (pre ++ [x]) W1) (fa x) W1)
    (hdone : ∀ (D : Nat) (xs : List α) (W1 : World), w.heap.size ≤ D → S xs → I xs W1 → W1.heap[D]? = some (.deferred (some [])) → Q .normal (upd f n (mk D)) W1) :
    W (ro := none) P n (.rangeFunc g #[p] assign body) Q f w := by
  unfold W
  refine (wpIn_wide (n := 0)).2 ((wpIn_wide (n := 2)).1 ?_)
  refine wpIn_rangeFunc ?_
  intro fn hfn
  obtain ⟨rc, hrc⟩ : ∃ rc : LoopState → Loop, rc = fun st => { state := st, pending := none, fn, tmps := (fr n f).tmps, params := #[p], assign, body, defers := w.heap.size } := ⟨_, rfl⟩
  have hent := run_enterLoop_outer (P := P) (w := w) fn (fr n f).tmps #[p] assign body
  have eR : ({ state := .ready, pending := none, fn, tmps := (fr n f).tmps, params := #[p], assign, body, defers := w.heap.size } : Loop) = rc .ready := by rw [hrc]
  rw [eR] at hent
  generalize hA : w.alloc (.deferred (some [])) = WA at hent
  generalize hB : WA.alloc (.loop (rc .ready)) = WB at hent
  have sA : WA.heap.size = w.heap.size + 1 := by rw [← hA]; simp
  have sB : WB.heap.size = w.heap.size + 2 := by rw [← hB]; simp [sA]
  have tA : Tn w.heap.size w WA := by rw [← hA]; exact Tn.alloc _ _
  have tB : Tn w.heap.size WA WB := by rw [← hB]; exact Tn.alloc _ _
  have hL : WB.heap[w.heap.size + 1]? = some (.loop (rc .ready)) := by
    have := alloc_new WA (.loop (rc .ready))
    rwa [sA, hB] at this
  have hK : WB.heap[w.heap.size]? = some (.deferred (some [])) := by
    have h1 := alloc_new w (.deferred (some []))
    rw [hA] at h1
    have h2 := alloc_old WA (.loop (rc .ready)) w.heap.size (by omega)
    rw [hB] at h2
    exact h2.trans h1
  have hbel : Below w.heap.size w WB := by
    have h1 := (Below.refl w.heap.size w).alloc (Nat.le_refl _) (.deferred (some []))
    rw [hA] at h1
    have h2 := h1.alloc (by omega) (.loop (rc .ready))
    rwa [hB] at h2
  refine ⟨w.heap.size + 1, [{ target := .collected w.heap.size, args := #[] }], WB, { target := .fn (.func gf) lb, args := #[.func (.yield (w.heap.size + 1)) #[] #[]] }, WB, gf, #[.func (.yield (w.heap.size + 1)) #[] #[]] ++ lb, WB, hent, ?_, ?_, ?_, fun _ => by decide, ?_⟩
  · have hgv : (fr n f).eval g = .func (.func gf) #[] lb := by rw [fr_eval n f g hog]; exact hg
    simp only [resolve, hgv]
    simp [go_sem]
  · intro f' _; trivial
  · simp [invoke, go_sem, eg]
  refine (hseq (w.heap.size + 1) (fun pre X => I pre X ∧ X.heap[w.heap.size + 1]? = some (.loop (rc .ready)) ∧ X.heap[w.heap.size]? = some (.deferred (some []))) WB hbel (fun pre X h => ⟨hD pre X h.1, h.2.1, h.2.2⟩) ?_ ⟨hI _ _ _ tB (hI _ _ _ tA h0), hL, hK⟩).mono ?_
  · rintro pre x X ⟨hi, hl, hk⟩ hlen
    have hlt := lt_of_get hl
    have hy := run_yield (P := P) (args := #[ea x]) hl (by rw [hrc]; rfl)
    have hbr := run_beginRound (P := P) hl (by rw [hrc])
    generalize hX2 : X.putObj (w.heap.size + 1) (.loop { rc .ready with state := .busy }) = X2 at hbr
    have hl2 : X2.heap[w.heap.size + 1]? = some (.loop { rc .ready with state := .busy }) := by rw [← hX2]; exact World.putObj_heap_same hlt
    have hk2 : X2.heap[w.heap.size]? = some (.deferred (some [])) := by rw [← hX2]; exact (World.putObj_heap_other (by omega)).trans hk
    have hw2 : Kp X X2 := by rw [← hX2]; exact hKb _ _ _ _ (by omega) hl rfl
    have hi2 : I pre X2 := by rw [← hX2]; exact hI _ _ _ (Tn.putO hl rfl (by omega) _) hi
    refine ⟨_, _, _, _, hy, ?_⟩
    have hfn' : Fence.wide.fn (rc .ready).fn := trivial
    refine roundIn_of_wpIn hfn' ?_
    have hpar : ({ tmps := ((rc .ready).params.zip #[ea x]).foldl (fun t (p, v) => t.setIfInBounds p v) (rc .ready).tmps, defers := [] } : Act) = fr n (upd (upd f n undef) p (ea x)) := by
      rw [hrc, ← tmps_clear f]; exact params1 (upd_eq f n undef) hp
    rw [hpar]
    have hasg := hassign (w.heap.size + 1) x X (fun f' X' => ∃ X2, (Instr.beginRound (w.heap.size + 1)).run P X' = .ok () X2 ∧ body.wpIn (Fence.wide.inRound (w.heap.size + 1)) 0 P (roundPost P (w.heap.size + 1) fun e W' => e = .returned (.bool true) ∧ (I (pre ++ [x]) W' ∧ W'.heap[w.heap.size + 1]? = some (.loop (rc .ready)) ∧ W'.heap[w.heap.size]? = some (.deferred (some []))) ∧ Kp X W') (fr n f') X2) ⟨X2, hbr, ?_⟩
    · have e1 : (rc .ready).assign = assign := by rw [hrc]
      have e2 : (rc .ready).body = body := by rw [hrc]
      rw [e1, e2]
      refine wpIn_mono hasg ?_
      rintro e a X' ⟨f', rfl, q⟩
      cases e <;> exact q
    · refine wpIn_mono (hbody (w.heap.size + 1) pre x X2 hi2 hlen) ?_
      rintro e a X3 ⟨f', rfl, q⟩
      cases e <;> first | exact q.elim | skip
      obtain ⟨k3, kp3, hi3⟩ := q
      have hl3 := k3.same _ _ (by omega) hl2 rfl
      have hk3 := k3.same _ _ (Nat.le_refl _) hk2 rfl
      have her := run_endRound (P := P) none hl3
      have e3 : ({ ({ rc .ready with state := .busy } : Loop) with state := if (none : Option Code).isNone then .ready else .done, pending := none } : Loop) = rc .ready := by rw [hrc]; rfl
      rw [e3] at her
      refine ⟨_, _, her, rfl, ⟨hI _ _ _ (Tn.putO hl3 rfl (by omega) _) hi3, World.putObj_heap_same (lt_of_get hl3), (World.putObj_heap_other (by omega)).trans hk3⟩, hKt (hKt hw2 kp3) (hKb _ _ _ _ (by omega) hl3 rfl)⟩
  · rintro e X ⟨⟨v, rfl⟩, xs, hS, hi, hl, hk⟩
    have hend := run_endLoop (P := P) hl (by rw [hrc]; simp)
    have hp0 : (rc .ready).pending = none := by rw [hrc]
    rw [hp0] at hend
    refine ⟨none, _, hend, ?_⟩
    refine ⟨_, (hm w.heap.size).symm, hdone w.heap.size xs _ (Nat.le_refl _) hS (hI _ _ _ (Tn.putO hl rfl (by omega) _) hi) ((World.putObj_heap_other (by omega)).trans hk)⟩
theorem W_rangeDG {α α' σ : Type} {mk : Nat → Value} {π : α' → α} {xs : List α} {fstep : σ → α → Option σ} {s0 r : σ} {g : Operand} {p : Tmp} {assign body : Code} (hfold : rangeL fstep xs s0 = some r)
    (hm : ∀ D, fr n (upd f n (mk D)) = { fr n f with defers := { target := .collected D, args := #[] } :: (fr n f).defers }) (hog : okO n g = true) {gf : Nat} {lb : Array Value} (hg : ev f g = .func (.func gf) #[] lb)
    (eg : ∀ args w, (callFunc gf args).run P w = .ok (.enter gf args) w)
    {ea : α' → Value} {Rd : World → Prop} {S : List α' → Prop} {N : Nat} (hN : N = xs.length) (hseq : SeqD P gf lb (fun x => #[ea x]) (Keep Rd) S N w) (hS : ∀ ys, S ys → ys.map π = xs) (hmem : ∀ x, π x ∈ xs)
    (hRdT : ∀ W W', Tn w.heap.size W W' → Rd W → Rd W') (hp : Nat.blt p n = true)
    (I : σ → World → Prop) (hI : ∀ s W W', Tn w.heap.size W W' → I s W → I s W') (hD : ∀ s W, I s W → I s W.drew) (h0 : I s0 w) (ga : α' → (Nat → Value) → Nat → Value)
    (hassign : ∀ (l : Nat) (x : α') (W1 : World) (K : (Nat → Value) → World → Prop), K (ga x (upd (upd f n undef) p (ea x))) W1 → W (ro := some l) P n assign (Th K (fun _ _ _ => False)) (upd (upd f n undef) p (ea x)) W1)
    (hbody : ∀ (l : Nat) (x : α') (s s' : σ) (W1 : World), I s W1 → fstep s (π x) = some s' → W (ro := some l) P n body (RoundK w.heap.size Rd (I s') W1) (ga x (upd (upd f n undef) p (ea x))) W1)
    (hdone : ∀ (D : Nat) (W1 : World), w.heap.size ≤ D → I r W1 → W1.heap[D]? = some (.deferred (some [])) → Q .normal (upd f n (mk D)) W1) :
    W (ro := none) P n (.rangeFunc g #[p] assign body) Q f w := by
  obtain ⟨hall, hxs⟩ := rangeL_some hfold
  refine W_rangeD hm hog hg eg hseq (fun h k => h.trans k) ?_ hp (fun pre W => ∃ s, (pre.map π).foldlM fstep s0 = some s ∧ I s W) ?_ ?_ ⟨s0, rfl, h0⟩ (fun x => ga x (upd (upd f n undef) p (ea x))) hassign ?_ ?_
  · intro W l o o' hl ho hc
    have hg := grownBy_putObj' W l o'
    exact ⟨hg.size, fun h => hRdT _ _ ⟨some l, hg, fun r e => by cases e; exact ⟨hl, o, ho, hc⟩⟩ h⟩
  · rintro pre W W' t ⟨s, hs, h⟩
    exact ⟨s, hs, hI _ _ _ t h⟩
  · rintro pre W ⟨s, hs, h⟩
    exact ⟨s, hs, hD _ _ h⟩
  · rintro l pre x W1 ⟨s, hs, h⟩ hl
    obtain ⟨s2, h2⟩ := hall ((pre ++ [x]).map π) (by simp; omega) (fun y hy => by
      obtain ⟨z, _, rfl⟩ := List.mem_map.1 hy
      exact hmem z)
    have h3 : fstep s (π x) = some s2 := by
      rw [List.map_append, foldlM_app, hs] at h2
      simpa using h2
    refine wpIn_mono (hbody l x s s2 W1 h h3) ?_
    rintro e a w' ⟨f', rfl, q⟩
    refine ⟨f', rfl, ?_⟩
    cases e <;> first | exact q.elim | exact ⟨q.1, ⟨q.1.size, fun _ => q.2.1⟩, s2, h2, q.2.2⟩
  · rintro D ys W1 hD hSy ⟨s, hs, h⟩ hK
    rw [hS ys hSy, hxs] at hs
    obtain rfl := Option.some.inj hs
    exact hdone D W1 hD h hK
theorem W_rangeDS {α α' σ : Type} {π : α' → α} {xs : List α} {fstep : σ → α → Option σ} {s0 r : σ} {g : Operand} {p : Tmp} {assign body : Code} (hfold : rangeL fstep xs s0 = some r)
    (hm : f n = undef) (hog : okO n g = true) {gf : Nat} {lb : Array Value} (hg : ev f g = .func (.func gf) #[] lb)
    (eg : ∀ args w, (callFunc gf args).run P w = .ok (.enter gf args) w)
    {ea : α' → Value} {Rd : World → Prop} {S : List α' → Prop} {N : Nat} (hN : N = xs.length) (hseq : SeqD P gf lb (fun x => #[ea x]) (Keep Rd) S N w) (hS : ∀ ys, S ys → ys.map π = xs) (hmem : ∀ x, π x ∈ xs)
    (hRdT : ∀ W W', Tn w.heap.size W W' → Rd W → Rd W') (hp : Nat.blt p n = true)
    (I : σ → World → Prop) (hI : ∀ s W W', Tn w.heap.size W W' → I s W → I s W') (hD : ∀ s W, I s W → I s W.drew) (h0 : I s0 w) (ga : α' → (Nat → Value) → Nat → Value)
    (hassign : ∀ (l : Nat) (x : α') (W1 : World) (K : (Nat → Value) → World → Prop), K (ga x (upd f p (ea x))) W1 → W (ro := some l) P n assign (Th K (fun _ _ _ => False)) (upd f p (ea x)) W1)
    (hbody : ∀ (l : Nat) (x : α') (s s' : σ) (W1 : World), I s W1 → fstep s (π x) = some s' → W (ro := some l) P n body (RoundK w.heap.size Rd (I s') W1) (ga x (upd f p (ea x))) W1)
    (hdone : ∀ (D : Nat) (W1 : World), w.heap.size ≤ D → I r W1 → W1.heap[D]? = some (.deferred (some [])) → Q .normal (upd f n (bp D)) W1) :
    W (ro := none) P n (.rangeFunc g #[p] assign body) Q f w := by
  have hc := upd_clear hm
  refine W_rangeDG (mk := bp) hfold (mark_one hm) hog hg eg hN hseq hS hmem hRdT hp I hI hD h0 ga ?_ ?_ hdone
  · rw [hc]; exact hassign
  · rw [hc]; exact hbody
end
def chunksI {α : Type} (l : List α) (n : Nat) : List (Int × List α) := (List.range ((l.length + n - 1) / n)).map fun j => (((j * n : Nat) : Int), (l.drop (j * n)).take n)
abbrev ChEl {α : Type} (l : List α) (n : Nat) := {x : Int × List α // subL3 l x.1 (x.1 + (x.2.length : Int)) (x.1 + (x.2.length : Int)) = some x.2 ∧ x ∈ chunksI l n}
theorem chunksI_lt {α : Type} {l : List α} {n j : Nat} (hn : 1 ≤ n) : j < (chunksI l n).length ↔ j * n < l.length := by
  simp only [chunksI, List.length_map, List.length_range]
  rw [Nat.lt_div_iff_mul_lt (by omega)]
  constructor
  · intro h; omega
  · intro h; omega
theorem chunksI_at {α : Type} {l : List α} {n j : Nat} (hn : 1 ≤ n) (h : j * n < l.length) : (chunksI l n)[j]? = some (((j * n : Nat) : Int), (l.drop (j * n)).take n) := by
  have := (chunksI_lt (l := l) hn).2 h
  simp only [chunksI, List.length_map, List.length_range] at this
  simp [chunksI, this]
theorem chunksI_sub {α : Type} {l : List α} {n j : Nat} (h : j * n < l.length) : subL3 l ((j * n : Nat) : Int) (((j * n : Nat) : Int) + (((l.drop (j * n)).take n).length : Int)) (((j * n : Nat) : Int) + (((l.drop (j * n)).take n).length : Int)) = some ((l.drop (j * n)).take n) := by
  refine subL3_some.2 ⟨?_, ?_⟩
  · simp only [List.length_take, List.length_drop]; omega
  · have e : (((j * n : Nat) : Int) + (((l.drop (j * n)).take n).length : Int)).toNat = j * n + ((l.drop (j * n)).take n).length := by omega
    rw [e, Int.toNat_natCast, List.drop_take, Nat.add_sub_cancel_left]
    simp [List.take_take]
end Gk

/- slices.Chunk over bytes and over rows: what it hands back, and its iterator's contract. (Printed by genXFk.py.) No condition. -/
namespace Gk
open Go Go.Proofs Go.RowKit
theorem run_yieldcall1 {P : Program} {o : Oper} {f : Nat → Value} {w : World} {l : Nat} {x y : Operand} {ts : Array TypeId} {a : Value} {r : Next} (ho : o.op = .call ⟨.value x, #[y], ts⟩) (hx : ev f x = .func (.yield l) #[] #[]) (hy : ev f y = a)
    (h : (Instr.yield l #[a]).run P w = .ok r w) : (execOp (ev f) o).run P w = .ok r w := by
  simp [execOp, ho, hx, hy, resolve, invoke, Deferred.ofValue, h]
theorem Chunk_bytes_calls (v : Value) (hv : v.cells = #[v]) (n : Int) (hn : 1 ≤ n) (w : World) : Calls Try.prog 53 [v, i64 n].toArray w fun e w' =>
    ∃ g1 g2, e = .returned (.func (.func 74) #[] #[bp g1, bp g2]) ∧ Nw w (bp g1) ∧ Nw w (bp g2) ∧ Nq (bp g1) (bp g2) ∧ Blk w' g1 22 #[v] ∧ Blk w' g2 3 #[i64 n] ∧ Ext w w' := by
  refine calls_W (n := 9) Try.func53 rfl rfl rfl ?_; refine W_seq <| W_rg <| ?_; refine wls rfl rfl (stp_box (v := v) rfl rfl ?_); intro w1 hb1 hg1; rw [hv] at hb1; refine wls rfl rfl (stp_box (v := i64 n) rfl rfl ?_); intro w2 hb2 hg2; have hb1' : Blk w2 w.heap.size 22 #[v] := hb1.ext (grown_ext hg2); have hs1 : w.heap.size < w1.heap.size := hb1.lt; refine av .nilFunc rfl rfl <| wnt <| W_seq <| W_seq <| W_rg <| wq rfl (q_loadB (u := i64 n) rfl Try.isAgg3 rfl hb2 rfl) <| wa rfl (q_ltI rfl rfl rfl) <| wnt <| ?_; refine W_cond false rfl ?_ (fun h => by cases h) (fun _ => ?_)
  · exact congrArg Value.bool (decide_eq_false (by omega))
  refine W_skip <| W_th <| W_seq <| W_rg <| wa rfl (q_mkfuncN (vs := [bp w.heap.size, bp w1.heap.size]) rfl (ar2 rfl rfl)) <| av (.func (.func 74) #[] [bp w.heap.size, bp w1.heap.size].toArray) rfl rfl <| wnt <| W_ret <| ?_; refine rt1 (.func (.func 74) #[] [bp w.heap.size, bp w1.heap.size].toArray) rfl rfl rfl rfl ?_; refine ⟨w.heap.size, w1.heap.size, rfl, Nw.bp w, ?_, ?_, hb1', hb2, (grown_ext hg1).trans (grown_ext hg2)⟩
  · intro k hk; have := hs_bp hk; omega
  intro k h1 h2; have := hs_bp h1; have := hs_bp h2; omega
def RdC_bytes (l : List (UInt8)) (n : Int) (g1 g2 : Nat) (v : Value) (w : World) : Prop := Blk w g1 22 #[v] ∧ Blk w g2 3 #[i64 n] ∧ By w [] v l
theorem RdC_bytes.tn {l : List (UInt8)} {n : Int} {g1 g2 B : Nat} {v : Value} {W W' : World} (t : Tn B W W') (h : RdC_bytes l n g1 g2 v W) : RdC_bytes l n g1 g2 v W' := ⟨h.1.tn t, h.2.1.tn t, h.2.2.lift (t.lift _)⟩
theorem RdC_bytes.ext {l : List (UInt8)} {n : Int} {g1 g2 : Nat} {v : Value} {W W' : World} (t : Ext W W') (h : RdC_bytes l n g1 g2 v W) : RdC_bytes l n g1 g2 v W' := ⟨h.1.ext t, h.2.1.ext t, h.2.2.lift (Lift.ext t _)⟩
theorem RdC_bytes.below {l : List (UInt8)} {n : Int} {g1 g2 : Nat} {v : Value} {W W' : World} (t : Below W.heap.size W W') (h : RdC_bytes l n g1 g2 v W) : RdC_bytes l n g1 g2 v W' :=
  ⟨(t.block g1 h.1.lt).trans h.1, (t.block g2 h.2.1.lt).trans h.2.1, h.2.2.lift ⟨fun k o ho _ _ => (t.block k (lt_of_get ho)).trans ho, fun _ _ _ => trivial⟩⟩
/-- slices.Chunk's iterator over []byte. -/
theorem chunk_bytes (l : List (UInt8)) (n : Nat) (hn : 1 ≤ n) (v : Value) (g1 g2 : Nat) (w : World) (hrd : RdC_bytes l (n : Int) g1 g2 v w) (hlen : l.length + n < 9223372036854775808) :
    SeqD Try.prog 74 #[bp g1, bp g2] (fun x : ChEl l n => #[subW v x.1.1.toNat (x.1.1 + (x.1.2.length : Int)).toNat (x.1.1 + (x.1.2.length : Int)).toNat]) (Keep (RdC_bytes l (n : Int) g1 g2 v)) (fun ys => ys.map (·.1) = chunksI l n) (chunksI l n).length w := by
  intro lp J W0 hW hJd hY h0
  have hrd0 : RdC_bytes l (n : Int) g1 g2 v W0 := hrd.below hW
  refine callsIn_wide.2 ?_
  show Calls Try.prog 74 [Value.func (.yield lp) #[] #[], bp g1, bp g2].toArray W0 _
  refine calls_W (n := 31) Try.func74 rfl rfl rfl ?_
  refine W_seq ?_
  refine W_reg (by kernel_rfl) ?_
  refine wla rfl rfl (q_assign (v := i64 0) rfl rfl) ?_
  refine wl_nil ?_
  refine W_th ?_
  refine W_block ?_
  refine W_loopG (fun k f w => f 31 = undef ∧ f 0 = .func (.yield lp) #[] #[] ∧ f 1 = bp g1 ∧ f 2 = bp g2 ∧ k ≤ (chunksI l n).length ∧ f 4 = i64 ((((chunksI l n).length - k) * n : Nat) : Int) ∧ (∃ ys : List (ChEl l n), ys.map (·.1) = (chunksI l n).take ((chunksI l n).length - k) ∧ J ys w) ∧ RdC_bytes l (n : Int) g1 g2 v w) (chunksI l n).length ?_ ?_
  · exact ⟨rfl, rfl, rfl, rfl, Nat.le_refl _, by rw [Nat.sub_self, Nat.zero_mul]; rfl, ⟨[], by simp, h0⟩, hrd0⟩
  · rintro k f w1 ⟨hm, s0, s1, s2, hk, s4, ⟨ys, hys, hJ⟩, hrd1⟩
    obtain ⟨hB1, hB2, hl1⟩ := hrd1
    generalize hj : (chunksI l n).length - k = j at *
    refine W_seq ?_
    refine W_seq ?_
    refine W_reg (by kernel_rfl) ?_
    refine wla rfl rfl (q_move (v := i64 ((j * n : Nat) : Int)) rfl s4) ?_
    refine wlq rfl rfl (q_loadB (u := v) rfl Try.isAgg22 s1 hB1 rfl) ?_
    refine wla rfl rfl (q_len rfl T22.sl rfl hl1) ?_
    refine wla rfl rfl (q_ltI rfl rfl rfl) ?_
    refine wl_nil ?_
    refine W_th ?_
    refine W_cond _ rfl rfl (fun hb => ?_) (fun hb => ?_)
    · have hlt : j * n < l.length := by have := of_decide_eq_true hb; omega
      have hjk : j < (chunksI l n).length := (chunksI_lt hn).2 hlt
      have e1 := chunksI_at hn hlt
      have e2 := chunksI_sub (n := n) hlt
      generalize hc : (l.drop (j * n)).take n = c at *
      have hcl : c.length = min n (l.length - j * n) := by rw [← hc]; simp
      refine W_skip ?_
      refine W_th ?_
      refine W_seq ?_
      refine W_block ?_
      refine W_seq ?_
      refine W_draw [0, 1] [(0, 1), (1, 1), (2, 0), (3, 0), (4, 0), (5, 0), (6, 0)] mixed (by kernel_rfl) (by kernel_rfl) (by kernel_rfl) (by kernel_rfl) ?_
      have xd := Ext.drew w1
      have hJ2 := hJd ys w1 hJ
      have hrd2 : RdC_bytes l (n : Int) g1 g2 v (World.drew w1) := RdC_bytes.ext xd ⟨hB1, hB2, hl1⟩
      generalize World.drew w1 = w2 at *
      obtain ⟨hB1', hB2', hl2⟩ := hrd2
      refine wsq rfl rfl rfl (q_loadB (u := i64 (n : Int)) rfl Try.isAgg3 s2 hB2' rfl) ?_
      refine wsq rfl rfl rfl (q_loadB (u := v) rfl Try.isAgg22 s1 hB1' rfl) ?_
      refine wsa rfl rfl rfl (q_move (v := i64 ((j * n : Nat) : Int)) rfl s4) ?_
      have hsub : subL l ((j * n : Nat) : Int) (l.length : Int) = some (l.drop (j * n)) := by
        refine subL_some.2 ⟨by omega, ?_⟩
        rw [Int.toNat_natCast, Int.toNat_natCast, List.take_of_length_le (Nat.le_refl _)]
      refine wsa rfl rfl rfl (q_slice (a := ((j * n : Nat) : Int)) (b := (l.length : Int)) rfl T22 rfl hl2 rfl rfl hsub) ?_
      refine wsa rfl rfl rfl (q_len rfl T22.sl rfl (SlK.cut hl2 hsub)) ?_
      have hmin : (if ((l.drop (j * n)).length : Int) < (n : Int) then ((l.drop (j * n)).length : Int) else (n : Int)) = (c.length : Int) := by
        rw [hcl, List.length_drop]; split <;> omega
      refine wsa rfl rfl rfl (q_minI (a := (n : Int)) (b := ((l.drop (j * n)).length : Int)) rfl rfl rfl) ?_
      rw [hmin]
      refine wsa rfl rfl rfl (q_assign (v := i64 (c.length : Int)) rfl rfl) ?_
      refine ws_nil ?_
      refine W_th ?_
      refine W_seq ?_
      refine W_reg (by kernel_rfl) ?_
      have hadd : wI (((j * n : Nat) : Int) + (c.length : Int)) = ((j * n : Nat) : Int) + (c.length : Int) := wI_of (by omega) (by omega)
      refine wla rfl rfl (q_move (v := .func (.yield lp) #[] #[]) rfl s0) ?_
      refine wlq rfl rfl (q_loadB (u := v) rfl Try.isAgg22 s1 hB1' rfl) ?_
      refine wla rfl rfl (q_move (v := i64 ((j * n : Nat) : Int)) rfl s4) ?_
      refine wla rfl rfl (q_move (v := i64 ((j * n : Nat) : Int)) rfl s4) ?_
      refine wla rfl rfl (q_move (v := i64 (c.length : Int)) rfl rfl) ?_
      refine wla rfl rfl (q_addI (a := ((j * n : Nat) : Int)) (b := (c.length : Int)) rfl rfl rfl) ?_
      refine wla rfl rfl (q_move (v := i64 ((j * n : Nat) : Int)) rfl s4) ?_
      refine wla rfl rfl (q_move (v := i64 (c.length : Int)) rfl rfl) ?_
      refine wla rfl rfl (q_addI (a := ((j * n : Nat) : Int)) (b := (c.length : Int)) rfl rfl rfl) ?_
      rw [hadd]
      refine wla rfl rfl (q_slice3 (a := ((j * n : Nat) : Int)) (b := ((j * n : Nat) : Int) + (c.length : Int)) (c := ((j * n : Nat) : Int) + (c.length : Int)) rfl T22 rfl hl2 rfl rfl rfl e2) ?_
      have hyl : ys.length < (chunksI l n).length := by
        have := congrArg List.length hys
        rw [List.length_map, List.length_take] at this
        omega
      obtain ⟨fn, tmps, assign, body, hy, hR⟩ := hY ys ⟨(((j * n : Nat) : Int), c), e2, List.mem_of_getElem? e1⟩ w2 hJ2 hyl
      refine wl_yield rfl (run_yieldcall1 rfl rfl rfl hy) (hR.mono ?_)
      rintro e w3 ⟨rfl, hJ3, hk3⟩
      refine ⟨_, rfl, ?_⟩
      refine wla rfl rfl (q_not (b := true) rfl rfl) ?_
      refine wl_nil ?_
      refine W_th ?_
      refine W_cond false rfl rfl (fun h => by cases h) (fun _ => ?_)
      refine W_skip ?_
      refine bk_n ?_
      refine W_th ?_
      refine W_reg (by kernel_rfl) ?_
      have hrd3 : RdC_bytes l (n : Int) g1 g2 v w3 := hk3.2 ⟨hB1', hB2', hl2⟩
      refine wla rfl rfl (q_move (v := i64 ((j * n : Nat) : Int)) rfl s4) ?_
      refine wlq rfl rfl (q_loadB (u := i64 (n : Int)) rfl Try.isAgg3 s2 hrd3.2.1 rfl) ?_
      refine wla rfl rfl (q_addI (a := ((j * n : Nat) : Int)) (b := (n : Int)) rfl rfl rfl) ?_
      have e3 : wI (((j * n : Nat) : Int) + (n : Int)) = (((j + 1) * n : Nat) : Int) := by
        rw [wI_of (by omega) (by omega), Nat.succ_mul]; omega
      rw [e3]
      refine wla rfl rfl (q_assign (v := i64 (((j + 1) * n : Nat) : Int)) rfl rfl) ?_
      refine wl_nil ?_
      refine ⟨k - 1, by omega, hm, s0, s1, s2, by omega, ?_, ⟨_, ?_, hJ3⟩, hrd3⟩
      · rw [show (chunksI l n).length - (k - 1) = j + 1 by omega]; rfl
      · rw [show (chunksI l n).length - (k - 1) = j + 1 by omega, List.take_add_one, e1, List.map_append, hys]; rfl
    · have hge : ¬ j * n < l.length := by have := of_decide_eq_false hb; omega
      have hjk : ¬ j < (chunksI l n).length := fun h => hge ((chunksI_lt hn).1 h)
      refine W_exit ?_
      refine th_x ?_
      refine th_x ?_
      refine bk_x ?_
      refine rtn (rt0 rfl hm ?_)
      refine ⟨⟨_, rfl⟩, ys, ?_, hJ⟩
      show ys.map (·.1) = chunksI l n
      rw [hys]
      exact List.take_of_length_le (by omega)
theorem Chunk_rows_calls (v : Value) (hv : v.cells = #[v]) (n : Int) (hn : 1 ≤ n) (w : World) : Calls Try.prog 71 [v, i64 n].toArray w fun e w' =>
    ∃ g1 g2, e = .returned (.func (.func 86) #[] #[bp g1, bp g2]) ∧ Nw w (bp g1) ∧ Nw w (bp g2) ∧ Nq (bp g1) (bp g2) ∧ Blk w' g1 28 #[v] ∧ Blk w' g2 3 #[i64 n] ∧ Ext w w' := by
  refine calls_W (n := 9) Try.func71 rfl rfl rfl ?_; refine W_seq <| W_rg <| ?_; refine wls rfl rfl (stp_box (v := v) rfl rfl ?_); intro w1 hb1 hg1; rw [hv] at hb1; refine wls rfl rfl (stp_box (v := i64 n) rfl rfl ?_); intro w2 hb2 hg2; have hb1' : Blk w2 w.heap.size 28 #[v] := hb1.ext (grown_ext hg2); have hs1 : w.heap.size < w1.heap.size := hb1.lt; refine av .nilFunc rfl rfl <| wnt <| W_seq <| W_seq <| W_rg <| wq rfl (q_loadB (u := i64 n) rfl Try.isAgg3 rfl hb2 rfl) <| wa rfl (q_ltI rfl rfl rfl) <| wnt <| ?_; refine W_cond false rfl ?_ (fun h => by cases h) (fun _ => ?_)
  · exact congrArg Value.bool (decide_eq_false (by omega))
  refine W_skip <| W_th <| W_seq <| W_rg <| wa rfl (q_mkfuncN (vs := [bp w.heap.size, bp w1.heap.size]) rfl (ar2 rfl rfl)) <| av (.func (.func 86) #[] [bp w.heap.size, bp w1.heap.size].toArray) rfl rfl <| wnt <| W_ret <| ?_; refine rt1 (.func (.func 86) #[] [bp w.heap.size, bp w1.heap.size].toArray) rfl rfl rfl rfl ?_; refine ⟨w.heap.size, w1.heap.size, rfl, Nw.bp w, ?_, ?_, hb1', hb2, (grown_ext hg1).trans (grown_ext hg2)⟩
  · intro k hk; have := hs_bp hk; omega
  intro k h1 h2; have := hs_bp h1; have := hs_bp h2; omega
def RdC_rows (l : List (List UInt8)) (n : Int) (g1 g2 : Nat) (v : Value) (w : World) : Prop := Blk w g1 28 #[v] ∧ Blk w g2 3 #[i64 n] ∧ Rw w [] v l
theorem RdC_rows.tn {l : List (List UInt8)} {n : Int} {g1 g2 B : Nat} {v : Value} {W W' : World} (t : Tn B W W') (h : RdC_rows l n g1 g2 v W) : RdC_rows l n g1 g2 v W' := ⟨h.1.tn t, h.2.1.tn t, h.2.2.lift (t.lift _)⟩
theorem RdC_rows.ext {l : List (List UInt8)} {n : Int} {g1 g2 : Nat} {v : Value} {W W' : World} (t : Ext W W') (h : RdC_rows l n g1 g2 v W) : RdC_rows l n g1 g2 v W' := ⟨h.1.ext t, h.2.1.ext t, h.2.2.lift (Lift.ext t _)⟩
theorem RdC_rows.below {l : List (List UInt8)} {n : Int} {g1 g2 : Nat} {v : Value} {W W' : World} (t : Below W.heap.size W W') (h : RdC_rows l n g1 g2 v W) : RdC_rows l n g1 g2 v W' :=
  ⟨(t.block g1 h.1.lt).trans h.1, (t.block g2 h.2.1.lt).trans h.2.1, h.2.2.lift ⟨fun k o ho _ _ => (t.block k (lt_of_get ho)).trans ho, fun _ _ _ => trivial⟩⟩
/-- slices.Chunk's iterator over [][]byte. -/
theorem chunk_rows (l : List (List UInt8)) (n : Nat) (hn : 1 ≤ n) (v : Value) (g1 g2 : Nat) (w : World) (hrd : RdC_rows l (n : Int) g1 g2 v w) (hlen : l.length + n < 9223372036854775808) :
    SeqD Try.prog 86 #[bp g1, bp g2] (fun x : ChEl l n => #[subW v x.1.1.toNat (x.1.1 + (x.1.2.length : Int)).toNat (x.1.1 + (x.1.2.length : Int)).toNat]) (Keep (RdC_rows l (n : Int) g1 g2 v)) (fun ys => ys.map (·.1) = chunksI l n) (chunksI l n).length w := by
  intro lp J W0 hW hJd hY h0
  have hrd0 : RdC_rows l (n : Int) g1 g2 v W0 := hrd.below hW
  refine callsIn_wide.2 ?_
  show Calls Try.prog 86 [Value.func (.yield lp) #[] #[], bp g1, bp g2].toArray W0 _
  refine calls_W (n := 31) Try.func86 rfl rfl rfl ?_
  refine W_seq ?_
  refine W_reg (by kernel_rfl) ?_
  refine wla rfl rfl (q_assign (v := i64 0) rfl rfl) ?_
  refine wl_nil ?_
  refine W_th ?_
  refine W_block ?_
  refine W_loopG (fun k f w => f 31 = undef ∧ f 0 = .func (.yield lp) #[] #[] ∧ f 1 = bp g1 ∧ f 2 = bp g2 ∧ k ≤ (chunksI l n).length ∧ f 4 = i64 ((((chunksI l n).length - k) * n : Nat) : Int) ∧ (∃ ys : List (ChEl l n), ys.map (·.1) = (chunksI l n).take ((chunksI l n).length - k) ∧ J ys w) ∧ RdC_rows l (n : Int) g1 g2 v w) (chunksI l n).length ?_ ?_
  · exact ⟨rfl, rfl, rfl, rfl, Nat.le_refl _, by rw [Nat.sub_self, Nat.zero_mul]; rfl, ⟨[], by simp, h0⟩, hrd0⟩
  · rintro k f w1 ⟨hm, s0, s1, s2, hk, s4, ⟨ys, hys, hJ⟩, hrd1⟩
    obtain ⟨hB1, hB2, hl1⟩ := hrd1
    generalize hj : (chunksI l n).length - k = j at *
    refine W_seq ?_
    refine W_seq ?_
    refine W_reg (by kernel_rfl) ?_
    refine wla rfl rfl (q_move (v := i64 ((j * n : Nat) : Int)) rfl s4) ?_
    refine wlq rfl rfl (q_loadB (u := v) rfl Try.isAgg28 s1 hB1 rfl) ?_
    refine wla rfl rfl (q_len rfl T28.sl rfl hl1) ?_
    refine wla rfl rfl (q_ltI rfl rfl rfl) ?_
    refine wl_nil ?_
    refine W_th ?_
    refine W_cond _ rfl rfl (fun hb => ?_) (fun hb => ?_)
    · have hlt : j * n < l.length := by have := of_decide_eq_true hb; omega
      have hjk : j < (chunksI l n).length := (chunksI_lt hn).2 hlt
      have e1 := chunksI_at hn hlt
      have e2 := chunksI_sub (n := n) hlt
      generalize hc : (l.drop (j * n)).take n = c at *
      have hcl : c.length = min n (l.length - j * n) := by rw [← hc]; simp
      refine W_skip ?_
      refine W_th ?_
      refine W_seq ?_
      refine W_block ?_
      refine W_seq ?_
      refine W_draw [0, 1] [(0, 1), (1, 1), (2, 0), (3, 0), (4, 0), (5, 0), (6, 0)] mixed (by kernel_rfl) (by kernel_rfl) (by kernel_rfl) (by kernel_rfl) ?_
      have xd := Ext.drew w1
      have hJ2 := hJd ys w1 hJ
      have hrd2 : RdC_rows l (n : Int) g1 g2 v (World.drew w1) := RdC_rows.ext xd ⟨hB1, hB2, hl1⟩
      generalize World.drew w1 = w2 at *
      obtain ⟨hB1', hB2', hl2⟩ := hrd2
      refine wsq rfl rfl rfl (q_loadB (u := i64 (n : Int)) rfl Try.isAgg3 s2 hB2' rfl) ?_
      refine wsq rfl rfl rfl (q_loadB (u := v) rfl Try.isAgg28 s1 hB1' rfl) ?_
      refine wsa rfl rfl rfl (q_move (v := i64 ((j * n : Nat) : Int)) rfl s4) ?_
      have hsub : subL l ((j * n : Nat) : Int) (l.length : Int) = some (l.drop (j * n)) := by
        refine subL_some.2 ⟨by omega, ?_⟩
        rw [Int.toNat_natCast, Int.toNat_natCast, List.take_of_length_le (Nat.le_refl _)]
      refine wsa rfl rfl rfl (q_slice (a := ((j * n : Nat) : Int)) (b := (l.length : Int)) rfl T28 rfl hl2 rfl rfl hsub) ?_
      refine wsa rfl rfl rfl (q_len rfl T28.sl rfl (SlK.cut hl2 hsub)) ?_
      have hmin : (if ((l.drop (j * n)).length : Int) < (n : Int) then ((l.drop (j * n)).length : Int) else (n : Int)) = (c.length : Int) := by
        rw [hcl, List.length_drop]; split <;> omega
      refine wsa rfl rfl rfl (q_minI (a := (n : Int)) (b := ((l.drop (j * n)).length : Int)) rfl rfl rfl) ?_
      rw [hmin]
      refine wsa rfl rfl rfl (q_assign (v := i64 (c.length : Int)) rfl rfl) ?_
      refine ws_nil ?_
      refine W_th ?_
      refine W_seq ?_
      refine W_reg (by kernel_rfl) ?_
      have hadd : wI (((j * n : Nat) : Int) + (c.length : Int)) = ((j * n : Nat) : Int) + (c.length : Int) := wI_of (by omega) (by omega)
      refine wla rfl rfl (q_move (v := .func (.yield lp) #[] #[]) rfl s0) ?_
      refine wlq rfl rfl (q_loadB (u := v) rfl Try.isAgg28 s1 hB1' rfl) ?_
      refine wla rfl rfl (q_move (v := i64 ((j * n : Nat) : Int)) rfl s4) ?_
      refine wla rfl rfl (q_move (v := i64 ((j * n : Nat) : Int)) rfl s4) ?_
      refine wla rfl rfl (q_move (v := i64 (c.length : Int)) rfl rfl) ?_
      refine wla rfl rfl (q_addI (a := ((j * n : Nat) : Int)) (b := (c.length : Int)) rfl rfl rfl) ?_
      refine wla rfl rfl (q_move (v := i64 ((j * n : Nat) : Int)) rfl s4) ?_
      refine wla rfl rfl (q_move (v := i64 (c.length : Int)) rfl rfl) ?_
      refine wla rfl rfl (q_addI (a := ((j * n : Nat) : Int)) (b := (c.length : Int)) rfl rfl rfl) ?_
      rw [hadd]
      refine wla rfl rfl (q_slice3 (a := ((j * n : Nat) : Int)) (b := ((j * n : Nat) : Int) + (c.length : Int)) (c := ((j * n : Nat) : Int) + (c.length : Int)) rfl T28 rfl hl2 rfl rfl rfl e2) ?_
      have hyl : ys.length < (chunksI l n).length := by
        have := congrArg List.length hys
        rw [List.length_map, List.length_take] at this
        omega
      obtain ⟨fn, tmps, assign, body, hy, hR⟩ := hY ys ⟨(((j * n : Nat) : Int), c), e2, List.mem_of_getElem? e1⟩ w2 hJ2 hyl
      refine wl_yield rfl (run_yieldcall1 rfl rfl rfl hy) (hR.mono ?_)
      rintro e w3 ⟨rfl, hJ3, hk3⟩
      refine ⟨_, rfl, ?_⟩
      refine wla rfl rfl (q_not (b := true) rfl rfl) ?_
      refine wl_nil ?_
      refine W_th ?_
      refine W_cond false rfl rfl (fun h => by cases h) (fun _ => ?_)
      refine W_skip ?_
      refine bk_n ?_
      refine W_th ?_
      refine W_reg (by kernel_rfl) ?_
      have hrd3 : RdC_rows l (n : Int) g1 g2 v w3 := hk3.2 ⟨hB1', hB2', hl2⟩
      refine wla rfl rfl (q_move (v := i64 ((j * n : Nat) : Int)) rfl s4) ?_
      refine wlq rfl rfl (q_loadB (u := i64 (n : Int)) rfl Try.isAgg3 s2 hrd3.2.1 rfl) ?_
      refine wla rfl rfl (q_addI (a := ((j * n : Nat) : Int)) (b := (n : Int)) rfl rfl rfl) ?_
      have e3 : wI (((j * n : Nat) : Int) + (n : Int)) = (((j + 1) * n : Nat) : Int) := by
        rw [wI_of (by omega) (by omega), Nat.succ_mul]; omega
      rw [e3]
      refine wla rfl rfl (q_assign (v := i64 (((j + 1) * n : Nat) : Int)) rfl rfl) ?_
      refine wl_nil ?_
      refine ⟨k - 1, by omega, hm, s0, s1, s2, by omega, ?_, ⟨_, ?_, hJ3⟩, hrd3⟩
      · rw [show (chunksI l n).length - (k - 1) = j + 1 by omega]; rfl
      · rw [show (chunksI l n).length - (k - 1) = j + 1 by omega, List.take_add_one, e1, List.map_append, hys]; rfl
    · have hge : ¬ j * n < l.length := by have := of_decide_eq_false hb; omega
      have hjk : ¬ j < (chunksI l n).length := fun h => hge ((chunksI_lt hn).1 h)
      refine W_exit ?_
      refine th_x ?_
      refine th_x ?_
      refine bk_x ?_
      refine rtn (rt0 rfl hm ?_)
      refine ⟨⟨_, rfl⟩, ys, ?_, hJ⟩
      show ys.map (·.1) = chunksI l n
      rw [hys]
      exact List.take_of_length_le (by omega)
end Gk

/- Printed by gen.py: for each Go function a pure function, and that the Go code comes to it. No condition beside the equation that says what the pure function gives. -/
namespace Gk
open Go Go.Proofs
noncomputable def cipher_New (a0f : Bool) (a1key : List UInt8) : Option (Option Cip × Int) :=
(((if (!a0f) = true then some (.inr ((none : Option Cip), 1))
else
(if (a1key.length : Int) = 16 then some (.inl ())
else
(if (a1key.length : Int) = 32 then some (.inl ())
else some (.inr ((none : Option Cip), 3)))))).bind (Sum.elim (fun s1 =>
((cipher_boxes (⟨a0f, [], (List.replicate 256 (0 : UInt8)), (List.replicate 256 (0 : UInt8))⟩ : Cip)).bind fun r15 =>
((divI ((a1key.length : Int)) 4).bind fun c17 =>
((lim (a1key.length + 4)).bind fun lim33 =>
((rangeL (fun (s33 : List (List UInt8)) (y33 : Int × List UInt8) =>
((slices_Clone_sbytebyte y33.2).bind fun r40 =>
((appL s33 (([r40] : List (List UInt8)))).bind fun c46 => some c46))) (chunksI a1key 4) ([] : List (List UInt8))).bind fun x33 =>
((((iterC (fun s60 : List (List UInt8) × UInt8 × Int =>
(if s60.2.2 < (wI (4 * (wI (c17 + 7)))) then
((idx s60.1 ((wI (s60.2.2 - 1)))).bind fun c63 =>
((slices_Clone_sbytebyte c63).bind fun r66 =>
((((remI s60.2.2 c17).bind fun c75 =>
(if c75 = 0 then
((idx r66 1).bind fun c80 =>
((idx r66 2).bind fun c81 =>
((idx r66 3).bind fun c82 =>
((idx r66 0).bind fun c83 =>
((cipher_through r15.box ([c80, c81, c82, c83] : List UInt8)).bind fun r87 =>
((idx r87 0).bind fun c96 =>
((field_Mul a0f s60.2.1 (2 : UInt8)).bind fun r100 => some (r100, (r87.set (0 : Int).toNat ((c96 ^^^ s60.2.1)))))))))))
else
(if c17 = 8 then
((remI s60.2.2 c17).bind fun c104 =>
(if c104 = 4 then
((cipher_through r15.box r66).bind fun r106 => some (s60.2.1, r106))
else some (s60.2.1, r66)))
else some (s60.2.1, r66))))).bind fun x74 =>
((idx s60.1 ((wI (s60.2.2 - c17)))).bind fun c119 =>
((word_Xor x74.2 c119).bind fun r121 =>
((appL s60.1 (([r121] : List (List UInt8)))).bind fun c127 => some (.inl (c127, x74.1, (wI (s60.2.2 + 1))))))))))
else some (.inr s60.1))) (x33, (1 : UInt8), c17)).bind fun x60 => some x60)).bind fun x59 =>
((lim (x59.length + 4)).bind fun lim156 =>
((rangeL (fun (s156 : List (List UInt8)) (y156 : Int × List (List UInt8)) =>
((slices_Concat_sbytebyte y156.2).bind fun r164 =>
((lenA 16 r164).bind fun c168 =>
((appL s156 [r164]).bind fun c173 => some c173)))) (chunksI x59 4) ([] : List (List UInt8))).bind fun x156 =>
((lenA 256 r15.box).bind fun c189 =>
((lenA 256 r15.back).bind fun c188 => some ((some (⟨a0f, x156, r15.box, r15.back⟩ : Cip)), 0))))))))))) (fun q1 => some q1)))
theorem cipher_New_calls (a0f : Bool) (a1key : List UInt8) (p0 : Value) (p1 : Value) (r : Option Cip × Int) (w0 : World) (L0 : List Value) (hL0 : Old w0 L0) (hp0 : Fd w0 L0 p0 a0f) (hp1 : By w0 [] p1 a1key) (H : cipher_New a0f a1key = some r) :
    Calls Try.prog 49 [p0, p1].toArray w0 (fun e w' => ∃ u0 : Value, e = .returned (.tuple #[u0, (i64 r.2)]) ∧ Ext w0 w' ∧ Ci w' L0 u0 r.1) := by
  have hE : Ext w0 w0 := Ext.refl w0; unfold cipher_New at H; refine calls_W (n := 129) Try.func49 rfl rfl rfl ?_; refine W_seq <| W_rg <| av (.pointer none) rfl rfl <| av (i64 0) rfl rfl <| wnt <| W_seq <| ?_; obtain ⟨x1, H1, H⟩ := bsi H; refine W_mid (fun f w => ∃ s1, x1 = .inl s1 ∧ f 0 = p0 ∧ f 1 = p1 ∧ f 129 = undef ∧ Ext w0 w) ?_ ?_
  · refine W_block <| W_seq <| W_rg <| mv p0 rfl rfl <| wa rfl (q_eqF rfl rfl rfl rfl ((hp0.lift (Lift.sub (L' := []) (fun _ _ => trivial))).lift (Lift.ext hE _))) <| av (.bool ((!a0f))) rfl rfl <| wnt <| ?_; refine W_cond _ rfl rfl (fun hb2 => ?_) (fun hb2 => ?_)
    · replace H1 := (if_pos hb2).symm.trans H1; refine W_seq <| W_rg <| av (.pointer none) rfl rfl <| av (i64 1) rfl rfl <| wnt <| W_ret <| bk_r <| ?_; obtain rfl := osi H1; simp only [Sum.elim_inr] at H; refine th_r <| th_r <| ?_; obtain rfl := osi H; refine rt2 (.pointer none) (i64 1) rfl rfl rfl rfl rfl rfl ?_; exact ⟨(.pointer none), rfl, hE, (Ci.nil _ _)⟩
    replace H1 := (if_neg (ne_true_of_eq_false hb2)).symm.trans H1; refine W_seq <| W_rg <| mv p1 rfl rfl <| wa rfl (q_len rfl T22.sl rfl (hp1.lift (Lift.ext hE _))) <| wa rfl (q_neI rfl rfl rfl) <| ?_; refine wlb rfl rfl (q_move (v := (.bool ((!decide ((a1key.length : Int) = 16))))) rfl rfl) (fun hb3 => ?_) (fun hb3 => ?_)
    · replace H1 := (if_neg (ndec_t hb3)).symm.trans H1; refine mv p1 rfl rfl <| wa rfl (q_len rfl T22.sl rfl (hp1.lift (Lift.ext hE _))) <| wa rfl (q_neI rfl rfl rfl) <| wa rfl (q_pick_t (v := (.bool ((!decide ((a1key.length : Int) = 32))))) rfl rfl rfl) <| av (.bool ((!decide ((a1key.length : Int) = 32)))) rfl rfl <| wnt <| ?_; refine W_cond _ rfl rfl (fun hb4 => ?_) (fun hb4 => ?_)
      · replace H1 := (if_neg (ndec_t hb4)).symm.trans H1; refine W_seq <| W_rg <| av (.pointer none) rfl rfl <| av (i64 3) rfl rfl <| wnt <| W_ret <| bk_r <| ?_; obtain rfl := osi H1; simp only [Sum.elim_inr] at H; refine th_r <| th_r <| ?_; obtain rfl := osi H; refine rt2 (.pointer none) (i64 3) rfl rfl rfl rfl rfl rfl ?_; exact ⟨(.pointer none), rfl, hE, (Ci.nil _ _)⟩
      replace H1 := (if_pos (ndec_f hb4)).symm.trans H1; refine W_skip <| bk_n <| ?_; obtain rfl := osi H1; exact ⟨_, rfl, rfl, rfl, rfl, hE⟩
    replace H1 := (if_pos (ndec_f hb3)).symm.trans H1; refine wlk rfl rfl <| wlk rfl rfl <| wlk rfl rfl <| wa rfl (q_pick_f (v := (.bool false)) rfl rfl rfl) <| av (.bool false) rfl rfl <| wnt <| ?_; refine W_cond false rfl rfl (fun hb => by cases hb) (fun _ => ?_); refine W_skip <| bk_n <| ?_; obtain rfl := osi H1; exact ⟨_, rfl, rfl, rfl, rfl, hE⟩
  rintro _ w5 ⟨s1, rfl, s0_5, s1_5, s129_5, hE5⟩; simp only [Sum.elim_inl] at H; refine W_th <| W_seq <| W_rg <| mv p0 rfl s0_5 <| wa rfl (q_buildC rfl rfl (cells_fd ((hp0.lift (Lift.sub (L' := []) (fun _ _ => trivial))).lift (Lift.ext hE5 _)))) <| ?_; refine wls rfl rfl (stp_boxL (v := (.agg (cipc p0 (.slice none 0 0) (List.replicate 256 (0 : UInt8)) (List.replicate 256 (0 : UInt8))))) (cs := (cipc p0 (.slice none 0 0) ((List.replicate 256 (0 : UInt8))) ((List.replicate 256 (0 : UInt8))))) (L0) rfl rfl rfl ?_); intro g6 w6 o6 n6 g6r l6; have x6 := grown_ext g6r; have n8 := Nw.ext hE5 n6; have e7 := hE5.trans x6; refine wls rfl rfl (stp_allocL (z := (.pointer none)) (cs := #[(.pointer none)]) ((bp g6) :: L0) rfl Try.zeroValue72 rfl ?_); intro g9 w9 o9 n9 g9r l9; have x9 := grown_ext g9r; have q10 : Nq (bp g6) (bp g9) := o6.nq n9; replace o6 := o6.ext x9; have n12 := Nw.ext e7 n9; have e11 := e7.trans x9; refine wln rfl rfl (stp_storeL (u := (bp g6)) [] ((bp g6) :: L0) rfl Try.sizeOf72 rfl rfl o9 rfl ?_); intro w13 o13 g13 l13; replace o6 := o6.other g13 q10; have e14 := e11.grown g13 n12; refine wnt <| W_seq <| W_rg <| wq rfl (q_loadB (u := (bp g6)) rfl Try.isAgg72 rfl o13 rfl) <| ?_; obtain ⟨r15, hr15, H⟩ := bsi H; refine wls rfl rfl (stp_call (vs := [(bp g6)]) Try.func69 rfl rfl rfl (ar1 rfl) (cipher_boxes_calls (⟨a0f, [], (List.replicate 256 (0 : UInt8)), (List.replicate 256 (0 : UInt8))⟩ : Cip) g6 p0 (.slice none 0 0) r15 _ o6 ((hp0.lift (Lift.sub (L' := []) (fun _ _ => trivial))).lift (Lift.arg e14 (nv_cons n8 nv_nil))) hr15) ?_); rintro _ w15 ⟨rfl, x15, hb15_0⟩; refine ⟨_, rfl, ?_⟩; have lx15 := Lift.ownX [(bp g9)] (L0) x15; replace o13 := o13.otherX x15 q10.symm; have e16 := e14.grownX x15 n8; refine wnt <| W_seq <| W_rg <| mv p1 rfl s1_5 <| wa rfl (q_len rfl T22.sl rfl (hp1.lift (Lift.ext e16 _))) <| ?_; obtain ⟨c17, hc17, H⟩ := bsi H; refine wa rfl (q_divI rfl rfl rfl hc17) <| av (i64 c17) rfl rfl <| wnt <| W_seq <| W_rg <| ?_; refine wls rfl rfl (stp_allocL (z := (.slice none 0 0)) (cs := #[(.slice none 0 0)]) ((bp g9) :: (bp g6) :: L0) rfl Try.zeroValue28 rfl ?_); intro g18 w18 o18 n18 g18r l18; have x18 := grown_ext g18r; have q19 : Nq (bp g9) (bp g18) := o13.nq n18; have q20 : Nq (bp g6) (bp g18) := hb15_0.nq n18; replace o13 := o13.ext x18; replace hb15_0 := hb15_0.ext x18; have n22 := Nw.ext e16 n18; have e21 := e16.trans x18; refine wnt <| W_seq <| W_seq <| W_rg <| mv p1 rfl s1_5 <| ?_; refine wls rfl rfl (stp_call (vs := [p1, i64 4]) Try.func53 rfl rfl rfl (ar2 rfl rfl) (Chunk_bytes_calls p1 (cells_sl _ _ (hp1.lift (Lift.ext e21 _))) 4 (by decide) _) ?_)
  rintro _ w23 ⟨g23a, g23b, rfl, nA23, nB23, qAB23, hA23, hB23, x23⟩; refine ⟨_, rfl, ?_⟩; have q24 : Nq (bp g18) (bp g23a) := o18.nq nA23; have q25 : Nq (bp g18) (bp g23b) := o18.nq nB23; have q26 : Nq (bp g9) (bp g23a) := o13.nq nA23; have q27 : Nq (bp g9) (bp g23b) := o13.nq nB23; have q28 : Nq (bp g6) (bp g23a) := hb15_0.nq nA23; have q29 : Nq (bp g6) (bp g23b) := hb15_0.nq nB23; replace o18 := o18.ext x23; replace o13 := o13.ext x23; replace hb15_0 := hb15_0.ext x23; have n30 := Nw.ext e21 nA23; have n31 := Nw.ext e21 nB23; have e32 := e21.trans x23; refine wnt <| W_block <| ?_; obtain ⟨lim33, hl33, H⟩ := bsi H; obtain ⟨x33, G33, H⟩ := bsi H; refine W_rangeDS (π := fun x : ChEl a1key 4 => x.1) (xs := chunksI a1key 4) (ea := fun x => subW p1 x.1.1.toNat (x.1.1 + (x.1.2.length : Int)).toNat (x.1.1 + (x.1.2.length : Int)).toNat) (Rd := RdC_bytes a1key 4 g23a g23b p1) (gf := 74) (lb := #[(bp g23a), (bp g23b)]) G33 s129_5 rfl rfl (enters Try.func74 rfl rfl) rfl (chunk_bytes a1key 4 (by decide) p1 g23a g23b _ ⟨hA23, hB23, (hp1.lift (Lift.ext e32 _))⟩ (lim_lt hl33)) (fun ys h => h) (fun x => x.2.2) (fun _ _ t h => RdC_bytes.tn t h) rfl (fun s33 w => ∃ vbbpg18_193 : Value, Ext w0 w ∧ OwK By w (vbbpg18_193 :: (bp g9) :: (bp g6) :: (bp g18) :: (bp g23a) :: (bp g23b) :: L0) 22 vbbpg18_193 s33 ∧ Nw w0 vbbpg18_193 ∧ Blk w g9 72 #[(bp g6)] ∧ Nw w0 (bp g9) ∧ Blk w g6 100 (cipc p0 (.slice none 0 0) r15.box r15.back) ∧ Nw w0 (bp g6) ∧ Blk w g18 28 #[vbbpg18_193] ∧ Nw w0 (bp g18) ∧ Blk w g23a 22 #[p1] ∧ Nw w0 (bp g23a) ∧ Blk w g23b 3 #[(i64 4)] ∧ Nw w0 (bp g23b) ∧ Nq vbbpg18_193 (bp g9) ∧ Nq vbbpg18_193 (bp g6) ∧ Nq vbbpg18_193 (bp g18) ∧ Nq vbbpg18_193 (bp g23a) ∧ Nq vbbpg18_193 (bp g23b) ∧ Nq (bp g9) (bp g6) ∧ Nq (bp g9) (bp g18) ∧ Nq (bp g9) (bp g23a) ∧ Nq (bp g9) (bp g23b) ∧ Nq (bp g6) (bp g18) ∧ Nq (bp g6) (bp g23a) ∧ Nq (bp g6) (bp g23b) ∧ Nq (bp g18) (bp g23a) ∧ Nq (bp g18) (bp g23b) ∧ Nq (bp g23a) (bp g23b)) ?_ ?_ ⟨(.slice none 0 0), e32, (OwK.nil _ _ _ _), (Nw.nil _), o13, n12, hb15_0, n8, o18, n22, hA23, n30, hB23, n31, (Nq.nil _), (Nq.nil _), (Nq.nil _), (Nq.nil _), (Nq.nil _), q10.symm, q19, q26, q27, q20, q28, q29, q24, q25, qAB23⟩ (fun x f => upd (f) 9 (subW p1 x.1.1.toNat (x.1.1 + (x.1.2.length : Int)).toNat (x.1.1 + (x.1.2.length : Int)).toNat)) ?_ ?_ ?_
  · rintro s33 W W' t ⟨vbbpg18_34, hE34, o0_34, n0_34, o1_34, n1_34, o2_34, n2_34, o3_34, n3_34, o4_34, n4_34, o5_34, n5_34, q0_1_34, q0_2_34, q0_3_34, q0_4_34, q0_5_34, q1_2_34, q1_3_34, q1_4_34, q1_5_34, q2_3_34, q2_4_34, q2_5_34, q3_4_34, q3_5_34, q4_5_34⟩; exact ⟨vbbpg18_34, (hE34.tn t e32.size), (o0_34.tn (SlK.stab (Sc.stab _)) t), n0_34, (o1_34.tn t), n1_34, (o2_34.tn t), n2_34, (o3_34.tn t), n3_34, (o4_34.tn t), n4_34, (o5_34.tn t), n5_34, q0_1_34, q0_2_34, q0_3_34, q0_4_34, q0_5_34, q1_2_34, q1_3_34, q1_4_34, q1_5_34, q2_3_34, q2_4_34, q2_5_34, q3_4_34, q3_5_34, q4_5_34⟩
  · rintro s33 W ⟨vbbpg18_35, hE35, o0_35, n0_35, o1_35, n1_35, o2_35, n2_35, o3_35, n3_35, o4_35, n4_35, o5_35, n5_35, q0_1_35, q0_2_35, q0_3_35, q0_4_35, q0_5_35, q1_2_35, q1_3_35, q1_4_35, q1_5_35, q2_3_35, q2_4_35, q2_5_35, q3_4_35, q3_5_35, q4_5_35⟩; have t := Ext.drew W; exact ⟨vbbpg18_35, (hE35.trans t), (o0_35.extL (SlK.stab (Sc.stab _)) t (Lift.ext t _)), n0_35, (o1_35.ext t), n1_35, (o2_35.ext t), n2_35, (o3_35.ext t), n3_35, (o4_35.ext t), n4_35, (o5_35.ext t), n5_35, q0_1_35, q0_2_35, q0_3_35, q0_4_35, q0_5_35, q1_2_35, q1_3_35, q1_4_35, q1_5_35, q2_3_35, q2_4_35, q2_5_35, q3_4_35, q3_5_35, q4_5_35⟩
  · intro l x W1 K hK; refine W_rg <| av (subW p1 x.1.1.toNat (x.1.1 + (x.1.2.length : Int)).toNat (x.1.1 + (x.1.2.length : Int)).toNat) rfl rfl <| wl_nil <| ?_; exact hK
  · rintro l ⟨y33, hy33⟩ s33 sp33 w36 ⟨vbbpg18_36, hE36, o0_36, n0_36, o1_36, n1_36, o2_36, n2_36, o3_36, n3_36, o4_36, n4_36, o5_36, n5_36, q0_1_36, q0_2_36, q0_3_36, q0_4_36, q0_5_36, q1_2_36, q1_3_36, q1_4_36, q1_5_36, q2_3_36, q2_4_36, q2_5_36, q3_4_36, q3_5_36, q4_5_36⟩ H33; have kf33 := KeepsFrom.refl w23.heap.size w36; refine W_block ?_; refine W_draw [0] [(0, 1), (1, 0), (2, 2), (3, 2), (4, 2), (5, 2)] mixed (by kernel_rfl) (by kernel_rfl) (by kernel_rfl) (by kernel_rfl) ?_; have x37 := Ext.drew w36; replace o0_36 := o0_36.extL (SlK.stab (Sc.stab _)) x37 (Lift.ext x37 _); replace o1_36 := o1_36.ext x37; replace o2_36 := o2_36.ext x37; replace o3_36 := o3_36.ext x37; replace o4_36 := o4_36.ext x37; replace o5_36 := o5_36.ext x37; have k38 := kf33.ext x37; have e39 := hE36.trans x37; refine sq rfl rfl (q_loadB (u := vbbpg18_36) rfl Try.isAgg28 rfl o3_36 rfl) <| sv (subW p1 y33.1.toNat (y33.1 + (y33.2.length : Int)).toNat (y33.1 + (y33.2.length : Int)).toNat) rfl rfl rfl <| ?_; obtain ⟨r40, hr40, H33⟩ := bsi H33; refine wss rfl rfl rfl (stp_call (vs := [(subW p1 y33.1.toNat (y33.1 + (y33.2.length : Int)).toNat (y33.1 + (y33.2.length : Int)).toNat)]) Try.func35 rfl rfl rfl (ar1 rfl) (slices_Clone_sbytebyte_calls y33.2 (subW p1 y33.1.toNat (y33.1 + (y33.2.length : Int)).toNat (y33.1 + (y33.2.length : Int)).toNat) r40 _ (SlK.cut3 (L := []) (hp1.lift (Lift.ext e39 _)) hy33.1) hr40) ?_); rintro _ w40 ⟨v40, rfl, x40, n40_0, o40_0⟩; refine ⟨_, rfl, x40, ?_⟩; have i40_0 : By w40 (vbbpg18_36 :: (bp g9) :: (bp g6) :: (bp g18) :: (bp g23a) :: (bp g23b) :: L0) v40 r40 := OwK.slk (Sc.stab _) _ (OwK.scal o40_0 (v40 :: (vbbpg18_36 :: (bp g9) :: (bp g6) :: (bp g18) :: (bp g23a) :: (bp g23b) :: L0))) (fun k hk => (Old.cons (Old.cons (Old.cons (Old.cons (Old.cons (Old.cons (hL0.ext e39) o5_36.ltB) o4_36.ltB) o3_36.ltB) o2_36.ltB) o1_36.ltB) o0_36.lt) k (n40_0 k hk)) (fun _ h => h.2); replace o0_36 := o0_36.extL (SlK.stab (Sc.stab _)) x40 (Lift.ext x40 _); replace o1_36 := o1_36.ext x40; replace o2_36 := o2_36.ext x40; replace o3_36 := o3_36.ext x40; replace o4_36 := o4_36.ext x40; replace o5_36 := o5_36.ext x40; have k41 := k38.ext x40; have e42 := e39.trans x40; refine wss rfl rfl rfl (stp_lit (L := (vbbpg18_36 :: (bp g9) :: (bp g6) :: (bp g18) :: (bp g23a) :: (bp g23b) :: L0)) (R := By) [v40] ([r40] : List (List UInt8)) rfl T28 rfl (by exact ⟨rfl, rfl, trivial⟩) rfl (LitR.cells (R := By) (w := w40) (L := (vbbpg18_36 :: (bp g9) :: (bp g6) :: (bp g18) :: (bp g23a) :: (bp g23b) :: L0)) (l := ([r40] : List (List UInt8))) (LitR.cons i40_0 LitR.nil) (fun u x h => cells_sl u x h)) rfl (LitR.all (R := By) (w := w40) (L := (vbbpg18_36 :: (bp g9) :: (bp g6) :: (bp g18) :: (bp g23a) :: (bp g23b) :: L0)) (l := ([r40] : List (List UInt8))) (SlK.stab (Sc.stab _)) (LitR.cons i40_0 LitR.nil)) ?_); intro v43 w43 o43 n43 g43 l43; refine ⟨grown_ext g43, ?_⟩; have x43 := grown_ext g43; have i43 : Rw w43 (vbbpg18_36 :: (bp g9) :: (bp g6) :: (bp g18) :: (bp g23a) :: (bp g23b) :: L0) v43 (([r40] : List (List UInt8))) := OwK.slk (SlK.stab (Sc.stab _)) _ o43 (fun k hk => (Old.cons (Old.cons (Old.cons (Old.cons (Old.cons (Old.cons (hL0.ext e42) o5_36.ltB) o4_36.ltB) o3_36.ltB) o2_36.ltB) o1_36.ltB) o0_36.lt) k (n43 k hk)) (fun _ h => h.2)
    replace i40_0 := i40_0.lift (Lift.ext x43 _); replace o0_36 := o0_36.extL (SlK.stab (Sc.stab _)) x43 (Lift.ext x43 _); replace o1_36 := o1_36.ext x43; replace o2_36 := o2_36.ext x43; replace o3_36 := o3_36.ext x43; replace o4_36 := o4_36.ext x43; replace o5_36 := o5_36.ext x43; have k44 := k41.ext x43; have e45 := e42.trans x43; obtain ⟨c46, hc46, H33⟩ := bsi H33; refine wsc rfl (by kernel_rfl) rfl rfl (stp_append (R := By) (v := vbbpg18_36) (u := v43) (SlK.stab (Sc.stab _)) [] ((bp g9) :: (bp g6) :: (bp g18) :: (bp g23a) :: (bp g23b) :: L0) rfl T28 rfl rfl o0_36 i43 (fun _ _ h => h) hc46 oc_sl ?_); intro v46 w46 o46 g46 nx46 l46; have k47 := k44.own g46 o0_36.cl; replace i40_0 := i40_0.lift l46; replace i43 := i43.lift l46; have q48 : Nq (bp g9) v46 := o1_36.nxt q0_1_36.symm nx46; have q49 : Nq (bp g6) v46 := o2_36.nxt q0_2_36.symm nx46; have q50 : Nq (bp g18) v46 := o3_36.nxt q0_3_36.symm nx46; have q51 : Nq (bp g23a) v46 := o4_36.nxt q0_4_36.symm nx46; have q52 : Nq (bp g23b) v46 := o5_36.nxt q0_5_36.symm nx46; replace o1_36 := o1_36.other g46 q0_1_36.symm; replace o2_36 := o2_36.other g46 q0_2_36.symm; replace o3_36 := o3_36.other g46 q0_3_36.symm; replace o4_36 := o4_36.other g46 q0_4_36.symm; replace o5_36 := o5_36.other g46 q0_5_36.symm; have e53 := e45.grown g46 n0_36; have n54 := Nw.nxt e45 n0_36 nx46; refine wsn rfl (by kernel_rfl) rfl rfl (stp_storeL (u := v46) [v46, (bp g9), (bp g6)] ((bp g23a) :: (bp g23b) :: L0) rfl Try.sizeOf28 rfl rfl o3_36 (oc_own o46) ?_); intro w55 o55 g55 l55; have k56 := k47.own g55 o3_36.cl; replace i40_0 := i40_0.lift l55; replace i43 := i43.lift l55; replace o46 := o46.other (SlK.stab (Sc.stab _)) g55 q50.symm l55; replace o1_36 := o1_36.other g55 q1_3_36; replace o2_36 := o2_36.other g55 q2_3_36; replace o4_36 := o4_36.other g55 q3_4_36.symm; replace o5_36 := o5_36.other g55 q3_5_36.symm; have e57 := e53.grown g55 n3_36; refine ws_nil ?_; refine bk_n ?_; obtain rfl := osi H33; exact ⟨k56, ⟨o4_36, o5_36, (hp1.lift (Lift.ext e57 _))⟩, v46, e57, o46, n54, o1_36, n1_36, o2_36, n2_36, o55, n3_36, o4_36, n4_36, o5_36, n5_36, q48.symm, q49.symm, q50.symm, q51.symm, q52.symm, q1_2_36, q1_3_36, q1_4_36, q1_5_36, q2_3_36, q2_4_36, q2_5_36, q3_4_36, q3_5_36, q4_5_36⟩
  intro D33 w58 hD33 ⟨vbbpg18_58, hE58, o0_58, n0_58, o1_58, n1_58, o2_58, n2_58, o3_58, n3_58, o4_58, n4_58, o5_58, n5_58, q0_1_58, q0_2_58, q0_3_58, q0_4_58, q0_5_58, q1_2_58, q1_3_58, q1_4_58, q1_5_58, q2_3_58, q2_4_58, q2_5_58, q3_4_58, q3_5_58, q4_5_58⟩ hK33; have hd33 := Nat.le_trans e32.size hD33; have kd33 := KeepsFrom.refl 0 w58; refine bk_n <| W_th <| W_seq <| W_rg <| av (u8 1) rfl (cst8 (1 : UInt8) rfl) <| wnt <| W_seq <| ?_; obtain ⟨x59, H59, H⟩ := bsi H; refine W_mid (fun f w => ∃ vbbpg18_192 : Value, f 6 = (bp g9) ∧ f 8 = (bp g18) ∧ f 129 = (bp D33) ∧ Ext w0 w ∧ KeepsFrom 0 w58 w ∧ OwK By w (vbbpg18_192 :: (bp g9) :: (bp g6) :: (bp g18) :: L0) 22 vbbpg18_192 x59 ∧ Nw w0 vbbpg18_192 ∧ Blk w g9 72 #[(bp g6)] ∧ Nw w0 (bp g9) ∧ Blk w g6 100 (cipc p0 (.slice none 0 0) r15.box r15.back) ∧ Nw w0 (bp g6) ∧ Blk w g18 28 #[vbbpg18_192] ∧ Nw w0 (bp g18) ∧ Nq vbbpg18_192 (bp g9) ∧ Nq vbbpg18_192 (bp g6) ∧ Nq vbbpg18_192 (bp g18) ∧ Nq (bp g9) (bp g6) ∧ Nq (bp g9) (bp g18) ∧ Nq (bp g6) (bp g18)) ?_ ?_
  · refine W_seq <| W_rg <| mv (i64 c17) rfl rfl <| av (i64 c17) rfl rfl <| wnt <| ?_; obtain ⟨x60, G60, H59⟩ := bsi H59; refine W_mid (fun f w => ∃ vbbpg18_141 : Value, f 6 = (bp g9) ∧ f 8 = (bp g18) ∧ f 129 = (bp D33) ∧ Ext w0 w ∧ KeepsFrom 0 w58 w ∧ OwK By w (vbbpg18_141 :: (bp g9) :: (bp g6) :: (bp g18) :: L0) 22 vbbpg18_141 x60 ∧ Nw w0 vbbpg18_141 ∧ Blk w g9 72 #[(bp g6)] ∧ Nw w0 (bp g9) ∧ Blk w g6 100 (cipc p0 (.slice none 0 0) r15.box r15.back) ∧ Nw w0 (bp g6) ∧ Blk w g18 28 #[vbbpg18_141] ∧ Nw w0 (bp g18) ∧ Nq vbbpg18_141 (bp g9) ∧ Nq vbbpg18_141 (bp g6) ∧ Nq vbbpg18_141 (bp g18) ∧ Nq (bp g9) (bp g6) ∧ Nq (bp g9) (bp g18) ∧ Nq (bp g6) (bp g18)) ?_ ?_
    · refine W_block ?_; refine W_loop (fun s60 f w => ∃ vbbpg18_139 : Value, f 0 = p0 ∧ f 6 = (bp g9) ∧ f 7 = (i64 c17) ∧ f 8 = (bp g18) ∧ f 10 = (u8 s60.2.1) ∧ f 11 = (i64 s60.2.2) ∧ f 129 = (bp D33) ∧ Ext w0 w ∧ KeepsFrom 0 w58 w ∧ OwK By w (vbbpg18_139 :: (bp g9) :: (bp g6) :: (bp g18) :: L0) 22 vbbpg18_139 s60.1 ∧ Nw w0 vbbpg18_139 ∧ Blk w g9 72 #[(bp g6)] ∧ Nw w0 (bp g9) ∧ Blk w g6 100 (cipc p0 (.slice none 0 0) r15.box r15.back) ∧ Nw w0 (bp g6) ∧ Blk w g18 28 #[vbbpg18_139] ∧ Nw w0 (bp g18) ∧ Nq vbbpg18_139 (bp g9) ∧ Nq vbbpg18_139 (bp g6) ∧ Nq vbbpg18_139 (bp g18) ∧ Nq (bp g9) (bp g6) ∧ Nq (bp g9) (bp g18) ∧ Nq (bp g6) (bp g18)) G60 ?_ ?_
      · exact ⟨vbbpg18_58, s0_5, rfl, rfl, rfl, rfl, rfl, rfl, hE58, kd33, (o0_58.weak (SlK.stab (Sc.stab _)) (fun _ h => ⟨h.1, h.2.1, h.2.2.1, h.2.2.2.1, h.2.2.2.2.2.2⟩)), n0_58, o1_58, n1_58, o2_58, n2_58, o3_58, n3_58, q0_1_58, q0_2_58, q0_3_58, q1_2_58, q1_3_58, q2_3_58⟩
      rintro s60 _ _ w61 ⟨vbbpg18_61, s0_61, s6_61, s7_61, s8_61, s10_61, s11_61, s129_61, hE61, k0_61, o0_61, n0_61, o1_61, n1_61, o2_61, n2_61, o3_61, n3_61, q0_1_61, q0_2_61, q0_3_61, q1_2_61, q1_3_61, q2_3_61⟩ H60 hr60; refine W_seq <| W_seq <| W_rg <| mv (i64 s60.2.2) rfl s11_61 <| mv (i64 c17) rfl s7_61 <| wa rfl (q_addI rfl rfl rfl) <| wa rfl (q_mulI rfl rfl rfl) <| wa rfl (q_ltI rfl rfl rfl) <| ?_; refine wnt ?_; refine W_cond _ rfl rfl (fun hb62 => ?_) (fun hb62 => ?_)
      · replace H60 := ifp hb62 H60; refine W_skip <| W_th <| W_seq <| W_block <| W_seq <| W_rg <| wq rfl (q_loadB (u := vbbpg18_61) rfl Try.isAgg28 (by exact s8_61) o3_61 rfl) <| mv (i64 s60.2.2) rfl s11_61 <| ?_; refine wa rfl (q_subI rfl rfl rfl) ?_; obtain ⟨c63, hc63, H60⟩ := bsi H60; refine wa rfl (q_adr rfl T28 rfl rfl (o0_61.rd (SlK.stab (Sc.stab _))) hc63) ?_; refine wlq_loadO (SlK.stab (Sc.stab _)) rfl rfl rfl T28 rfl o0_61 hc63 (fun v65 i65 => ?_); replace i65 : By w61 (vbbpg18_61 :: (bp g9) :: (bp g6) :: (bp g18) :: L0) v65 c63 := i65; obtain ⟨r66, hr66, H60⟩ := bsi H60; refine wls rfl rfl (stp_call (vs := [v65]) Try.func35 rfl rfl rfl (ar1 rfl) (slices_Clone_sbytebyte_calls c63 v65 r66 _ (i65.lift (Lift.sub (L' := []) (fun _ _ => trivial))) hr66) ?_); rintro _ w66 ⟨v66, rfl, x66, n66_0, o66_0⟩; refine ⟨_, rfl, ?_⟩; have o66 : OwK (Sc u8) w66 (v66 :: (vbbpg18_61 :: (bp g9) :: (bp g6) :: (bp g18) :: L0)) 5 v66 r66 := OwK.scal o66_0 _; have q67 : Nq vbbpg18_61 v66 := o0_61.nq n66_0; have q68 : Nq (bp g9) v66 := o1_61.nq n66_0; have q69 : Nq (bp g6) v66 := o2_61.nq n66_0; have q70 : Nq (bp g18) v66 := o3_61.nq n66_0; replace i65 := i65.lift (Lift.call _ x66 n66_0); replace o0_61 := o0_61.extL (SlK.stab (Sc.stab _)) x66 (Lift.call _ x66 n66_0); replace o1_61 := o1_61.ext x66; replace o2_61 := o2_61.ext x66; replace o3_61 := o3_61.ext x66; have k71 := k0_61.ext x66; have n73 := Nw.ext hE61 n66_0; have e72 := hE61.trans x66; refine av v66 rfl rfl <| wnt <| W_seq <| ?_; obtain ⟨x74, H74, H60⟩ := bsi H60; refine W_mid (fun f w => ∃ v12_138 : Value, f 0 = p0 ∧ f 6 = (bp g9) ∧ f 7 = (i64 c17) ∧ f 8 = (bp g18) ∧ f 10 = (u8 x74.1) ∧ f 11 = (i64 s60.2.2) ∧ f 12 = v12_138 ∧ f 129 = (bp D33) ∧ Ext w0 w ∧ KeepsFrom 0 w58 w ∧ OwK By w (vbbpg18_61 :: v12_138 :: (bp g9) :: (bp g6) :: (bp g18) :: L0) 22 vbbpg18_61 s60.1 ∧ Nw w0 vbbpg18_61 ∧ OwK (Sc u8) w (vbbpg18_61 :: v12_138 :: (bp g9) :: (bp g6) :: (bp g18) :: L0) 5 v12_138 x74.2 ∧ Nw w0 v12_138 ∧ Blk w g9 72 #[(bp g6)] ∧ Nw w0 (bp g9) ∧ Blk w g6 100 (cipc p0 (.slice none 0 0) r15.box r15.back) ∧ Nw w0 (bp g6) ∧ Blk w g18 28 #[vbbpg18_61] ∧ Nw w0 (bp g18) ∧ Nq vbbpg18_61 v12_138 ∧ Nq vbbpg18_61 (bp g9) ∧ Nq vbbpg18_61 (bp g6) ∧ Nq vbbpg18_61 (bp g18) ∧ Nq v12_138 (bp g9) ∧ Nq v12_138 (bp g6) ∧ Nq v12_138 (bp g18) ∧ Nq (bp g9) (bp g6) ∧ Nq (bp g9) (bp g18) ∧ Nq (bp g6) (bp g18)) ?_ ?_
        · refine W_block <| W_seq <| W_rg <| mv (i64 s60.2.2) rfl s11_61 <| mv (i64 c17) rfl s7_61 <| ?_; obtain ⟨c75, hc75, H74⟩ := bsi H74; refine wa rfl (q_remI rfl rfl rfl hc75) <| wa rfl (q_eqI rfl rfl rfl) <| av (.bool ((decide (c75 = 0)))) rfl rfl <| wnt <| ?_; refine W_cond _ rfl rfl (fun hb76 => ?_) (fun hb76 => ?_)
          · replace H74 := ifp hb76 H74; refine W_seq ?_; refine W_draw [0, 5, 8, 11, 14] [(0, 1), (1, 0), (2, 0), (3, 0), (4, 0), (5, 1), (6, 0), (7, 0), (8, 1), (9, 0), (10, 0), (11, 1), (12, 0), (13, 0), (14, 1), (15, 2), (16, 2), (17, 0)] mixed (by kernel_rfl) (by kernel_rfl) (by kernel_rfl) (by kernel_rfl) ?_; have x77 := Ext.drew w66; replace i65 := i65.lift (Lift.ext x77 _); replace o66 := o66.extL (Sc.stab _) x77 (Lift.ext x77 _); replace o0_61 := o0_61.extL (SlK.stab (Sc.stab _)) x77 (Lift.ext x77 _); replace o1_61 := o1_61.ext x77; replace o2_61 := o2_61.ext x77; replace o3_61 := o3_61.ext x77; have k78 := k71.ext x77; have e79 := e72.trans x77; refine sq rfl rfl (q_loadB (u := (bp g6)) rfl Try.isAgg72 (by exact s6_61) o1_61 rfl) <| sa rfl rfl (q_nilP rfl rfl) <| sa rfl rfl (q_fldC (g := g6) (d := 2) rfl fieldAtC2 rfl) <| sv v66 rfl rfl rfl <| ?_; obtain ⟨c80, hc80, H74⟩ := bsi H74; refine sa rfl rfl (q_adr rfl T22 rfl rfl (o66.rd (Sc.stab _)) hc80) <| sq rfl rfl (q_loadS rfl T22 rfl (o66.rd (Sc.stab _)) hc80) <| sv v66 rfl rfl rfl <| ?_; obtain ⟨c81, hc81, H74⟩ := bsi H74; refine sa rfl rfl (q_adr rfl T22 rfl rfl (o66.rd (Sc.stab _)) hc81) <| sq rfl rfl (q_loadS rfl T22 rfl (o66.rd (Sc.stab _)) hc81) <| sv v66 rfl rfl rfl <| ?_; obtain ⟨c82, hc82, H74⟩ := bsi H74; refine sa rfl rfl (q_adr rfl T22 rfl rfl (o66.rd (Sc.stab _)) hc82) <| sq rfl rfl (q_loadS rfl T22 rfl (o66.rd (Sc.stab _)) hc82) <| sv v66 rfl rfl rfl <| ?_; obtain ⟨c83, hc83, H74⟩ := bsi H74; refine sa rfl rfl (q_adr rfl T22 rfl rfl (o66.rd (Sc.stab _)) hc83) <| sq rfl rfl (q_loadS rfl T22 rfl (o66.rd (Sc.stab _)) hc83) <| ?_; refine wss rfl rfl rfl (stp_lit (L := (v66 :: vbbpg18_61 :: (bp g9) :: (bp g6) :: (bp g18) :: L0)) (R := (Sc u8)) [(u8 c80), (u8 c81), (u8 c82), (u8 c83)] ([c80, c81, c82, c83] : List UInt8) rfl T22 rfl (by exact ⟨rfl, rfl, rfl, rfl, rfl, rfl, rfl, rfl, trivial⟩) rfl (litC u8 (oneC_u8) (us := [(u8 c80), (u8 c81), (u8 c82), (u8 c83)]) (l := ([c80, c81, c82, c83] : List UInt8)) rfl) rfl (litS u8 (us := [(u8 c80), (u8 c81), (u8 c82), (u8 c83)]) (l := ([c80, c81, c82, c83] : List UInt8)) rfl) ?_); intro v84 w84 o84 n84 g84 l84; refine ⟨grown_ext g84, ?_⟩; have x84 := grown_ext g84; have i84 : By w84 (v66 :: vbbpg18_61 :: (bp g9) :: (bp g6) :: (bp g18) :: L0) v84 (([c80, c81, c82, c83] : List UInt8)) := OwK.slk (Sc.stab _) _ o84 (fun k hk => (Old.cons (Old.cons (Old.cons (Old.cons (Old.cons (hL0.ext e79) o3_61.ltB) o2_61.ltB) o1_61.ltB) o0_61.lt) o66.lt) k (n84 k hk)) (fun _ h => h.2); replace i65 := i65.lift (Lift.ext x84 _); replace o66 := o66.extL (Sc.stab _) x84 (Lift.ext x84 _); replace o0_61 := o0_61.extL (SlK.stab (Sc.stab _)) x84 (Lift.ext x84 _)
            replace o1_61 := o1_61.ext x84; replace o2_61 := o2_61.ext x84; replace o3_61 := o3_61.ext x84; have k85 := k78.ext x84; have e86 := e79.trans x84; obtain ⟨r87, hr87, H74⟩ := bsi H74; refine wsc rfl (by kernel_rfl) rfl rfl (stp_call (vs := [(bpo g6 2), v84]) Try.func70 rfl rfl rfl (ar2 rfl rfl) (cipher_through_calls r15.box ([c80, c81, c82, c83] : List UInt8) (bpo g6 2) v84 r87 _ (blk_box o2_61) (i84.lift (Lift.sub (L' := []) (fun _ _ => trivial))) hr87) ?_); rintro _ w87 ⟨v87, rfl, x87, n87_0, o87_0⟩; refine ⟨_, rfl, ?_⟩; have o87 : OwK (Sc u8) w87 (v87 :: (v66 :: vbbpg18_61 :: (bp g9) :: (bp g6) :: (bp g18) :: L0)) 5 v87 r87 := OwK.scal o87_0 _; have q88 : Nq v66 v87 := o66.nq n87_0; have q89 : Nq vbbpg18_61 v87 := o0_61.nq n87_0; have q90 : Nq (bp g9) v87 := o1_61.nq n87_0; have q91 : Nq (bp g6) v87 := o2_61.nq n87_0; have q92 : Nq (bp g18) v87 := o3_61.nq n87_0; replace i65 := i65.lift (Lift.call _ x87 n87_0); replace i84 := i84.lift (Lift.call _ x87 n87_0); replace o66 := o66.extL (Sc.stab _) x87 (Lift.call _ x87 n87_0); replace o0_61 := o0_61.extL (SlK.stab (Sc.stab _)) x87 (Lift.call _ x87 n87_0); replace o1_61 := o1_61.ext x87; replace o2_61 := o2_61.ext x87; replace o3_61 := o3_61.ext x87; have k93 := k85.ext x87; have n95 := Nw.ext e86 n87_0; have e94 := e86.trans x87; refine sa rfl rfl (q_assign (v := v87) rfl rfl) ?_; refine ws_nil ?_; refine W_th <| W_seq <| W_rg <| mv v87 rfl rfl <| ?_; obtain ⟨c96, hc96, H74⟩ := bsi H74; refine wa rfl (q_adr rfl T22 rfl rfl (o87.rd (Sc.stab _)) hc96) <| wq rfl (q_loadS rfl T22 rfl (o87.rd (Sc.stab _)) hc96) <| mv (u8 s60.2.1) rfl s10_61 <| wa rfl (q_xor8 rfl rfl rfl) <| wa rfl (q_adr rfl T22 rfl rfl (o87.rd (Sc.stab _)) hc96) <| ?_; refine wln rfl rfl (stp_store (R := (Sc u8)) (u := (u8 ((c96 ^^^ s60.2.1)))) (Sc.stab _) [] (v66 :: vbbpg18_61 :: (bp g9) :: (bp g6) :: (bp g18) :: L0) rfl T22 rfl rfl o87 (put_of ((c96 ^^^ s60.2.1)) hc96) rfl rfl ?_); intro w97 o97 g97 l97; have k98 := k93.own g97 o87.cl; replace i65 := i65.lift l97; replace i84 := i84.lift l97; replace o66 := o66.other (Sc.stab _) g97 q88 l97; replace o0_61 := o0_61.other (SlK.stab (Sc.stab _)) g97 q89 l97; replace o1_61 := o1_61.other g97 q90; replace o2_61 := o2_61.other g97 q91; replace o3_61 := o3_61.other g97 q92; have e99 := e94.grown g97 n95; refine wnt <| W_rg <| mv p0 rfl s0_61 <| mv (u8 s60.2.1) rfl s10_61 <| ?_; obtain ⟨r100, hr100, H74⟩ := bsi H74; refine wls rfl rfl (stp_call (vs := [p0, (u8 s60.2.1), (u8 2)]) Try.func68 rfl rfl rfl (ar3 rfl rfl (by exact (cst8 (2 : UInt8) rfl))) (field_Mul_calls a0f s60.2.1 (2 : UInt8) p0 r100 _ ((hp0.lift (Lift.sub (L' := []) (fun _ _ => trivial))).lift (Lift.ext e99 _)) hr100) ?_)
            rintro _ w100 ⟨rfl, x100⟩; refine ⟨_, rfl, ?_⟩; replace i65 := i65.lift (Lift.ext x100 _); replace i84 := i84.lift (Lift.ext x100 _); replace o97 := o97.extL (Sc.stab _) x100 (Lift.ext x100 _); replace o66 := o66.extL (Sc.stab _) x100 (Lift.ext x100 _); replace o0_61 := o0_61.extL (SlK.stab (Sc.stab _)) x100 (Lift.ext x100 _); replace o1_61 := o1_61.ext x100; replace o2_61 := o2_61.ext x100; replace o3_61 := o3_61.ext x100; have k101 := k98.ext x100; have e102 := e99.trans x100; refine av (u8 r100) rfl rfl <| wl_nil <| bk_n <| ?_; obtain rfl := osi H74; exact ⟨v87, s0_61, s6_61, s7_61, s8_61, rfl, s11_61, rfl, s129_61, e102, k101, (o0_61.weak (SlK.stab (Sc.stab _)) (fun _ h => ⟨h.2.2.1, h.1, h.2.2.2.1, h.2.2.2.2.1, h.2.2.2.2.2.1, h.2.2.2.2.2.2⟩)), n0_61, (o97.weak (Sc.stab _) (fun _ h => ⟨h.2.2.1, h.1, h.2.2.2.1, h.2.2.2.2.1, h.2.2.2.2.2.1, h.2.2.2.2.2.2⟩)), n95, o1_61, n1_61, o2_61, n2_61, o3_61, n3_61, q89, q0_1_61, q0_2_61, q0_3_61, q90.symm, q91.symm, q92.symm, q1_2_61, q1_3_61, q2_3_61⟩
          replace H74 := ifn hb76 H74; refine W_seq <| W_rg <| mv (i64 c17) rfl s7_61 <| wa rfl (q_eqI rfl rfl rfl) <| ?_; refine wlb rfl rfl (q_move (v := (.bool ((decide (c17 = 8))))) rfl rfl) (fun hb103 => ?_) (fun hb103 => ?_)
          · replace H74 := ifp hb103 H74; refine mv (i64 s60.2.2) rfl s11_61 <| mv (i64 c17) rfl s7_61 <| ?_; obtain ⟨c104, hc104, H74⟩ := bsi H74; refine wa rfl (q_remI rfl rfl rfl hc104) <| wa rfl (q_eqI rfl rfl rfl) <| wa rfl (q_pick_t (v := (.bool ((decide (c104 = 4))))) rfl rfl rfl) <| av (.bool ((decide (c104 = 4)))) rfl rfl <| wnt <| ?_; refine W_cond _ rfl rfl (fun hb105 => ?_) (fun hb105 => ?_)
            · replace H74 := ifp hb105 H74; refine W_rg <| wq rfl (q_loadB (u := (bp g6)) rfl Try.isAgg72 (by exact s6_61) o1_61 rfl) <| wa rfl (q_nilP rfl rfl) <| wa rfl (q_fldC (g := g6) (d := 2) rfl fieldAtC2 rfl) <| mv v66 rfl rfl <| ?_; obtain ⟨r106, hr106, H74⟩ := bsi H74; refine wls rfl rfl (stp_call (vs := [(bpo g6 2), v66]) Try.func70 rfl rfl rfl (ar2 rfl rfl) (cipher_through_calls r15.box r66 (bpo g6 2) v66 r106 _ (blk_box o2_61) (o66.rd (Sc.stab _)) hr106) ?_); rintro _ w106 ⟨v106, rfl, x106, n106_0, o106_0⟩; refine ⟨_, rfl, ?_⟩; have o106 : OwK (Sc u8) w106 (v106 :: (v66 :: vbbpg18_61 :: (bp g9) :: (bp g6) :: (bp g18) :: L0)) 5 v106 r106 := OwK.scal o106_0 _; have q107 : Nq v66 v106 := o66.nq n106_0; have q108 : Nq vbbpg18_61 v106 := o0_61.nq n106_0; have q109 : Nq (bp g9) v106 := o1_61.nq n106_0; have q110 : Nq (bp g6) v106 := o2_61.nq n106_0; have q111 : Nq (bp g18) v106 := o3_61.nq n106_0; replace i65 := i65.lift (Lift.call _ x106 n106_0); replace o66 := o66.extL (Sc.stab _) x106 (Lift.call _ x106 n106_0); replace o0_61 := o0_61.extL (SlK.stab (Sc.stab _)) x106 (Lift.call _ x106 n106_0); replace o1_61 := o1_61.ext x106; replace o2_61 := o2_61.ext x106; replace o3_61 := o3_61.ext x106; have k112 := k71.ext x106; have n114 := Nw.ext e72 n106_0; have e113 := e72.trans x106; refine av v106 rfl rfl <| wl_nil <| bk_n <| ?_; obtain rfl := osi H74; exact ⟨v106, s0_61, s6_61, s7_61, s8_61, s10_61, s11_61, rfl, s129_61, e113, k112, (o0_61.weak (SlK.stab (Sc.stab _)) (fun _ h => ⟨h.2.2.1, h.1, h.2.2.2.1, h.2.2.2.2.1, h.2.2.2.2.2.1, h.2.2.2.2.2.2⟩)), n0_61, (o106.weak (Sc.stab _) (fun _ h => ⟨h.2.2.1, h.1, h.2.2.2.1, h.2.2.2.2.1, h.2.2.2.2.2.1, h.2.2.2.2.2.2⟩)), n114, o1_61, n1_61, o2_61, n2_61, o3_61, n3_61, q108, q0_1_61, q0_2_61, q0_3_61, q109.symm, q110.symm, q111.symm, q1_2_61, q1_3_61, q2_3_61⟩
            replace H74 := ifn hb105 H74; refine W_skip <| bk_n <| ?_; obtain rfl := osi H74; exact ⟨v66, s0_61, s6_61, s7_61, s8_61, s10_61, s11_61, rfl, s129_61, e72, k71, (o0_61.weak (SlK.stab (Sc.stab _)) (fun _ h => ⟨h.2.1, h.1, h.2.2.1, h.2.2.2.1, h.2.2.2.2.1, h.2.2.2.2.2⟩)), n0_61, (o66.weak (Sc.stab _) (fun _ h => ⟨h.2.1, h.1, h.2.2.1, h.2.2.2.1, h.2.2.2.2.1, h.2.2.2.2.2⟩)), n73, o1_61, n1_61, o2_61, n2_61, o3_61, n3_61, q67, q0_1_61, q0_2_61, q0_3_61, q68.symm, q69.symm, q70.symm, q1_2_61, q1_3_61, q2_3_61⟩
          replace H74 := ifn hb103 H74; refine wlk rfl rfl <| wlk rfl rfl <| wlk rfl rfl <| wlk rfl rfl <| wa rfl (q_pick_f (v := (.bool false)) rfl rfl rfl) <| av (.bool false) rfl rfl <| wnt <| ?_; refine W_cond false rfl rfl (fun hb => by cases hb) (fun _ => ?_); refine W_skip <| bk_n <| ?_; obtain rfl := osi H74; exact ⟨v66, s0_61, s6_61, s7_61, s8_61, s10_61, s11_61, rfl, s129_61, e72, k71, (o0_61.weak (SlK.stab (Sc.stab _)) (fun _ h => ⟨h.2.1, h.1, h.2.2.1, h.2.2.2.1, h.2.2.2.2.1, h.2.2.2.2.2⟩)), n0_61, (o66.weak (Sc.stab _) (fun _ h => ⟨h.2.1, h.1, h.2.2.1, h.2.2.2.1, h.2.2.2.2.1, h.2.2.2.2.2⟩)), n73, o1_61, n1_61, o2_61, n2_61, o3_61, n3_61, q67, q0_1_61, q0_2_61, q0_3_61, q68.symm, q69.symm, q70.symm, q1_2_61, q1_3_61, q2_3_61⟩
        rintro _ w115 ⟨v12_115, s0_115, s6_115, s7_115, s8_115, s10_115, s11_115, s12_115, s129_115, hE115, k0_115, o0_115, n0_115, o1_115, n1_115, o2_115, n2_115, o3_115, n3_115, o4_115, n4_115, q0_1_115, q0_2_115, q0_3_115, q0_4_115, q1_2_115, q1_3_115, q1_4_115, q2_3_115, q2_4_115, q3_4_115⟩; refine W_th ?_; refine W_draw [0, 2, 7] [(0, 1), (1, 0), (2, 1), (3, 0), (4, 0), (5, 0), (6, 0), (7, 1), (8, 2), (9, 2), (10, 2), (11, 2)] mixed (by kernel_rfl) (by kernel_rfl) (by kernel_rfl) (by kernel_rfl) ?_; have x116 := Ext.drew w115; replace o0_115 := o0_115.extL (SlK.stab (Sc.stab _)) x116 (Lift.ext x116 _); replace o1_115 := o1_115.extL (Sc.stab _) x116 (Lift.ext x116 _); replace o2_115 := o2_115.ext x116; replace o3_115 := o3_115.ext x116; replace o4_115 := o4_115.ext x116; have k117 := k0_115.ext x116; have e118 := hE115.trans x116; refine sq rfl rfl (q_loadB (u := vbbpg18_61) rfl Try.isAgg28 (by exact s8_115) o4_115 rfl) <| sv v12_115 rfl rfl s12_115 <| sq rfl rfl (q_loadB (u := vbbpg18_61) rfl Try.isAgg28 (by exact s8_115) o4_115 rfl) <| sv (i64 s60.2.2) rfl rfl s11_115 <| sv (i64 c17) rfl rfl s7_115 <| sa rfl rfl (q_subI rfl rfl rfl) <| ?_; obtain ⟨c119, hc119, H60⟩ := bsi H60; refine sa rfl rfl (q_adr rfl T28 rfl rfl (o0_115.rd (SlK.stab (Sc.stab _))) hc119) ?_; refine wsq_loadO (SlK.stab (Sc.stab _)) rfl rfl rfl rfl T28 rfl o0_115 hc119 (fun v120 i120 => ?_); replace i120 : By (World.drew w115) (vbbpg18_61 :: v12_115 :: (bp g9) :: (bp g6) :: (bp g18) :: L0) v120 c119 := i120; obtain ⟨r121, hr121, H60⟩ := bsi H60; refine wss rfl rfl rfl (stp_call (vs := [v12_115, v120]) Try.func32 rfl rfl rfl (ar2 rfl rfl) (word_Xor_calls x74.2 c119 v12_115 v120 r121 _ (o1_115.rd (Sc.stab _)) (i120.lift (Lift.sub (L' := []) (fun _ _ => trivial))) hr121) ?_); rintro _ w121 ⟨v121, rfl, x121, n121_0, o121_0⟩; refine ⟨_, rfl, x121, ?_⟩; have i121_0 : By w121 (vbbpg18_61 :: v12_115 :: (bp g9) :: (bp g6) :: (bp g18) :: L0) v121 r121 := OwK.slk (Sc.stab _) _ (OwK.scal o121_0 (v121 :: (vbbpg18_61 :: v12_115 :: (bp g9) :: (bp g6) :: (bp g18) :: L0))) (fun k hk => (Old.cons (Old.cons (Old.cons (Old.cons (Old.cons (hL0.ext e118) o4_115.ltB) o3_115.ltB) o2_115.ltB) o1_115.lt) o0_115.lt) k (n121_0 k hk)) (fun _ h => h.2); replace i120 := i120.lift (Lift.ext x121 _); replace o0_115 := o0_115.extL (SlK.stab (Sc.stab _)) x121 (Lift.ext x121 _); replace o1_115 := o1_115.extL (Sc.stab _) x121 (Lift.ext x121 _); replace o2_115 := o2_115.ext x121; replace o3_115 := o3_115.ext x121; replace o4_115 := o4_115.ext x121; have k122 := k117.ext x121; have e123 := e118.trans x121; refine wss rfl rfl rfl (stp_lit (L := (vbbpg18_61 :: v12_115 :: (bp g9) :: (bp g6) :: (bp g18) :: L0)) (R := By) [v121] ([r121] : List (List UInt8)) rfl T28 rfl (by exact ⟨rfl, rfl, trivial⟩) rfl (LitR.cells (R := By) (w := w121) (L := (vbbpg18_61 :: v12_115 :: (bp g9) :: (bp g6) :: (bp g18) :: L0)) (l := ([r121] : List (List UInt8))) (LitR.cons i121_0 LitR.nil) (fun u x h => cells_sl u x h)) rfl (LitR.all (R := By) (w := w121) (L := (vbbpg18_61 :: v12_115 :: (bp g9) :: (bp g6) :: (bp g18) :: L0)) (l := ([r121] : List (List UInt8))) (SlK.stab (Sc.stab _)) (LitR.cons i121_0 LitR.nil)) ?_)
        intro v124 w124 o124 n124 g124 l124; refine ⟨grown_ext g124, ?_⟩; have x124 := grown_ext g124; have i124 : Rw w124 (vbbpg18_61 :: v12_115 :: (bp g9) :: (bp g6) :: (bp g18) :: L0) v124 (([r121] : List (List UInt8))) := OwK.slk (SlK.stab (Sc.stab _)) _ o124 (fun k hk => (Old.cons (Old.cons (Old.cons (Old.cons (Old.cons (hL0.ext e123) o4_115.ltB) o3_115.ltB) o2_115.ltB) o1_115.lt) o0_115.lt) k (n124 k hk)) (fun _ h => h.2); replace i120 := i120.lift (Lift.ext x124 _); replace i121_0 := i121_0.lift (Lift.ext x124 _); replace o0_115 := o0_115.extL (SlK.stab (Sc.stab _)) x124 (Lift.ext x124 _); replace o1_115 := o1_115.extL (Sc.stab _) x124 (Lift.ext x124 _); replace o2_115 := o2_115.ext x124; replace o3_115 := o3_115.ext x124; replace o4_115 := o4_115.ext x124; have k125 := k122.ext x124; have e126 := e123.trans x124; obtain ⟨c127, hc127, H60⟩ := bsi H60; refine wsc rfl (by kernel_rfl) rfl rfl (stp_append (R := By) (v := vbbpg18_61) (u := v124) (SlK.stab (Sc.stab _)) [] (v12_115 :: (bp g9) :: (bp g6) :: (bp g18) :: L0) rfl T28 rfl rfl o0_115 i124 (fun _ _ h => h) hc127 oc_sl ?_); intro v127 w127 o127 g127 nx127 l127; have k128 := k125.own g127 o0_115.cl; replace i120 := i120.lift l127; replace i121_0 := i121_0.lift l127; replace i124 := i124.lift l127; have q129 : Nq v12_115 v127 := o1_115.nxt q0_1_115.symm nx127; have q130 : Nq (bp g9) v127 := o2_115.nxt q0_2_115.symm nx127; have q131 : Nq (bp g6) v127 := o3_115.nxt q0_3_115.symm nx127; have q132 : Nq (bp g18) v127 := o4_115.nxt q0_4_115.symm nx127; replace o1_115 := o1_115.other (Sc.stab _) g127 q0_1_115.symm l127; replace o2_115 := o2_115.other g127 q0_2_115.symm; replace o3_115 := o3_115.other g127 q0_3_115.symm; replace o4_115 := o4_115.other g127 q0_4_115.symm; have e133 := e126.grown g127 n0_115; have n134 := Nw.nxt e126 n0_115 nx127; refine wsn rfl (by kernel_rfl) rfl rfl (stp_storeL (u := v127) [v127, v12_115, (bp g9), (bp g6)] (L0) rfl Try.sizeOf28 (by exact s8_115) rfl o4_115 (oc_own o127) ?_); intro w135 o135 g135 l135; have k136 := k128.own g135 o4_115.cl; replace i120 := i120.lift l135; replace i121_0 := i121_0.lift l135; replace i124 := i124.lift l135; replace o127 := o127.other (SlK.stab (Sc.stab _)) g135 q132.symm l135; replace o1_115 := o1_115.other (Sc.stab _) g135 q1_4_115 l135; replace o2_115 := o2_115.other g135 q2_4_115; replace o3_115 := o3_115.other g135 q3_4_115; have e137 := e133.grown g135 n4_115; refine ws_nil ?_; refine bk_n <| W_th <| W_rg <| mv (i64 s60.2.2) rfl s11_115 <| wa rfl (q_addI rfl rfl rfl) <| av (i64 ((wI (s60.2.2 + 1)))) rfl rfl <| wl_nil <| ?_; obtain rfl := osi H60; exact ⟨_, rfl, v127, s0_115, s6_115, s7_115, s8_115, s10_115, rfl, s129_115, e137, k136, (o127.weak (SlK.stab (Sc.stab _)) (fun _ h => ⟨h.1, h.2.2.1, h.2.2.2.1, h.2.2.2.2.1, h.2.2.2.2.2⟩)), n134, o2_115, n2_115, o3_115, n3_115, o135, n4_115, q130.symm, q131.symm, q132.symm, q2_3_115, q2_4_115, q3_4_115⟩
      replace H60 := ifn hb62 H60; refine W_exit <| th_x <| ?_; obtain rfl := osi H60; obtain rfl := hr60 _ rfl; refine th_x <| bk_x <| ?_; exact ⟨vbbpg18_61, s6_61, s8_61, s129_61, hE61, k0_61, o0_61, n0_61, o1_61, n1_61, o2_61, n2_61, o3_61, n3_61, q0_1_61, q0_2_61, q0_3_61, q1_2_61, q1_3_61, q2_3_61⟩
    rintro _ w140 ⟨vbbpg18_140, s6_140, s8_140, s129_140, hE140, k0_140, o0_140, n0_140, o1_140, n1_140, o2_140, n2_140, o3_140, n3_140, q0_1_140, q0_2_140, q0_3_140, q1_2_140, q1_3_140, q2_3_140⟩; obtain rfl := osi H59; exact ⟨vbbpg18_140, s6_140, s8_140, s129_140, hE140, k0_140, o0_140, n0_140, o1_140, n1_140, o2_140, n2_140, o3_140, n3_140, q0_1_140, q0_2_140, q0_3_140, q1_2_140, q1_3_140, q2_3_140⟩
  rintro _ w142 ⟨vbbpg18_142, s6_142, s8_142, s129_142, hE142, k0_142, o0_142, n0_142, o1_142, n1_142, o2_142, n2_142, o3_142, n3_142, q0_1_142, q0_2_142, q0_3_142, q1_2_142, q1_3_142, q2_3_142⟩; refine W_th <| W_seq <| W_seq <| W_rg <| wq rfl (q_loadB (u := vbbpg18_142) rfl Try.isAgg28 (by exact s8_142) o3_142 rfl) <| ?_; refine wls rfl rfl (stp_call (vs := [vbbpg18_142, i64 4]) Try.func71 rfl rfl rfl (ar2 rfl rfl) (Chunk_rows_calls vbbpg18_142 (cells_own o0_142) 4 (by decide) _) ?_); rintro _ w143 ⟨g143a, g143b, rfl, nA143, nB143, qAB143, hA143, hB143, x143⟩; refine ⟨_, rfl, ?_⟩; have q144 : Nq vbbpg18_142 (bp g143a) := o0_142.nq nA143; have q145 : Nq vbbpg18_142 (bp g143b) := o0_142.nq nB143; have q146 : Nq (bp g9) (bp g143a) := o1_142.nq nA143; have q147 : Nq (bp g9) (bp g143b) := o1_142.nq nB143; have q148 : Nq (bp g6) (bp g143a) := o2_142.nq nA143; have q149 : Nq (bp g6) (bp g143b) := o2_142.nq nB143; have q150 : Nq (bp g18) (bp g143a) := o3_142.nq nA143; have q151 : Nq (bp g18) (bp g143b) := o3_142.nq nB143; replace o0_142 := o0_142.extL (SlK.stab (Sc.stab _)) x143 (Lift.call2 _ x143 nA143 nB143); replace o1_142 := o1_142.ext x143; replace o2_142 := o2_142.ext x143; replace o3_142 := o3_142.ext x143; have k152 := k0_142.ext x143; have n153 := Nw.ext hE142 nA143; have n154 := Nw.ext hE142 nB143; have e155 := hE142.trans x143; refine wnt <| W_block <| ?_; have hM156 := k152.same D33 _ (Nat.zero_le _) hK33 rfl; obtain ⟨lim156, hl156, H⟩ := bsi H; obtain ⟨x156, G156, H⟩ := bsi H; refine W_rangeDG (π := fun x : ChEl x59 4 => x.1) (xs := chunksI x59 4) (ea := fun x => subW vbbpg18_142 x.1.1.toNat (x.1.1 + (x.1.2.length : Int)).toNat (x.1.1 + (x.1.2.length : Int)).toNat) (Rd := RdC_rows x59 4 g143a g143b vbbpg18_142) (gf := 86) (lb := #[(bp g143a), (bp g143b)]) G156 (mark_two (D' := D33) s129_142) rfl rfl (enters Try.func86 rfl rfl) rfl (chunk_rows x59 4 (by decide) vbbpg18_142 g143a g143b _ ⟨hA143, hB143, (o0_142.rd (SlK.stab (Sc.stab _)))⟩ (lim_lt hl156)) (fun ys h => h) (fun x => x.2.2) (fun _ _ t h => RdC_rows.tn t h) rfl (fun s156 w => ∃ vbbpg6_191 : Value, Ext w0 w ∧ OwK By w (vbbpg18_142 :: vbbpg6_191 :: (bp g9) :: (bp g6) :: (bp g143a) :: (bp g143b) :: L0) 22 vbbpg18_142 x59 ∧ Nw w0 vbbpg18_142 ∧ OwS w 106 vbbpg6_191 s156 ∧ Nw w0 vbbpg6_191 ∧ Blk w g9 72 #[(bp g6)] ∧ Nw w0 (bp g9) ∧ Blk w g6 100 (cipc p0 vbbpg6_191 r15.box r15.back) ∧ Nw w0 (bp g6) ∧ Blk w g143a 28 #[vbbpg18_142] ∧ Nw w0 (bp g143a) ∧ Blk w g143b 3 #[(i64 4)] ∧ Nw w0 (bp g143b) ∧ Nq vbbpg18_142 vbbpg6_191 ∧ Nq vbbpg18_142 (bp g9) ∧ Nq vbbpg18_142 (bp g6) ∧ Nq vbbpg18_142 (bp g143a) ∧ Nq vbbpg18_142 (bp g143b) ∧ Nq vbbpg6_191 (bp g9) ∧ Nq vbbpg6_191 (bp g6) ∧ Nq vbbpg6_191 (bp g143a) ∧ Nq vbbpg6_191 (bp g143b) ∧ Nq (bp g9) (bp g6) ∧ Nq (bp g9) (bp g143a) ∧ Nq (bp g9) (bp g143b) ∧ Nq (bp g6) (bp g143a) ∧ Nq (bp g6) (bp g143b) ∧ Nq (bp g143a) (bp g143b) ∧ w.heap[D33]? = some (.deferred (some []))) ?_ ?_ ⟨(.slice none 0 0), e155, (o0_142.weak (SlK.stab (Sc.stab _)) (fun _ h => ⟨h.2.2.1, nh_nil, h.2.2.2.1, h.2.2.2.2.1, h.1, h.2.1, h.2.2.2.2.2.2⟩)), n0_142, (OwS.nil _ _), (Nw.nil _), o1_142, n1_142, o2_142, n2_142, hA143, n153, hB143, n154, (Nq.nil _).symm, q0_1_142, q0_2_142, q144, q145, (Nq.nil _), (Nq.nil _), (Nq.nil _), (Nq.nil _), q1_2_142, q146, q147, q148, q149, qAB143, hM156⟩ (fun x f => upd (f) 13 (subW vbbpg18_142 x.1.1.toNat (x.1.1 + (x.1.2.length : Int)).toNat (x.1.1 + (x.1.2.length : Int)).toNat)) ?_ ?_ ?_
  · rintro s156 W W' t ⟨vbbpg6_157, hE157, o0_157, n0_157, o1_157, n1_157, o2_157, n2_157, o3_157, n3_157, o4_157, n4_157, o5_157, n5_157, q0_1_157, q0_2_157, q0_3_157, q0_4_157, q0_5_157, q1_2_157, q1_3_157, q1_4_157, q1_5_157, q2_3_157, q2_4_157, q2_5_157, q3_4_157, q3_5_157, q4_5_157, xt0_157⟩; exact ⟨vbbpg6_157, (hE157.tn t e155.size), (o0_157.tn (SlK.stab (Sc.stab _)) t), n0_157, (o1_157.tn t), n1_157, (o2_157.tn t), n2_157, (o3_157.tn t), n3_157, (o4_157.tn t), n4_157, (o5_157.tn t), n5_157, q0_1_157, q0_2_157, q0_3_157, q0_4_157, q0_5_157, q1_2_157, q1_3_157, q1_4_157, q1_5_157, q2_3_157, q2_4_157, q2_5_157, q3_4_157, q3_5_157, q4_5_157, (Tn.low t xt0_157 (lt_of_get hM156))⟩
  · rintro s156 W ⟨vbbpg6_158, hE158, o0_158, n0_158, o1_158, n1_158, o2_158, n2_158, o3_158, n3_158, o4_158, n4_158, o5_158, n5_158, q0_1_158, q0_2_158, q0_3_158, q0_4_158, q0_5_158, q1_2_158, q1_3_158, q1_4_158, q1_5_158, q2_3_158, q2_4_158, q2_5_158, q3_4_158, q3_5_158, q4_5_158, xt0_158⟩; have t := Ext.drew W; exact ⟨vbbpg6_158, (hE158.trans t), (o0_158.extL (SlK.stab (Sc.stab _)) t (Lift.ext t _)), n0_158, (o1_158.ext t), n1_158, (o2_158.ext t), n2_158, (o3_158.ext t), n3_158, (o4_158.ext t), n4_158, (o5_158.ext t), n5_158, q0_1_158, q0_2_158, q0_3_158, q0_4_158, q0_5_158, q1_2_158, q1_3_158, q1_4_158, q1_5_158, q2_3_158, q2_4_158, q2_5_158, q3_4_158, q3_5_158, q4_5_158, ((Ext.blk t _ (lt_of_get xt0_158)).trans xt0_158)⟩
  · intro l x W1 K hK; refine W_rg <| av (subW vbbpg18_142 x.1.1.toNat (x.1.1 + (x.1.2.length : Int)).toNat (x.1.1 + (x.1.2.length : Int)).toNat) rfl rfl <| wl_nil <| ?_; exact hK
  · rintro l ⟨y156, hy156⟩ s156 sp156 w159 ⟨vbbpg6_159, hE159, o0_159, n0_159, o1_159, n1_159, o2_159, n2_159, o3_159, n3_159, o4_159, n4_159, o5_159, n5_159, q0_1_159, q0_2_159, q0_3_159, q0_4_159, q0_5_159, q1_2_159, q1_3_159, q1_4_159, q1_5_159, q2_3_159, q2_4_159, q2_5_159, q3_4_159, q3_5_159, q4_5_159, xt0_159⟩ H156; have kf156 := KeepsFrom.refl w143.heap.size w159; have kz156 := KeepsFrom.refl 0 w159; refine W_block ?_; refine W_drawT [1, 4, 8] [(1, 1), (2, 0), (3, 0), (4, 1), (5, 0)] (.br 0 [(6, 2), (7, 0), (8, 1), (9, 2), (10, 2), (11, 0), (12, 0), (13, 2)] .fin (.br 6 [(7, 0), (8, 1)] (.br 0 [(9, 2), (10, 2), (11, 0), (12, 0), (13, 2)] .fin (.br 9 [] (.br 0 [(10, 2), (11, 0), (12, 0), (13, 2)] .fin (.br 10 [(0, 2), (11, 0), (12, 0), (13, 2)] .fin .fin)) .fin)) .fin)) mixed (by kernel_rfl) (by kernel_rfl) (by kernel_rfl) (by kernel_rfl) ?_; have x160 := Ext.drew w159; replace o0_159 := o0_159.extL (SlK.stab (Sc.stab _)) x160 (Lift.ext x160 _); replace o1_159 := o1_159.ext x160; replace o2_159 := o2_159.ext x160; replace o3_159 := o3_159.ext x160; replace o4_159 := o4_159.ext x160; replace o5_159 := o5_159.ext x160; have k161 := kf156.ext x160; have k162 := kz156.ext x160; have e163 := hE159.trans x160; refine sq rfl rfl (q_loadB (u := (bp g6)) rfl Try.isAgg72 (by exact s6_142) o2_159 rfl) <| sa rfl rfl (q_nilP rfl rfl) <| sa rfl rfl (q_fldC (g := g6) (d := 1) rfl fieldAtC1 rfl) <| sq rfl rfl (q_loadB (u := vbbpg6_159) rfl Try.isAgg97 rfl o3_159 rfl) <| sv (subW vbbpg18_142 y156.1.toNat (y156.1 + (y156.2.length : Int)).toNat (y156.1 + (y156.2.length : Int)).toNat) rfl rfl rfl <| ?_; refine ws_nil ?_; refine wr_br ?_ ?_
    · refine wss rfl rfl rfl (Qt.stp (q_loadB (u := (bp g6)) rfl Try.isAgg72 (by exact s6_142) o2_159 rfl) ⟨Ext.refl _, ?_⟩); obtain ⟨r164, hr164, H156⟩ := bsi H156; refine wss rfl rfl rfl (stp_call (vs := [(subW vbbpg18_142 y156.1.toNat (y156.1 + (y156.2.length : Int)).toNat (y156.1 + (y156.2.length : Int)).toNat)]) Try.func19 rfl rfl rfl (ar1 rfl) (slices_Concat_sbytebyte_calls y156.2 (subW vbbpg18_142 y156.1.toNat (y156.1 + (y156.2.length : Int)).toNat (y156.1 + (y156.2.length : Int)).toNat) r164 _ (SlK.cut3 (L := []) (o0_159.rd (SlK.stab (Sc.stab _))) hy156.1) hr164) ?_); rintro _ w164 ⟨v164, rfl, x164, n164_0, o164_0⟩; refine ⟨_, rfl, x164, ?_⟩; have i164_0 : By w164 (vbbpg18_142 :: vbbpg6_159 :: (bp g9) :: (bp g6) :: (bp g143a) :: (bp g143b) :: L0) v164 r164 := OwK.slk (Sc.stab _) _ (OwK.scal o164_0 (v164 :: (vbbpg18_142 :: vbbpg6_159 :: (bp g9) :: (bp g6) :: (bp g143a) :: (bp g143b) :: L0))) (fun k hk => (Old.cons (Old.cons (Old.cons (Old.cons (Old.cons (Old.cons (hL0.ext e163) o5_159.ltB) o4_159.ltB) o3_159.ltB) o2_159.ltB) o1_159.ltB) o0_159.lt) k (n164_0 k hk)) (fun _ h => h.2); replace o0_159 := o0_159.extL (SlK.stab (Sc.stab _)) x164 (Lift.ext x164 _); replace o1_159 := o1_159.ext x164; replace o2_159 := o2_159.ext x164; replace o3_159 := o3_159.ext x164; replace o4_159 := o4_159.ext x164; replace o5_159 := o5_159.ext x164; have k165 := k161.ext x164; have k166 := k162.ext x164; have e167 := e163.trans x164; obtain ⟨c168, hc168, H156⟩ := bsi H156; refine sa rfl rfl (q_arrAt rfl A106 rfl i164_0 (Nat.le_of_eq (lenA_eq hc168).symm)) <| sq rfl rfl (q_loadSp rfl A106 rfl i164_0 (lenA_eq hc168) (by decide)) <| ?_; refine wss rfl rfl rfl (stp_litK (L := (vbbpg18_142 :: vbbpg6_159 :: (bp g9) :: (bp g6) :: (bp g143a) :: (bp g143b) :: L0)) (a := r164) rfl K97 rfl (lenA_eq hc168) ?_); intro v169 w169 o169 n169 g169 l169; refine ⟨grown_ext g169, ?_⟩; have x169 := grown_ext g169; have i169 : Ka w169 (vbbpg18_142 :: vbbpg6_159 :: (bp g9) :: (bp g6) :: (bp g143a) :: (bp g143b) :: L0) v169 [r164] := OwS.ka (vbbpg18_142 :: vbbpg6_159 :: (bp g9) :: (bp g6) :: (bp g143a) :: (bp g143b) :: L0) o169 (fun k hk => (Old.cons (Old.cons (Old.cons (Old.cons (Old.cons (Old.cons (hL0.ext e167) o5_159.ltB) o4_159.ltB) o3_159.ltB) o2_159.ltB) o1_159.ltB) o0_159.lt) k (n169 k hk)); replace i164_0 := i164_0.lift (Lift.ext x169 _); replace o0_159 := o0_159.extL (SlK.stab (Sc.stab _)) x169 (Lift.ext x169 _); replace o1_159 := o1_159.ext x169; replace o2_159 := o2_159.ext x169; replace o3_159 := o3_159.ext x169; replace o4_159 := o4_159.ext x169; replace o5_159 := o5_159.ext x169; have k170 := k165.ext x169; have k171 := k166.ext x169; have e172 := e167.trans x169; obtain ⟨c173, hc173, H156⟩ := bsi H156; refine wsc rfl (by kernel_rfl) rfl rfl (stp_appendK (v := vbbpg6_159) (u := v169) [vbbpg18_142] ((bp g9) :: (bp g6) :: (bp g143a) :: (bp g143b) :: L0) rfl K97 rfl rfl o1_159 i169 (List.cons_ne_nil _ _) hc173 ?_)
      intro v173 w173 o173 g173 nx173 l173; have k174 := k170.own g173 o1_159.cl; have k175 := k171.own g173 o1_159.cl; replace i164_0 := i164_0.lift l173; replace i169 := i169.lift l173; have q176 : Nq vbbpg18_142 v173 := o0_159.nxt q0_1_159 nx173; have q177 : Nq (bp g9) v173 := o2_159.nxt q1_2_159.symm nx173; have q178 : Nq (bp g6) v173 := o3_159.nxt q1_3_159.symm nx173; have q179 : Nq (bp g143a) v173 := o4_159.nxt q1_4_159.symm nx173; have q180 : Nq (bp g143b) v173 := o5_159.nxt q1_5_159.symm nx173; replace o0_159 := o0_159.other (SlK.stab (Sc.stab _)) g173 q0_1_159 l173; replace o2_159 := o2_159.other g173 q1_2_159.symm; replace o3_159 := o3_159.other g173 q1_3_159.symm; replace o4_159 := o4_159.other g173 q1_4_159.symm; replace o5_159 := o5_159.other g173 q1_5_159.symm; have e181 := e172.grown g173 n1_159; have n182 := Nw.nxt e172 n1_159 nx173; refine sa rfl rfl (q_nilP rfl rfl) <| sa rfl rfl (q_fldC (g := g6) (d := 1) rfl fieldAtC1 rfl) <| ?_; refine wsn rfl (by kernel_rfl) rfl rfl (stp_storeCs (ks' := v173) [vbbpg18_142, v173, (bp g9)] ((bp g143a) :: (bp g143b) :: L0) rfl rfl rfl o3_159 (OwS.oc o173) ?_); intro w183 o183 g183 l183; have k184 := k174.own g183 o3_159.cl; have k185 := k175.own g183 o3_159.cl; replace i164_0 := i164_0.lift l183; replace i169 := i169.lift l183; replace o0_159 := o0_159.other (SlK.stab (Sc.stab _)) g183 q0_3_159 l183; replace o173 := o173.other g183 q178.symm; replace o2_159 := o2_159.other g183 q2_3_159; replace o4_159 := o4_159.other g183 q3_4_159.symm; replace o5_159 := o5_159.other g183 q3_5_159.symm; have e186 := e181.grown g183 n3_159; refine ws_nil ?_; refine wt_fin ?_; refine bk_n ?_; obtain rfl := osi H156; exact ⟨k184, ⟨o4_159, o5_159, (o0_159.rd (SlK.stab (Sc.stab _)))⟩, v173, e186, o0_159, n0_159, o173, n182, o2_159, n2_159, o183, n3_159, o4_159, n4_159, o5_159, n5_159, q176, q0_2_159, q0_3_159, q0_4_159, q0_5_159, q177.symm, q178.symm, q179.symm, q180.symm, q2_3_159, q2_4_159, q2_5_159, q3_4_159, q3_5_159, q4_5_159, (k185.same D33 _ (Nat.zero_le _) xt0_159 rfl)⟩
    refine wr_br ?_ ?_
    · obtain ⟨r164, hr164, H156⟩ := bsi H156; refine wss rfl rfl rfl (stp_call (vs := [(subW vbbpg18_142 y156.1.toNat (y156.1 + (y156.2.length : Int)).toNat (y156.1 + (y156.2.length : Int)).toNat)]) Try.func19 rfl rfl rfl (ar1 rfl) (slices_Concat_sbytebyte_calls y156.2 (subW vbbpg18_142 y156.1.toNat (y156.1 + (y156.2.length : Int)).toNat (y156.1 + (y156.2.length : Int)).toNat) r164 _ (SlK.cut3 (L := []) (o0_159.rd (SlK.stab (Sc.stab _))) hy156.1) hr164) ?_); rintro _ w164 ⟨v164, rfl, x164, n164_0, o164_0⟩; refine ⟨_, rfl, x164, ?_⟩; have i164_0 : By w164 (vbbpg18_142 :: vbbpg6_159 :: (bp g9) :: (bp g6) :: (bp g143a) :: (bp g143b) :: L0) v164 r164 := OwK.slk (Sc.stab _) _ (OwK.scal o164_0 (v164 :: (vbbpg18_142 :: vbbpg6_159 :: (bp g9) :: (bp g6) :: (bp g143a) :: (bp g143b) :: L0))) (fun k hk => (Old.cons (Old.cons (Old.cons (Old.cons (Old.cons (Old.cons (hL0.ext e163) o5_159.ltB) o4_159.ltB) o3_159.ltB) o2_159.ltB) o1_159.ltB) o0_159.lt) k (n164_0 k hk)) (fun _ h => h.2); replace o0_159 := o0_159.extL (SlK.stab (Sc.stab _)) x164 (Lift.ext x164 _); replace o1_159 := o1_159.ext x164; replace o2_159 := o2_159.ext x164; replace o3_159 := o3_159.ext x164; replace o4_159 := o4_159.ext x164; replace o5_159 := o5_159.ext x164; have k165 := k161.ext x164; have k166 := k162.ext x164; have e167 := e163.trans x164; obtain ⟨c168, hc168, H156⟩ := bsi H156; refine sa rfl rfl (q_arrAt rfl A106 rfl i164_0 (Nat.le_of_eq (lenA_eq hc168).symm)) <| sq rfl rfl (q_loadSp rfl A106 rfl i164_0 (lenA_eq hc168) (by decide)) <| ?_; refine ws_nil ?_; refine wt_br ?_; refine wr_br ?_ ?_
      · refine wss rfl rfl rfl (Qt.stp (q_loadB (u := (bp g6)) rfl Try.isAgg72 (by exact s6_142) o2_159 rfl) ⟨Ext.refl _, ?_⟩); refine wss rfl rfl rfl (stp_litK (L := (vbbpg18_142 :: vbbpg6_159 :: (bp g9) :: (bp g6) :: (bp g143a) :: (bp g143b) :: L0)) (a := r164) rfl K97 rfl (lenA_eq hc168) ?_); intro v169 w169 o169 n169 g169 l169; refine ⟨grown_ext g169, ?_⟩; have x169 := grown_ext g169; have i169 : Ka w169 (vbbpg18_142 :: vbbpg6_159 :: (bp g9) :: (bp g6) :: (bp g143a) :: (bp g143b) :: L0) v169 [r164] := OwS.ka (vbbpg18_142 :: vbbpg6_159 :: (bp g9) :: (bp g6) :: (bp g143a) :: (bp g143b) :: L0) o169 (fun k hk => (Old.cons (Old.cons (Old.cons (Old.cons (Old.cons (Old.cons (hL0.ext e167) o5_159.ltB) o4_159.ltB) o3_159.ltB) o2_159.ltB) o1_159.ltB) o0_159.lt) k (n169 k hk)); replace i164_0 := i164_0.lift (Lift.ext x169 _); replace o0_159 := o0_159.extL (SlK.stab (Sc.stab _)) x169 (Lift.ext x169 _); replace o1_159 := o1_159.ext x169; replace o2_159 := o2_159.ext x169; replace o3_159 := o3_159.ext x169; replace o4_159 := o4_159.ext x169; replace o5_159 := o5_159.ext x169; have k170 := k165.ext x169; have k171 := k166.ext x169; have e172 := e167.trans x169; obtain ⟨c173, hc173, H156⟩ := bsi H156; refine wsc rfl (by kernel_rfl) rfl rfl (stp_appendK (v := vbbpg6_159) (u := v169) [vbbpg18_142] ((bp g9) :: (bp g6) :: (bp g143a) :: (bp g143b) :: L0) rfl K97 rfl rfl o1_159 i169 (List.cons_ne_nil _ _) hc173 ?_); intro v173 w173 o173 g173 nx173 l173; have k174 := k170.own g173 o1_159.cl; have k175 := k171.own g173 o1_159.cl; replace i164_0 := i164_0.lift l173; replace i169 := i169.lift l173; have q176 : Nq vbbpg18_142 v173 := o0_159.nxt q0_1_159 nx173; have q177 : Nq (bp g9) v173 := o2_159.nxt q1_2_159.symm nx173; have q178 : Nq (bp g6) v173 := o3_159.nxt q1_3_159.symm nx173; have q179 : Nq (bp g143a) v173 := o4_159.nxt q1_4_159.symm nx173; have q180 : Nq (bp g143b) v173 := o5_159.nxt q1_5_159.symm nx173; replace o0_159 := o0_159.other (SlK.stab (Sc.stab _)) g173 q0_1_159 l173; replace o2_159 := o2_159.other g173 q1_2_159.symm; replace o3_159 := o3_159.other g173 q1_3_159.symm; replace o4_159 := o4_159.other g173 q1_4_159.symm; replace o5_159 := o5_159.other g173 q1_5_159.symm; have e181 := e172.grown g173 n1_159; have n182 := Nw.nxt e172 n1_159 nx173; refine sa rfl rfl (q_nilP rfl rfl) <| sa rfl rfl (q_fldC (g := g6) (d := 1) rfl fieldAtC1 rfl) <| ?_; refine wsn rfl (by kernel_rfl) rfl rfl (stp_storeCs (ks' := v173) [vbbpg18_142, v173, (bp g9)] ((bp g143a) :: (bp g143b) :: L0) rfl rfl rfl o3_159 (OwS.oc o173) ?_); intro w183 o183 g183 l183; have k184 := k174.own g183 o3_159.cl; have k185 := k175.own g183 o3_159.cl; replace i164_0 := i164_0.lift l183; replace i169 := i169.lift l183; replace o0_159 := o0_159.other (SlK.stab (Sc.stab _)) g183 q0_3_159 l183; replace o173 := o173.other g183 q178.symm; replace o2_159 := o2_159.other g183 q2_3_159; replace o4_159 := o4_159.other g183 q3_4_159.symm; replace o5_159 := o5_159.other g183 q3_5_159.symm
        have e186 := e181.grown g183 n3_159; refine ws_nil ?_; refine wt_fin ?_; refine bk_n ?_; obtain rfl := osi H156; exact ⟨k184, ⟨o4_159, o5_159, (o0_159.rd (SlK.stab (Sc.stab _)))⟩, v173, e186, o0_159, n0_159, o173, n182, o2_159, n2_159, o183, n3_159, o4_159, n4_159, o5_159, n5_159, q176, q0_2_159, q0_3_159, q0_4_159, q0_5_159, q177.symm, q178.symm, q179.symm, q180.symm, q2_3_159, q2_4_159, q2_5_159, q3_4_159, q3_5_159, q4_5_159, (k185.same D33 _ (Nat.zero_le _) xt0_159 rfl)⟩
      refine wr_br ?_ ?_
      · refine wss rfl rfl rfl (stp_litK (L := (vbbpg18_142 :: vbbpg6_159 :: (bp g9) :: (bp g6) :: (bp g143a) :: (bp g143b) :: L0)) (a := r164) rfl K97 rfl (lenA_eq hc168) ?_); intro v169 w169 o169 n169 g169 l169; refine ⟨grown_ext g169, ?_⟩; have x169 := grown_ext g169; have i169 : Ka w169 (vbbpg18_142 :: vbbpg6_159 :: (bp g9) :: (bp g6) :: (bp g143a) :: (bp g143b) :: L0) v169 [r164] := OwS.ka (vbbpg18_142 :: vbbpg6_159 :: (bp g9) :: (bp g6) :: (bp g143a) :: (bp g143b) :: L0) o169 (fun k hk => (Old.cons (Old.cons (Old.cons (Old.cons (Old.cons (Old.cons (hL0.ext e167) o5_159.ltB) o4_159.ltB) o3_159.ltB) o2_159.ltB) o1_159.ltB) o0_159.lt) k (n169 k hk)); replace i164_0 := i164_0.lift (Lift.ext x169 _); replace o0_159 := o0_159.extL (SlK.stab (Sc.stab _)) x169 (Lift.ext x169 _); replace o1_159 := o1_159.ext x169; replace o2_159 := o2_159.ext x169; replace o3_159 := o3_159.ext x169; replace o4_159 := o4_159.ext x169; replace o5_159 := o5_159.ext x169; have k170 := k165.ext x169; have k171 := k166.ext x169; have e172 := e167.trans x169; refine ws_nil ?_; refine wt_br ?_; refine wr_br ?_ ?_
        · refine wss rfl rfl rfl (Qt.stp (q_loadB (u := (bp g6)) rfl Try.isAgg72 (by exact s6_142) o2_159 rfl) ⟨Ext.refl _, ?_⟩); obtain ⟨c173, hc173, H156⟩ := bsi H156; refine wsc rfl (by kernel_rfl) rfl rfl (stp_appendK (v := vbbpg6_159) (u := v169) [vbbpg18_142] ((bp g9) :: (bp g6) :: (bp g143a) :: (bp g143b) :: L0) rfl K97 rfl rfl o1_159 i169 (List.cons_ne_nil _ _) hc173 ?_); intro v173 w173 o173 g173 nx173 l173; have k174 := k170.own g173 o1_159.cl; have k175 := k171.own g173 o1_159.cl; replace i164_0 := i164_0.lift l173; replace i169 := i169.lift l173; have q176 : Nq vbbpg18_142 v173 := o0_159.nxt q0_1_159 nx173; have q177 : Nq (bp g9) v173 := o2_159.nxt q1_2_159.symm nx173; have q178 : Nq (bp g6) v173 := o3_159.nxt q1_3_159.symm nx173; have q179 : Nq (bp g143a) v173 := o4_159.nxt q1_4_159.symm nx173; have q180 : Nq (bp g143b) v173 := o5_159.nxt q1_5_159.symm nx173; replace o0_159 := o0_159.other (SlK.stab (Sc.stab _)) g173 q0_1_159 l173; replace o2_159 := o2_159.other g173 q1_2_159.symm; replace o3_159 := o3_159.other g173 q1_3_159.symm; replace o4_159 := o4_159.other g173 q1_4_159.symm; replace o5_159 := o5_159.other g173 q1_5_159.symm; have e181 := e172.grown g173 n1_159; have n182 := Nw.nxt e172 n1_159 nx173; refine sa rfl rfl (q_nilP rfl rfl) <| sa rfl rfl (q_fldC (g := g6) (d := 1) rfl fieldAtC1 rfl) <| ?_; refine wsn rfl (by kernel_rfl) rfl rfl (stp_storeCs (ks' := v173) [vbbpg18_142, v173, (bp g9)] ((bp g143a) :: (bp g143b) :: L0) rfl rfl rfl o3_159 (OwS.oc o173) ?_); intro w183 o183 g183 l183; have k184 := k174.own g183 o3_159.cl; have k185 := k175.own g183 o3_159.cl; replace i164_0 := i164_0.lift l183; replace i169 := i169.lift l183; replace o0_159 := o0_159.other (SlK.stab (Sc.stab _)) g183 q0_3_159 l183; replace o173 := o173.other g183 q178.symm; replace o2_159 := o2_159.other g183 q2_3_159; replace o4_159 := o4_159.other g183 q3_4_159.symm; replace o5_159 := o5_159.other g183 q3_5_159.symm; have e186 := e181.grown g183 n3_159; refine ws_nil ?_; refine wt_fin ?_; refine bk_n ?_; obtain rfl := osi H156; exact ⟨k184, ⟨o4_159, o5_159, (o0_159.rd (SlK.stab (Sc.stab _)))⟩, v173, e186, o0_159, n0_159, o173, n182, o2_159, n2_159, o183, n3_159, o4_159, n4_159, o5_159, n5_159, q176, q0_2_159, q0_3_159, q0_4_159, q0_5_159, q177.symm, q178.symm, q179.symm, q180.symm, q2_3_159, q2_4_159, q2_5_159, q3_4_159, q3_5_159, q4_5_159, (k185.same D33 _ (Nat.zero_le _) xt0_159 rfl)⟩
        refine wr_br ?_ ?_
        · obtain ⟨c173, hc173, H156⟩ := bsi H156; refine wsc rfl (by kernel_rfl) rfl rfl (stp_appendK (v := vbbpg6_159) (u := v169) [vbbpg18_142] ((bp g9) :: (bp g6) :: (bp g143a) :: (bp g143b) :: L0) rfl K97 rfl rfl o1_159 i169 (List.cons_ne_nil _ _) hc173 ?_); intro v173 w173 o173 g173 nx173 l173; have k174 := k170.own g173 o1_159.cl; have k175 := k171.own g173 o1_159.cl; replace i164_0 := i164_0.lift l173; replace i169 := i169.lift l173; have q176 : Nq vbbpg18_142 v173 := o0_159.nxt q0_1_159 nx173; have q177 : Nq (bp g9) v173 := o2_159.nxt q1_2_159.symm nx173; have q178 : Nq (bp g6) v173 := o3_159.nxt q1_3_159.symm nx173; have q179 : Nq (bp g143a) v173 := o4_159.nxt q1_4_159.symm nx173; have q180 : Nq (bp g143b) v173 := o5_159.nxt q1_5_159.symm nx173; replace o0_159 := o0_159.other (SlK.stab (Sc.stab _)) g173 q0_1_159 l173; replace o2_159 := o2_159.other g173 q1_2_159.symm; replace o3_159 := o3_159.other g173 q1_3_159.symm; replace o4_159 := o4_159.other g173 q1_4_159.symm; replace o5_159 := o5_159.other g173 q1_5_159.symm; have e181 := e172.grown g173 n1_159; have n182 := Nw.nxt e172 n1_159 nx173; refine wss rfl rfl rfl (Qt.stp (q_loadB (u := (bp g6)) rfl Try.isAgg72 (by exact s6_142) o2_159 rfl) ⟨Ext.refl _, ?_⟩); refine sa rfl rfl (q_nilP rfl rfl) <| sa rfl rfl (q_fldC (g := g6) (d := 1) rfl fieldAtC1 rfl) <| ?_; refine wsn rfl (by kernel_rfl) rfl rfl (stp_storeCs (ks' := v173) [vbbpg18_142, v173, (bp g9)] ((bp g143a) :: (bp g143b) :: L0) rfl rfl rfl o3_159 (OwS.oc o173) ?_); intro w183 o183 g183 l183; have k184 := k174.own g183 o3_159.cl; have k185 := k175.own g183 o3_159.cl; replace i164_0 := i164_0.lift l183; replace i169 := i169.lift l183; replace o0_159 := o0_159.other (SlK.stab (Sc.stab _)) g183 q0_3_159 l183; replace o173 := o173.other g183 q178.symm; replace o2_159 := o2_159.other g183 q2_3_159; replace o4_159 := o4_159.other g183 q3_4_159.symm; replace o5_159 := o5_159.other g183 q3_5_159.symm; have e186 := e181.grown g183 n3_159; refine ws_nil ?_; refine wt_fin ?_; refine bk_n ?_; obtain rfl := osi H156; exact ⟨k184, ⟨o4_159, o5_159, (o0_159.rd (SlK.stab (Sc.stab _)))⟩, v173, e186, o0_159, n0_159, o173, n182, o2_159, n2_159, o183, n3_159, o4_159, n4_159, o5_159, n5_159, q176, q0_2_159, q0_3_159, q0_4_159, q0_5_159, q177.symm, q178.symm, q179.symm, q180.symm, q2_3_159, q2_4_159, q2_5_159, q3_4_159, q3_5_159, q4_5_159, (k185.same D33 _ (Nat.zero_le _) xt0_159 rfl)⟩
        trivial
      trivial
    trivial
  intro D156 w187 hD156 ⟨vbbpg6_187, hE187, o0_187, n0_187, o1_187, n1_187, o2_187, n2_187, o3_187, n3_187, o4_187, n4_187, o5_187, n5_187, q0_1_187, q0_2_187, q0_3_187, q0_4_187, q0_5_187, q1_2_187, q1_3_187, q1_4_187, q1_5_187, q2_3_187, q2_4_187, q2_5_187, q3_4_187, q3_5_187, q4_5_187, xt0_187⟩ hK156; have hd156 := Nat.le_trans e155.size hD156; have kd156 := KeepsFrom.refl 0 w187; have hne156 : D156 ≠ D33 := Nat.ne_of_gt (Nat.lt_of_lt_of_le (lt_of_get hM156) hD156); refine bk_n <| W_th <| W_seq <| W_rg <| wq rfl (q_loadB (u := (bp g6)) rfl Try.isAgg72 (by exact s6_142) o2_187 rfl) <| av (bp g6) rfl rfl <| av (i64 0) rfl rfl <| wnt <| ?_; refine W_ret ?_; obtain ⟨c189, hc189, H⟩ := bsi H; obtain ⟨c188, hc188, H⟩ := bsi H; obtain rfl := osi H; have hk190 := kd156.same D156 _ (Nat.zero_le _) hK156 rfl; have t190 := Tn.put hk190 hd156 (.deferred none); have hk190b := kd156.same D33 _ (Nat.zero_le _) xt0_187 rfl; have t190b := Tn.put2 hk190 hk190b hne156 hd33 (.deferred none) (.deferred none); refine rtmm2 (bp g6) (i64 0) rfl rfl rfl rfl rfl rfl hne156 hk190 hk190b ?_; exact ⟨(bp g6), rfl, ((hE187.tn t190 (Nat.le_refl _)).tn t190b (Nat.le_refl _)), (Ci.mk ((o3_187.tn t190).tn t190b) (hL0 _ (n3_187 _ (hs_bp' _))) (((hp0.lift (Lift.ext hE187 _)).tn t190).tn t190b) (OwS.ka L0 ((o1_187.tn t190).tn t190b) (fun k hk => hL0 k (n1_187 k hk))) (lenA_eq hc189) (lenA_eq hc188))⟩
end Gk

/- A range over a function of two values, whose assignments may lay new blocks. No condition. -/
namespace Gk
open Go Go.RowKit
section
variable {P : Program} {n : Nat} {Q : Exit → (Nat → Value) → World → Prop} {f : Nat → Value} {w : World}
end
end Gk

/- slices.Backward over arrays of sixteen bytes: what it hands back, and its iterator's contract. No condition. -/
namespace Gk
open Go Go.Proofs Go.RowKit
end Gk

/- Printed by gen.py: for each Go function a pure function, and that the Go code comes to it. No condition beside the equation that says what the pure function gives. -/
namespace Gk
open Go Go.Proofs
end Gk

/- Printed by gen.py: for each Go function a pure function, and that the Go code comes to it. No condition beside the equation that says what the pure function gives. -/
namespace Gk
open Go Go.Proofs
noncomputable def ref05_Box (a0x : UInt8) : Option UInt8 :=
((ref02_Inv a0x).bind fun r1 =>
((iterC (fun s3 : UInt8 × Int =>
(if s3.2 < 8 then
((cnt s3.2).bind fun c8 =>
((remI ((wI (s3.2 + 4))) 8).bind fun c9 =>
((cnt c9).bind fun c10 =>
((remI ((wI (s3.2 + 5))) 8).bind fun c11 =>
((cnt c11).bind fun c12 =>
((remI ((wI (s3.2 + 6))) 8).bind fun c13 =>
((cnt c13).bind fun c14 =>
((remI ((wI (s3.2 + 7))) 8).bind fun c15 =>
((cnt c15).bind fun c16 =>
((cnt s3.2).bind fun c17 =>
((cnt s3.2).bind fun c18 => some (.inl ((s3.1 ||| (shl8 ((((((((shr8 r1 c8) &&& (1 : UInt8)) ^^^ ((shr8 r1 c10) &&& (1 : UInt8))) ^^^ ((shr8 r1 c12) &&& (1 : UInt8))) ^^^ ((shr8 r1 c14) &&& (1 : UInt8))) ^^^ ((shr8 r1 c16) &&& (1 : UInt8))) ^^^ ((shr8 ((99 : UInt8)) c17) &&& (1 : UInt8)))) c18)), (wI (s3.2 + 1)))))))))))))))
else some (.inr s3.1))) ((0 : UInt8), 0)).bind fun x3 => some x3))
theorem ref05_Box_calls (a0x : UInt8) (r : UInt8) (w0 : World) (H : ref05_Box a0x = some r) :
    Calls Try.prog 61 [(u8 a0x)].toArray w0 (fun e w' => e = .returned (u8 r) ∧ Ext w0 w') := by
  have hE : Ext w0 w0 := Ext.refl w0; unfold ref05_Box at H; refine calls_W (n := 55) Try.func61 rfl rfl rfl ?_; refine W_seq <| W_rg <| av (u8 0) rfl (cst8 (0 : UInt8) rfl) <| wnt <| W_seq <| W_rg <| mv (u8 a0x) rfl rfl <| ?_; obtain ⟨r1, hr1, H⟩ := bsi H; refine wls rfl rfl (stp_call (vs := [(u8 a0x)]) Try.func82 rfl rfl rfl (ar1 rfl) (ref02_Inv_calls a0x  r1 _  hr1) ?_); rintro _ w1 ⟨rfl, x1⟩; refine ⟨_, rfl, ?_⟩; have e2 := hE.trans x1; refine av (u8 r1) rfl rfl <| wnt <| W_seq <| W_rg <| av (u8 0) rfl (cst8 (0 : UInt8) rfl) <| wnt <| W_seq <| W_seq <| ?_; refine W_rg <| av (i64 0) rfl rfl <| wnt <| ?_; obtain ⟨x3, G3, H⟩ := bsi H; refine W_mid (fun f w => f 4 = (u8 x3) ∧ f 55 = undef ∧ Ext w0 w) ?_ ?_
  · refine W_block ?_; refine W_loop (fun s3 f w => f 3 = (u8 r1) ∧ f 4 = (u8 s3.1) ∧ f 5 = (i64 s3.2) ∧ f 55 = undef ∧ Ext w0 w) G3 ?_ ?_
    · exact ⟨rfl, rfl, rfl, rfl, e2⟩
    rintro s3 _ _ w4 ⟨s3_4, s4_4, s5_4, s55_4, hE4⟩ H3 hr3; refine W_seq <| W_seq <| W_rg <| mv (i64 s3.2) rfl s5_4 <| wa rfl (q_ltI rfl rfl rfl) <| wnt <| ?_; refine W_cond _ rfl rfl (fun hb5 => ?_) (fun hb5 => ?_)
    · replace H3 := ifp hb5 H3; refine W_skip <| W_th <| W_seq <| W_block <| W_seq <| ?_; refine W_draw [] [(0, 0), (1, 0), (2, 0), (3, 0), (4, 0), (5, 0), (6, 0), (7, 0), (8, 0), (9, 0), (10, 0), (11, 0), (12, 0), (13, 0), (14, 0), (15, 0), (16, 0), (17, 0), (18, 0), (19, 0), (20, 0), (21, 0), (22, 0), (23, 0), (24, 0), (25, 0), (26, 0), (27, 0), (28, 0), (29, 0), (30, 0), (31, 0), (32, 0), (33, 0), (34, 0), (35, 0), (36, 0)] mixed (by kernel_rfl) (by kernel_rfl) (by kernel_rfl) (by kernel_rfl) ?_; have x6 := Ext.drew w4; have e7 := hE4.trans x6; refine sv (u8 r1) rfl rfl s3_4 <| sv (i64 s3.2) rfl rfl s5_4 <| ?_; obtain ⟨c8, hc8, H3⟩ := bsi H3; refine sa rfl rfl (q_shr8 c8 rfl rfl rfl (cnt_eq hc8)) <| sa rfl rfl (q_and8 rfl rfl (cst8 (1 : UInt8) rfl)) <| sv (u8 r1) rfl rfl s3_4 <| sv (i64 s3.2) rfl rfl s5_4 <| sa rfl rfl (q_addI rfl rfl rfl) <| ?_; obtain ⟨c9, hc9, H3⟩ := bsi H3; refine sa rfl rfl (q_remI rfl rfl rfl hc9) ?_; obtain ⟨c10, hc10, H3⟩ := bsi H3; refine sa rfl rfl (q_shr8 c10 rfl rfl rfl (cnt_eq hc10)) <| sa rfl rfl (q_and8 rfl rfl (cst8 (1 : UInt8) rfl)) <| sa rfl rfl (q_xor8 rfl rfl rfl) <| sv (u8 r1) rfl rfl s3_4 <| sv (i64 s3.2) rfl rfl s5_4 <| sa rfl rfl (q_addI rfl rfl rfl) <| ?_; obtain ⟨c11, hc11, H3⟩ := bsi H3; refine sa rfl rfl (q_remI rfl rfl rfl hc11) ?_; obtain ⟨c12, hc12, H3⟩ := bsi H3; refine sa rfl rfl (q_shr8 c12 rfl rfl rfl (cnt_eq hc12)) <| sa rfl rfl (q_and8 rfl rfl (cst8 (1 : UInt8) rfl)) <| sa rfl rfl (q_xor8 rfl rfl rfl) <| sv (u8 r1) rfl rfl s3_4 <| sv (i64 s3.2) rfl rfl s5_4 <| sa rfl rfl (q_addI rfl rfl rfl) <| ?_; obtain ⟨c13, hc13, H3⟩ := bsi H3; refine sa rfl rfl (q_remI rfl rfl rfl hc13) ?_; obtain ⟨c14, hc14, H3⟩ := bsi H3; refine sa rfl rfl (q_shr8 c14 rfl rfl rfl (cnt_eq hc14)) <| sa rfl rfl (q_and8 rfl rfl (cst8 (1 : UInt8) rfl)) <| sa rfl rfl (q_xor8 rfl rfl rfl) <| sv (u8 r1) rfl rfl s3_4 <| sv (i64 s3.2) rfl rfl s5_4 <| sa rfl rfl (q_addI rfl rfl rfl) <| ?_; obtain ⟨c15, hc15, H3⟩ := bsi H3; refine sa rfl rfl (q_remI rfl rfl rfl hc15) ?_; obtain ⟨c16, hc16, H3⟩ := bsi H3; refine sa rfl rfl (q_shr8 c16 rfl rfl rfl (cnt_eq hc16)) <| sa rfl rfl (q_and8 rfl rfl (cst8 (1 : UInt8) rfl)) <| sa rfl rfl (q_xor8 rfl rfl rfl) <| sv (i64 s3.2) rfl rfl s5_4 <| ?_
      obtain ⟨c17, hc17, H3⟩ := bsi H3; refine sa rfl rfl (q_shr8 c17 rfl (cst8 (99 : UInt8) rfl) rfl (cnt_eq hc17)) <| sa rfl rfl (q_and8 rfl rfl (cst8 (1 : UInt8) rfl)) <| sa rfl rfl (q_xor8 rfl rfl rfl) <| sa rfl rfl (q_assign (v := (u8 ((((((((shr8 r1 c8) &&& (1 : UInt8)) ^^^ ((shr8 r1 c10) &&& (1 : UInt8))) ^^^ ((shr8 r1 c12) &&& (1 : UInt8))) ^^^ ((shr8 r1 c14) &&& (1 : UInt8))) ^^^ ((shr8 r1 c16) &&& (1 : UInt8))) ^^^ ((shr8 ((99 : UInt8)) c17) &&& (1 : UInt8)))))) rfl rfl) <| ?_; refine ws_nil ?_; refine W_th <| W_rg <| mv (u8 s3.1) rfl s4_4 <| mv (u8 ((((((((shr8 r1 c8) &&& (1 : UInt8)) ^^^ ((shr8 r1 c10) &&& (1 : UInt8))) ^^^ ((shr8 r1 c12) &&& (1 : UInt8))) ^^^ ((shr8 r1 c14) &&& (1 : UInt8))) ^^^ ((shr8 r1 c16) &&& (1 : UInt8))) ^^^ ((shr8 ((99 : UInt8)) c17) &&& (1 : UInt8))))) rfl rfl <| mv (i64 s3.2) rfl s5_4 <| ?_; obtain ⟨c18, hc18, H3⟩ := bsi H3; refine wa rfl (q_shl8 c18 rfl rfl rfl (cnt_eq hc18)) <| wa rfl (q_or8 rfl rfl rfl) <| av (u8 ((s3.1 ||| (shl8 ((((((((shr8 r1 c8) &&& (1 : UInt8)) ^^^ ((shr8 r1 c10) &&& (1 : UInt8))) ^^^ ((shr8 r1 c12) &&& (1 : UInt8))) ^^^ ((shr8 r1 c14) &&& (1 : UInt8))) ^^^ ((shr8 r1 c16) &&& (1 : UInt8))) ^^^ ((shr8 ((99 : UInt8)) c17) &&& (1 : UInt8)))) c18)))) rfl rfl <| wl_nil <| bk_n <| W_th <| W_rg <| mv (i64 s3.2) rfl s5_4 <| ?_; refine wa rfl (q_addI rfl rfl rfl) <| av (i64 ((wI (s3.2 + 1)))) rfl rfl <| wl_nil <| ?_; obtain rfl := osi H3; exact ⟨_, rfl, s3_4, rfl, rfl, s55_4, e7⟩
    replace H3 := ifn hb5 H3; refine W_exit <| th_x <| ?_; obtain rfl := osi H3; obtain rfl := hr3 _ rfl; refine th_x <| bk_x <| ?_; exact ⟨s4_4, s55_4, hE4⟩
  rintro _ w20 ⟨s4_20, s55_20, hE20⟩; refine W_th <| W_seq <| W_rg <| mv (u8 x3) rfl s4_20 <| av (u8 x3) rfl rfl <| wnt <| W_ret <| ?_; obtain rfl := osi H; refine rt1 (u8 x3) rfl rfl rfl s55_20 ?_; exact ⟨rfl, hE20⟩
noncomputable def ref05_Keys (a0key : List UInt8) : Option (List UInt8) :=
((divI ((a0key.length : Int)) 4).bind fun c1 =>
((appL (([] : List UInt8)) a0key).bind fun c5 =>
((iterC (fun s8 : List UInt8 × UInt8 × Int =>
(if s8.2.2 < (wI (4 * (wI (c1 + 7)))) then
((idx s8.1 ((wI ((wI (4 * s8.2.2)) - 4)))).bind fun c13 =>
((idx s8.1 ((wI ((wI (4 * s8.2.2)) - 3)))).bind fun c14 =>
((idx s8.1 ((wI ((wI (4 * s8.2.2)) - 2)))).bind fun c15 =>
((idx s8.1 ((wI ((wI (4 * s8.2.2)) - 1)))).bind fun c16 =>
((((remI s8.2.2 c1).bind fun c20 =>
(if c20 = 0 then
((idx (([c13, c14, c15, c16] : List UInt8)) 1).bind fun c24 =>
((idx (([c13, c14, c15, c16] : List UInt8)) 2).bind fun c25 =>
((idx (([c13, c14, c15, c16] : List UInt8)) 3).bind fun c26 =>
((idx (([c13, c14, c15, c16] : List UInt8)) 0).bind fun c27 =>
((ref05_Box c24).bind fun r28 =>
((ref05_Box c25).bind fun r30 =>
((ref05_Box c26).bind fun r32 =>
((ref05_Box c27).bind fun r34 =>
((ref02_Mul s8.2.1 (2 : UInt8)).bind fun r38 => some (r38, ([(r28 ^^^ s8.2.1), r30, r32, r34] : List UInt8)))))))))))
else
(if c1 = 8 then
((remI s8.2.2 8).bind fun c41 =>
(if c41 = 4 then
((idx (([c13, c14, c15, c16] : List UInt8)) 0).bind fun c45 =>
((idx (([c13, c14, c15, c16] : List UInt8)) 1).bind fun c46 =>
((idx (([c13, c14, c15, c16] : List UInt8)) 2).bind fun c47 =>
((idx (([c13, c14, c15, c16] : List UInt8)) 3).bind fun c48 =>
((ref05_Box c45).bind fun r49 =>
((ref05_Box c46).bind fun r51 =>
((ref05_Box c47).bind fun r53 =>
((ref05_Box c48).bind fun r55 => some (s8.2.1, ([r49, r51, r53, r55] : List UInt8))))))))))
else some (s8.2.1, ([c13, c14, c15, c16] : List UInt8))))
else some (s8.2.1, ([c13, c14, c15, c16] : List UInt8)))))).bind fun x19 =>
((iterC (fun s60 : List UInt8 × Int =>
(if s60.2 < 4 then
((idx s60.1 ((wI ((wI (4 * (wI (s8.2.2 - c1)))) + s60.2)))).bind fun c66 =>
((idx x19.2 s60.2).bind fun c67 =>
((appL s60.1 (([(c66 ^^^ c67)] : List UInt8))).bind fun c70 => some (.inl (c70, (wI (s60.2 + 1)))))))
else some (.inr s60.1))) (s8.1, 0)).bind fun x60 => some (.inl (x60, x19.1, (wI (s8.2.2 + 1))))))))))
else some (.inr s8.1))) (c5, (1 : UInt8), c1)).bind fun x8 => some x8)))
theorem ref05_Keys_calls (a0key : List UInt8) (p0 : Value) (r : List UInt8) (w0 : World) (hp0 : By w0 [] p0 a0key) (H : ref05_Keys a0key = some r) :
    Calls Try.prog 60 [p0].toArray w0 (fun e w' => ∃ u0 : Value, e = .returned u0 ∧ Ext w0 w' ∧ Nw w0 u0 ∧ OwK (Sc u8) w' [] 5 u0 r) := by
  have hE : Ext w0 w0 := Ext.refl w0; unfold ref05_Keys at H; refine calls_W (n := 119) Try.func60 rfl rfl rfl ?_; refine W_seq <| W_rg <| av (.slice none 0 0) rfl rfl <| wnt <| W_seq <| W_rg <| mv p0 rfl rfl <| wa rfl (q_len rfl T22.sl rfl (hp0.lift (Lift.ext hE _))) <| ?_; obtain ⟨c1, hc1, H⟩ := bsi H; refine wa rfl (q_divI rfl rfl rfl hc1) <| av (i64 c1) rfl rfl <| wnt <| W_seq <| W_rg <| ?_; refine wls rfl rfl (stp_lit (L := []) (R := (Sc u8)) [] ([] : List UInt8) rfl T22 rfl (by exact trivial) rfl (litC u8 (oneC_u8) (us := []) (l := ([] : List UInt8)) rfl) rfl (litS u8 (us := []) (l := ([] : List UInt8)) rfl) ?_); intro v2 w2 o2 n2 g2 l2; have x2 := grown_ext g2; have n4 := Nw.ext hE n2; have e3 := hE.trans x2; refine mv p0 rfl rfl ?_; obtain ⟨c5, hc5, H⟩ := bsi H; refine wls rfl rfl (stp_append (R := (Sc u8)) (v := v2) (u := p0) (Sc.stab _) [] [] rfl T22 rfl rfl o2 (hp0.lift (Lift.ext e3 _)) (fun _ _ h => h) hc5 oc_u8 ?_); intro v5 w5 o5 g5 nx5 l5; have e6 := e3.grown g5 n4; have n7 := Nw.nxt e3 n4 nx5; refine av v5 rfl rfl <| wnt <| W_seq <| W_rg <| av (u8 1) rfl (cst8 (1 : UInt8) rfl) <| wnt <| W_seq <| W_seq <| ?_; refine W_rg <| mv (i64 c1) rfl rfl <| av (i64 c1) rfl rfl <| wnt <| ?_; obtain ⟨x8, G8, H⟩ := bsi H; refine W_mid (fun f w => ∃ v4_79 : Value, f 4 = v4_79 ∧ f 119 = undef ∧ Ext w0 w ∧ OwK (Sc u8) w [v4_79] 5 v4_79 x8 ∧ Nw w0 v4_79) ?_ ?_
  · refine W_block ?_; refine W_loop (fun s8 f w => ∃ v4_77 : Value, f 3 = (i64 c1) ∧ f 4 = v4_77 ∧ f 5 = (u8 s8.2.1) ∧ f 6 = (i64 s8.2.2) ∧ f 119 = undef ∧ Ext w0 w ∧ OwK (Sc u8) w [v4_77] 5 v4_77 s8.1 ∧ Nw w0 v4_77) G8 ?_ ?_
    · exact ⟨v5, rfl, rfl, rfl, rfl, rfl, e6, o5, n7⟩
    rintro s8 _ _ w9 ⟨v4_9, s3_9, s4_9, s5_9, s6_9, s119_9, hE9, o0_9, n0_9⟩ H8 hr8; refine W_seq <| W_seq <| W_rg <| mv (i64 s8.2.2) rfl s6_9 <| mv (i64 c1) rfl s3_9 <| wa rfl (q_addI rfl rfl rfl) <| wa rfl (q_mulI rfl rfl rfl) <| wa rfl (q_ltI rfl rfl rfl) <| ?_; refine wnt ?_; refine W_cond _ rfl rfl (fun hb10 => ?_) (fun hb10 => ?_)
    · replace H8 := ifp hb10 H8; refine W_skip <| W_th <| W_seq <| W_block <| W_seq <| ?_; refine W_draw [5, 11, 17, 23] [(0, 0), (1, 0), (2, 0), (3, 0), (4, 0), (5, 1), (6, 0), (7, 0), (8, 0), (9, 0), (10, 0), (11, 1), (12, 0), (13, 0), (14, 0), (15, 0), (16, 0), (17, 1), (18, 0), (19, 0), (20, 0), (21, 0), (22, 0), (23, 1), (24, 2), (25, 0)] mixed (by kernel_rfl) (by kernel_rfl) (by kernel_rfl) (by kernel_rfl) ?_; have x11 := Ext.drew w9; replace o0_9 := o0_9.extL (Sc.stab _) x11 (Lift.ext x11 _); have e12 := hE9.trans x11; refine sv v4_9 rfl rfl s4_9 <| sv (i64 s8.2.2) rfl rfl s6_9 <| sa rfl rfl (q_mulI rfl rfl rfl) <| sa rfl rfl (q_subI rfl rfl rfl) <| ?_; obtain ⟨c13, hc13, H8⟩ := bsi H8; refine sa rfl rfl (q_adr rfl T22 rfl rfl (o0_9.rd (Sc.stab _)) hc13) <| sq rfl rfl (q_loadS rfl T22 rfl (o0_9.rd (Sc.stab _)) hc13) <| sv v4_9 rfl rfl s4_9 <| sv (i64 s8.2.2) rfl rfl s6_9 <| sa rfl rfl (q_mulI rfl rfl rfl) <| sa rfl rfl (q_subI rfl rfl rfl) <| ?_; obtain ⟨c14, hc14, H8⟩ := bsi H8; refine sa rfl rfl (q_adr rfl T22 rfl rfl (o0_9.rd (Sc.stab _)) hc14) <| sq rfl rfl (q_loadS rfl T22 rfl (o0_9.rd (Sc.stab _)) hc14) <| sv v4_9 rfl rfl s4_9 <| sv (i64 s8.2.2) rfl rfl s6_9 <| sa rfl rfl (q_mulI rfl rfl rfl) <| sa rfl rfl (q_subI rfl rfl rfl) <| ?_; obtain ⟨c15, hc15, H8⟩ := bsi H8; refine sa rfl rfl (q_adr rfl T22 rfl rfl (o0_9.rd (Sc.stab _)) hc15) <| sq rfl rfl (q_loadS rfl T22 rfl (o0_9.rd (Sc.stab _)) hc15) <| sv v4_9 rfl rfl s4_9 <| sv (i64 s8.2.2) rfl rfl s6_9 <| sa rfl rfl (q_mulI rfl rfl rfl) <| sa rfl rfl (q_subI rfl rfl rfl) <| ?_; obtain ⟨c16, hc16, H8⟩ := bsi H8; refine sa rfl rfl (q_adr rfl T22 rfl rfl (o0_9.rd (Sc.stab _)) hc16) <| sq rfl rfl (q_loadS rfl T22 rfl (o0_9.rd (Sc.stab _)) hc16) <| ?_; refine wsc rfl (by kernel_rfl) rfl rfl (stp_lit (L := [v4_9]) (R := (Sc u8)) [(u8 c13), (u8 c14), (u8 c15), (u8 c16)] ([c13, c14, c15, c16] : List UInt8) rfl T22 rfl (by exact ⟨rfl, rfl, rfl, rfl, rfl, rfl, rfl, rfl, trivial⟩) rfl (litC u8 (oneC_u8) (us := [(u8 c13), (u8 c14), (u8 c15), (u8 c16)]) (l := ([c13, c14, c15, c16] : List UInt8)) rfl) rfl (litS u8 (us := [(u8 c13), (u8 c14), (u8 c15), (u8 c16)]) (l := ([c13, c14, c15, c16] : List UInt8)) rfl) ?_); intro v17 w17 o17 n17 g17 l17; have x17 := grown_ext g17; have i17 : By w17 [v4_9] v17 (([c13, c14, c15, c16] : List UInt8)) := OwK.slk (Sc.stab _) _ o17 (fun k hk => (Old.cons (Old.nil _) o0_9.lt) k (n17 k hk)) (fun _ h => h.2); replace o0_9 := o0_9.extL (Sc.stab _) x17 (Lift.ext x17 _)
      have e18 := e12.trans x17; refine sa rfl rfl (q_assign (v := v17) rfl rfl) ?_; refine ws_nil ?_; refine W_th <| W_seq <| ?_; obtain ⟨x19, H19, H8⟩ := bsi H8; refine W_mid (fun f w => ∃ v7_76 : Value, f 3 = (i64 c1) ∧ f 4 = v4_9 ∧ f 5 = (u8 x19.1) ∧ f 6 = (i64 s8.2.2) ∧ f 7 = v7_76 ∧ f 119 = undef ∧ Ext w0 w ∧ OwK (Sc u8) w [v4_9] 5 v4_9 s8.1 ∧ Nw w0 v4_9 ∧ By w [v4_9] v7_76 x19.2) ?_ ?_
      · refine W_seq <| W_rg <| mv (i64 s8.2.2) rfl s6_9 <| mv (i64 c1) rfl s3_9 <| ?_; obtain ⟨c20, hc20, H19⟩ := bsi H19; refine wa rfl (q_remI rfl rfl rfl hc20) <| wa rfl (q_eqI rfl rfl rfl) <| wnt <| ?_; refine W_cond _ rfl rfl (fun hb21 => ?_) (fun hb21 => ?_)
        · replace H19 := ifp hb21 H19; refine W_seq ?_; refine W_draw [2, 8, 12, 16] [(0, 0), (1, 0), (2, 1), (4, 0), (6, 0), (7, 0), (8, 1), (10, 0), (11, 0), (12, 1), (14, 0), (15, 0), (16, 1), (3, 2), (5, 0), (9, 2), (13, 2), (17, 2), (18, 2), (19, 0)] mixed (by kernel_rfl) (by kernel_rfl) (by kernel_rfl) (by kernel_rfl) ?_; have x22 := Ext.drew w17; replace i17 := i17.lift (Lift.ext x22 _); replace o0_9 := o0_9.extL (Sc.stab _) x22 (Lift.ext x22 _); have e23 := e18.trans x22; refine sv v17 rfl rfl rfl ?_; obtain ⟨c24, hc24, H19⟩ := bsi H19; refine sa rfl rfl (q_adr rfl T22 rfl rfl i17 hc24) <| sq rfl rfl (q_loadS rfl T22 rfl i17 hc24) <| sv (u8 s8.2.1) rfl rfl s5_9 <| sv v17 rfl rfl rfl <| ?_; obtain ⟨c25, hc25, H19⟩ := bsi H19; refine sa rfl rfl (q_adr rfl T22 rfl rfl i17 hc25) <| sq rfl rfl (q_loadS rfl T22 rfl i17 hc25) <| sv v17 rfl rfl rfl <| ?_; obtain ⟨c26, hc26, H19⟩ := bsi H19; refine sa rfl rfl (q_adr rfl T22 rfl rfl i17 hc26) <| sq rfl rfl (q_loadS rfl T22 rfl i17 hc26) <| sv v17 rfl rfl rfl <| ?_; obtain ⟨c27, hc27, H19⟩ := bsi H19; refine sa rfl rfl (q_adr rfl T22 rfl rfl i17 hc27) <| sq rfl rfl (q_loadS rfl T22 rfl i17 hc27) <| ?_; obtain ⟨r28, hr28, H19⟩ := bsi H19; refine wss rfl rfl rfl (stp_call (vs := [(u8 c24)]) Try.func61 rfl rfl rfl (ar1 rfl) (ref05_Box_calls c24  r28 _  hr28) ?_); rintro _ w28 ⟨rfl, x28⟩; refine ⟨_, rfl, x28, ?_⟩; replace i17 := i17.lift (Lift.ext x28 _); replace o0_9 := o0_9.extL (Sc.stab _) x28 (Lift.ext x28 _); have e29 := e23.trans x28; refine sa rfl rfl (q_xor8 rfl rfl rfl) ?_; obtain ⟨r30, hr30, H19⟩ := bsi H19; refine wss rfl rfl rfl (stp_call (vs := [(u8 c25)]) Try.func61 rfl rfl rfl (ar1 rfl) (ref05_Box_calls c25  r30 _  hr30) ?_); rintro _ w30 ⟨rfl, x30⟩; refine ⟨_, rfl, x30, ?_⟩; replace i17 := i17.lift (Lift.ext x30 _); replace o0_9 := o0_9.extL (Sc.stab _) x30 (Lift.ext x30 _); have e31 := e29.trans x30; obtain ⟨r32, hr32, H19⟩ := bsi H19; refine wss rfl rfl rfl (stp_call (vs := [(u8 c26)]) Try.func61 rfl rfl rfl (ar1 rfl) (ref05_Box_calls c26  r32 _  hr32) ?_); rintro _ w32 ⟨rfl, x32⟩; refine ⟨_, rfl, x32, ?_⟩; replace i17 := i17.lift (Lift.ext x32 _); replace o0_9 := o0_9.extL (Sc.stab _) x32 (Lift.ext x32 _); have e33 := e31.trans x32; obtain ⟨r34, hr34, H19⟩ := bsi H19; refine wsc rfl (by kernel_rfl) rfl rfl (stp_call (vs := [(u8 c27)]) Try.func61 rfl rfl rfl (ar1 rfl) (ref05_Box_calls c27  r34 _  hr34) ?_); rintro _ w34 ⟨rfl, x34⟩; refine ⟨_, rfl, ?_⟩; replace i17 := i17.lift (Lift.ext x34 _); replace o0_9 := o0_9.extL (Sc.stab _) x34 (Lift.ext x34 _); have e35 := e33.trans x34
          refine wsc rfl (by kernel_rfl) rfl rfl (stp_lit (L := [v4_9]) (R := (Sc u8)) [(u8 ((r28 ^^^ s8.2.1))), (u8 r30), (u8 r32), (u8 r34)] ([(r28 ^^^ s8.2.1), r30, r32, r34] : List UInt8) rfl T22 rfl (by exact ⟨rfl, rfl, rfl, rfl, rfl, rfl, rfl, rfl, trivial⟩) rfl (litC u8 (oneC_u8) (us := [(u8 ((r28 ^^^ s8.2.1))), (u8 r30), (u8 r32), (u8 r34)]) (l := ([(r28 ^^^ s8.2.1), r30, r32, r34] : List UInt8)) rfl) rfl (litS u8 (us := [(u8 ((r28 ^^^ s8.2.1))), (u8 r30), (u8 r32), (u8 r34)]) (l := ([(r28 ^^^ s8.2.1), r30, r32, r34] : List UInt8)) rfl) ?_); intro v36 w36 o36 n36 g36 l36; have x36 := grown_ext g36; have i36 : By w36 [v4_9] v36 (([(r28 ^^^ s8.2.1), r30, r32, r34] : List UInt8)) := OwK.slk (Sc.stab _) _ o36 (fun k hk => (Old.cons (Old.nil _) o0_9.lt) k (n36 k hk)) (fun _ h => h.2); replace i17 := i17.lift (Lift.ext x36 _); replace o0_9 := o0_9.extL (Sc.stab _) x36 (Lift.ext x36 _); have e37 := e35.trans x36; refine sa rfl rfl (q_assign (v := v36) rfl rfl) ?_; refine ws_nil ?_; refine W_th <| W_rg <| mv (u8 s8.2.1) rfl s5_9 <| ?_; obtain ⟨r38, hr38, H19⟩ := bsi H19; refine wls rfl rfl (stp_call (vs := [(u8 s8.2.1), (u8 2)]) Try.func62 rfl rfl rfl (ar2 rfl (by exact (cst8 (2 : UInt8) rfl))) (ref02_Mul_calls s8.2.1 (2 : UInt8)  r38 _  hr38) ?_); rintro _ w38 ⟨rfl, x38⟩; refine ⟨_, rfl, ?_⟩; replace i17 := i17.lift (Lift.ext x38 _); replace i36 := i36.lift (Lift.ext x38 _); replace o0_9 := o0_9.extL (Sc.stab _) x38 (Lift.ext x38 _); have e39 := e37.trans x38; refine av (u8 r38) rfl rfl <| wl_nil <| ?_; obtain rfl := osi H19; exact ⟨v36, s3_9, s4_9, rfl, s6_9, rfl, s119_9, e39, o0_9, n0_9, i36⟩
        replace H19 := ifn hb21 H19; refine W_seq <| W_rg <| mv (i64 c1) rfl s3_9 <| wa rfl (q_eqI rfl rfl rfl) <| ?_; refine wlb rfl rfl (q_move (v := (.bool ((decide (c1 = 8))))) rfl rfl) (fun hb40 => ?_) (fun hb40 => ?_)
        · replace H19 := ifp hb40 H19; refine mv (i64 s8.2.2) rfl s6_9 ?_; obtain ⟨c41, hc41, H19⟩ := bsi H19; refine wa rfl (q_remI rfl rfl rfl hc41) <| wa rfl (q_eqI rfl rfl rfl) <| wa rfl (q_pick_t (v := (.bool ((decide (c41 = 4))))) rfl rfl rfl) <| wnt <| ?_; refine W_cond _ rfl rfl (fun hb42 => ?_) (fun hb42 => ?_)
          · replace H19 := ifp hb42 H19; refine W_draw [2, 6, 10, 14] [(0, 0), (1, 0), (2, 1), (4, 0), (5, 0), (6, 1), (8, 0), (9, 0), (10, 1), (12, 0), (13, 0), (14, 1), (3, 2), (7, 2), (11, 2), (15, 2), (16, 2), (17, 0)] mixed (by kernel_rfl) (by kernel_rfl) (by kernel_rfl) (by kernel_rfl) ?_; have x43 := Ext.drew w17; replace i17 := i17.lift (Lift.ext x43 _); replace o0_9 := o0_9.extL (Sc.stab _) x43 (Lift.ext x43 _); have e44 := e18.trans x43; refine sv v17 rfl rfl rfl ?_; obtain ⟨c45, hc45, H19⟩ := bsi H19; refine sa rfl rfl (q_adr rfl T22 rfl rfl i17 hc45) <| sq rfl rfl (q_loadS rfl T22 rfl i17 hc45) <| sv v17 rfl rfl rfl <| ?_; obtain ⟨c46, hc46, H19⟩ := bsi H19; refine sa rfl rfl (q_adr rfl T22 rfl rfl i17 hc46) <| sq rfl rfl (q_loadS rfl T22 rfl i17 hc46) <| sv v17 rfl rfl rfl <| ?_; obtain ⟨c47, hc47, H19⟩ := bsi H19; refine sa rfl rfl (q_adr rfl T22 rfl rfl i17 hc47) <| sq rfl rfl (q_loadS rfl T22 rfl i17 hc47) <| sv v17 rfl rfl rfl <| ?_; obtain ⟨c48, hc48, H19⟩ := bsi H19; refine sa rfl rfl (q_adr rfl T22 rfl rfl i17 hc48) <| sq rfl rfl (q_loadS rfl T22 rfl i17 hc48) <| ?_; obtain ⟨r49, hr49, H19⟩ := bsi H19; refine wss rfl rfl rfl (stp_call (vs := [(u8 c45)]) Try.func61 rfl rfl rfl (ar1 rfl) (ref05_Box_calls c45  r49 _  hr49) ?_); rintro _ w49 ⟨rfl, x49⟩; refine ⟨_, rfl, x49, ?_⟩; replace i17 := i17.lift (Lift.ext x49 _); replace o0_9 := o0_9.extL (Sc.stab _) x49 (Lift.ext x49 _); have e50 := e44.trans x49; obtain ⟨r51, hr51, H19⟩ := bsi H19; refine wss rfl rfl rfl (stp_call (vs := [(u8 c46)]) Try.func61 rfl rfl rfl (ar1 rfl) (ref05_Box_calls c46  r51 _  hr51) ?_); rintro _ w51 ⟨rfl, x51⟩; refine ⟨_, rfl, x51, ?_⟩; replace i17 := i17.lift (Lift.ext x51 _); replace o0_9 := o0_9.extL (Sc.stab _) x51 (Lift.ext x51 _); have e52 := e50.trans x51; obtain ⟨r53, hr53, H19⟩ := bsi H19; refine wss rfl rfl rfl (stp_call (vs := [(u8 c47)]) Try.func61 rfl rfl rfl (ar1 rfl) (ref05_Box_calls c47  r53 _  hr53) ?_); rintro _ w53 ⟨rfl, x53⟩; refine ⟨_, rfl, x53, ?_⟩; replace i17 := i17.lift (Lift.ext x53 _); replace o0_9 := o0_9.extL (Sc.stab _) x53 (Lift.ext x53 _); have e54 := e52.trans x53; obtain ⟨r55, hr55, H19⟩ := bsi H19; refine wsc rfl (by kernel_rfl) rfl rfl (stp_call (vs := [(u8 c48)]) Try.func61 rfl rfl rfl (ar1 rfl) (ref05_Box_calls c48  r55 _  hr55) ?_); rintro _ w55 ⟨rfl, x55⟩; refine ⟨_, rfl, ?_⟩; replace i17 := i17.lift (Lift.ext x55 _); replace o0_9 := o0_9.extL (Sc.stab _) x55 (Lift.ext x55 _); have e56 := e54.trans x55; refine wsc rfl (by kernel_rfl) rfl rfl (stp_lit (L := [v4_9]) (R := (Sc u8)) [(u8 r49), (u8 r51), (u8 r53), (u8 r55)] ([r49, r51, r53, r55] : List UInt8) rfl T22 rfl (by exact ⟨rfl, rfl, rfl, rfl, rfl, rfl, rfl, rfl, trivial⟩) rfl (litC u8 (oneC_u8) (us := [(u8 r49), (u8 r51), (u8 r53), (u8 r55)]) (l := ([r49, r51, r53, r55] : List UInt8)) rfl) rfl (litS u8 (us := [(u8 r49), (u8 r51), (u8 r53), (u8 r55)]) (l := ([r49, r51, r53, r55] : List UInt8)) rfl) ?_)
            intro v57 w57 o57 n57 g57 l57; have x57 := grown_ext g57; have i57 : By w57 [v4_9] v57 (([r49, r51, r53, r55] : List UInt8)) := OwK.slk (Sc.stab _) _ o57 (fun k hk => (Old.cons (Old.nil _) o0_9.lt) k (n57 k hk)) (fun _ h => h.2); replace i17 := i17.lift (Lift.ext x57 _); replace o0_9 := o0_9.extL (Sc.stab _) x57 (Lift.ext x57 _); have e58 := e56.trans x57; refine sa rfl rfl (q_assign (v := v57) rfl rfl) ?_; refine ws_nil ?_; obtain rfl := osi H19; exact ⟨v57, s3_9, s4_9, s5_9, s6_9, rfl, s119_9, e58, o0_9, n0_9, i57⟩
          replace H19 := ifn hb42 H19; refine W_skip ?_; obtain rfl := osi H19; exact ⟨v17, s3_9, s4_9, s5_9, s6_9, rfl, s119_9, e18, o0_9, n0_9, i17⟩
        replace H19 := ifn hb40 H19; refine wlk rfl rfl <| wlk rfl rfl <| wlk rfl rfl <| wa rfl (q_pick_f (v := (.bool false)) rfl rfl rfl) <| wnt <| ?_; refine W_cond false rfl rfl (fun hb => by cases hb) (fun _ => ?_); refine W_skip ?_; obtain rfl := osi H19; exact ⟨v17, s3_9, s4_9, s5_9, s6_9, rfl, s119_9, e18, o0_9, n0_9, i17⟩
      rintro _ w59 ⟨v7_59, s3_59, s4_59, s5_59, s6_59, s7_59, s119_59, hE59, o0_59, n0_59, i0_59⟩; refine W_th <| W_seq <| W_rg <| av (i64 0) rfl rfl <| wnt <| ?_; obtain ⟨x60, G60, H8⟩ := bsi H8; refine W_mid (fun f w => ∃ v4_75 : Value, f 3 = (i64 c1) ∧ f 4 = v4_75 ∧ f 5 = (u8 x19.1) ∧ f 6 = (i64 s8.2.2) ∧ f 119 = undef ∧ Ext w0 w ∧ OwK (Sc u8) w [v4_75] 5 v4_75 x60 ∧ Nw w0 v4_75) ?_ ?_
      · refine W_block ?_; refine W_loop (fun s60 f w => ∃ v4_73 : Value, f 3 = (i64 c1) ∧ f 4 = v4_73 ∧ f 5 = (u8 x19.1) ∧ f 6 = (i64 s8.2.2) ∧ f 7 = v7_59 ∧ f 8 = (i64 s60.2) ∧ f 119 = undef ∧ Ext w0 w ∧ OwK (Sc u8) w [v4_73] 5 v4_73 s60.1 ∧ Nw w0 v4_73 ∧ By w [v4_73] v7_59 x19.2) G60 ?_ ?_
        · exact ⟨v4_9, s3_59, s4_59, s5_59, s6_59, s7_59, rfl, s119_59, hE59, o0_59, n0_59, i0_59⟩
        rintro s60 _ _ w61 ⟨v4_61, s3_61, s4_61, s5_61, s6_61, s7_61, s8_61, s119_61, hE61, o0_61, n0_61, i0_61⟩ H60 hr60; refine W_seq <| W_seq <| W_rg <| mv (i64 s60.2) rfl s8_61 <| wa rfl (q_ltI rfl rfl rfl) <| wnt <| ?_; refine W_cond _ rfl rfl (fun hb62 => ?_) (fun hb62 => ?_)
        · replace H60 := ifp hb62 H60; refine W_skip <| W_th <| W_seq <| W_block <| ?_; refine W_draw [9, 13] [(0, 0), (1, 0), (2, 0), (3, 0), (4, 0), (5, 0), (6, 0), (7, 0), (8, 0), (9, 1), (10, 0), (11, 0), (12, 0), (13, 1), (14, 0), (15, 2), (16, 2), (17, 0)] mixed (by kernel_rfl) (by kernel_rfl) (by kernel_rfl) (by kernel_rfl) ?_; have x63 := Ext.drew w61; replace i0_61 := i0_61.lift (Lift.ext x63 _); replace o0_61 := o0_61.extL (Sc.stab _) x63 (Lift.ext x63 _); have e65 := hE61.trans x63; refine sv v4_61 rfl rfl s4_61 <| sv v4_61 rfl rfl s4_61 <| sv (i64 s8.2.2) rfl rfl s6_61 <| sv (i64 c1) rfl rfl s3_61 <| sa rfl rfl (q_subI rfl rfl rfl) <| sa rfl rfl (q_mulI rfl rfl rfl) <| sv (i64 s60.2) rfl rfl s8_61 <| sa rfl rfl (q_addI rfl rfl rfl) <| ?_; obtain ⟨c66, hc66, H60⟩ := bsi H60; refine sa rfl rfl (q_adr rfl T22 rfl rfl (o0_61.rd (Sc.stab _)) hc66) <| sq rfl rfl (q_loadS rfl T22 rfl (o0_61.rd (Sc.stab _)) hc66) <| sv v7_59 rfl rfl s7_61 <| sv (i64 s60.2) rfl rfl s8_61 <| ?_; obtain ⟨c67, hc67, H60⟩ := bsi H60; refine sa rfl rfl (q_adr rfl T22 rfl rfl i0_61 hc67) <| sq rfl rfl (q_loadS rfl T22 rfl i0_61 hc67) <| sa rfl rfl (q_xor8 rfl rfl rfl) <| ?_; refine wsc rfl (by kernel_rfl) rfl rfl (stp_lit (L := [v4_61]) (R := (Sc u8)) [(u8 ((c66 ^^^ c67)))] ([(c66 ^^^ c67)] : List UInt8) rfl T22 rfl (by exact ⟨rfl, rfl, trivial⟩) rfl (litC u8 (oneC_u8) (us := [(u8 ((c66 ^^^ c67)))]) (l := ([(c66 ^^^ c67)] : List UInt8)) rfl) rfl (litS u8 (us := [(u8 ((c66 ^^^ c67)))]) (l := ([(c66 ^^^ c67)] : List UInt8)) rfl) ?_); intro v68 w68 o68 n68 g68 l68; have x68 := grown_ext g68; have i68 : By w68 [v4_61] v68 (([(c66 ^^^ c67)] : List UInt8)) := OwK.slk (Sc.stab _) _ o68 (fun k hk => (Old.cons (Old.nil _) o0_61.lt) k (n68 k hk)) (fun _ h => h.2); replace i0_61 := i0_61.lift (Lift.ext x68 _); replace o0_61 := o0_61.extL (Sc.stab _) x68 (Lift.ext x68 _); have e69 := e65.trans x68; obtain ⟨c70, hc70, H60⟩ := bsi H60; refine wsc rfl (by kernel_rfl) rfl rfl (stp_append (R := (Sc u8)) (v := v4_61) (u := v68) (Sc.stab _) [] [] rfl T22 rfl rfl o0_61 i68 (fun _ _ h => h) hc70 oc_u8 ?_); intro v70 w70 o70 g70 nx70 l70; replace i0_61 := i0_61.lift l70; replace i68 := i68.lift l70; have e71 := e69.grown g70 n0_61; have n72 := Nw.nxt e69 n0_61 nx70; refine sa rfl rfl (q_assign (v := v70) rfl rfl) ?_; refine ws_nil ?_; refine bk_n <| W_th <| W_rg <| mv (i64 s60.2) rfl s8_61 <| wa rfl (q_addI rfl rfl rfl) <| av (i64 ((wI (s60.2 + 1)))) rfl rfl <| ?_
          refine wl_nil ?_; obtain rfl := osi H60; exact ⟨_, rfl, v70, s3_61, rfl, s5_61, s6_61, s7_61, rfl, s119_61, e71, o70, n72, i0_61⟩
        replace H60 := ifn hb62 H60; refine W_exit <| th_x <| ?_; obtain rfl := osi H60; obtain rfl := hr60 _ rfl; refine th_x <| bk_x <| ?_; exact ⟨v4_61, s3_61, s4_61, s5_61, s6_61, s119_61, hE61, o0_61, n0_61⟩
      rintro _ w74 ⟨v4_74, s3_74, s4_74, s5_74, s6_74, s119_74, hE74, o0_74, n0_74⟩; refine bk_n <| W_th <| W_rg <| mv (i64 s8.2.2) rfl s6_74 <| wa rfl (q_addI rfl rfl rfl) <| av (i64 ((wI (s8.2.2 + 1)))) rfl rfl <| wl_nil <| ?_; obtain rfl := osi H8; exact ⟨_, rfl, v4_74, s3_74, s4_74, s5_74, rfl, s119_74, hE74, o0_74, n0_74⟩
    replace H8 := ifn hb10 H8; refine W_exit <| th_x <| ?_; obtain rfl := osi H8; obtain rfl := hr8 _ rfl; refine th_x <| bk_x <| ?_; exact ⟨v4_9, s4_9, s119_9, hE9, o0_9, n0_9⟩
  rintro _ w78 ⟨v4_78, s4_78, s119_78, hE78, o0_78, n0_78⟩; refine W_th <| W_seq <| W_rg <| mv v4_78 rfl s4_78 <| av v4_78 rfl rfl <| wnt <| W_ret <| ?_; obtain rfl := osi H; refine rt1 v4_78 rfl rfl rfl s119_78 ?_; exact ⟨v4_78, rfl, hE78, n0_78, (o0_78.weak (Sc.stab _) (fun _ _ => trivial))⟩
noncomputable def ref05_Encrypt (a0key : List UInt8) (a1b : List UInt8) : Option (List UInt8) :=
((ref05_Keys a0key).bind fun r1 =>
((divI ((r1.length : Int)) 16).bind fun c4 =>
((lenA 16 ((List.replicate 16 (0 : UInt8)))).bind fun c9 =>
((iterC (fun s11 : List UInt8 × Int =>
(if s11.2 < 16 then
((idx a1b s11.2).bind fun c16 =>
((idx r1 s11.2).bind fun c17 =>
((lenA 16 s11.1).bind fun c18 =>
((idx s11.1 s11.2).bind fun c19 => some (.inl ((s11.1.set (s11.2 : Int).toNat ((c16 ^^^ c17))), (wI (s11.2 + 1))))))))
else some (.inr s11.1))) ((List.replicate 16 (0 : UInt8)), 0)).bind fun x11 =>
((iterC (fun s24 : List UInt8 × Int =>
(if s24.2 ≤ (wI (c4 - 1)) then
((lenA 16 ((List.replicate 16 (0 : UInt8)))).bind fun c32 =>
((iterC (fun s34 : List UInt8 × Int =>
(if s34.2 < 4 then
((iterC (fun s37 : List UInt8 × Int =>
(if s37.2 < 4 then
((remI ((wI (s34.2 + s37.2))) 4).bind fun c40 =>
((lenA 16 s24.1).bind fun c41 =>
((idx s24.1 ((wI ((wI (4 * c40)) + s37.2)))).bind fun c42 =>
((ref05_Box c42).bind fun r43 =>
((lenA 16 s37.1).bind fun c45 =>
((idx s37.1 ((wI ((wI (4 * s34.2)) + s37.2)))).bind fun c46 => some (.inl ((s37.1.set ((wI ((wI (4 * s34.2)) + s37.2)) : Int).toNat r43), (wI (s37.2 + 1))))))))))
else some (.inr s37.1))) (s34.1, 0)).bind fun x37 => some (.inl (x37, (wI (s34.2 + 1)))))
else some (.inr s34.1))) ((List.replicate 16 (0 : UInt8)), 0)).bind fun x34 =>
(((if s24.2 < (wI (c4 - 1)) then
((lenA 16 ((List.replicate 16 (0 : UInt8)))).bind fun c62 =>
((iterC (fun s65 : List UInt8 × Int =>
(if s65.2 < 4 then
((iterC (fun s68 : List UInt8 × Int =>
(if s68.2 < 4 then
((lenA 16 x34).bind fun c73 =>
((idx x34 ((wI ((wI (4 * s65.2)) + s68.2)))).bind fun c74 =>
((remI ((wI (s68.2 + 1))) 4).bind fun c75 =>
((idx x34 ((wI ((wI (4 * s65.2)) + c75)))).bind fun c76 =>
((remI ((wI (s68.2 + 2))) 4).bind fun c77 =>
((idx x34 ((wI ((wI (4 * s65.2)) + c77)))).bind fun c78 =>
((remI ((wI (s68.2 + 3))) 4).bind fun c79 =>
((idx x34 ((wI ((wI (4 * s65.2)) + c79)))).bind fun c80 =>
((ref02_Mul (2 : UInt8) c74).bind fun r81 =>
((ref02_Mul (3 : UInt8) c76).bind fun r83 =>
((lenA 16 s68.1).bind fun c85 =>
((idx s68.1 ((wI ((wI (4 * s65.2)) + s68.2)))).bind fun c86 => some (.inl ((s68.1.set ((wI ((wI (4 * s65.2)) + s68.2)) : Int).toNat ((((r81 ^^^ r83) ^^^ c78) ^^^ c80))), (wI (s68.2 + 1))))))))))))))))
else some (.inr s68.1))) (s65.1, 0)).bind fun x68 => some (.inl (x68, (wI (s65.2 + 1)))))
else some (.inr s65.1))) ((List.replicate 16 (0 : UInt8)), 0)).bind fun x65 =>
((lenA 16 x65).bind fun c94 =>
((lenA 16 x34).bind fun c96 => some x65))))
else some x34)).bind fun x54 =>
((iterC (fun s100 : List UInt8 × Int =>
(if s100.2 < 16 then
((lenA 16 x54).bind fun c105 =>
((idx x54 s100.2).bind fun c106 =>
((idx r1 ((wI ((wI (16 * s24.2)) + s100.2)))).bind fun c107 =>
((lenA 16 s100.1).bind fun c108 =>
((idx s100.1 s100.2).bind fun c109 => some (.inl ((s100.1.set (s100.2 : Int).toNat ((c106 ^^^ c107))), (wI (s100.2 + 1)))))))))
else some (.inr s100.1))) (s24.1, 0)).bind fun x100 => some (.inl (x100, (wI (s24.2 + 1))))))))
else some (.inr s24.1))) (x11, 1)).bind fun x24 =>
((lenA 16 x24).bind fun c119 => some x24))))))
theorem ref05_Encrypt_calls (a0key : List UInt8) (a1b : List UInt8) (p0 : Value) (p1 : Value) (r : List UInt8) (w0 : World) (hp0 : By w0 [] p0 a0key) (hp1 : By w0 [] p1 a1b) (H : ref05_Encrypt a0key a1b = some r) :
    Calls Try.prog 40 [p0, p1].toArray w0 (fun e w' => ∃ u0 : Value, e = .returned u0 ∧ Ext w0 w' ∧ Nw w0 u0 ∧ By w' [] u0 r) := by
  have hE : Ext w0 w0 := Ext.refl w0; unfold ref05_Encrypt at H; refine calls_W (n := 139) Try.func40 rfl rfl rfl ?_; refine W_seq <| W_rg <| av (.slice none 0 0) rfl rfl <| wnt <| W_seq <| W_rg <| mv p0 rfl rfl <| ?_; obtain ⟨r1, hr1, H⟩ := bsi H; refine wls rfl rfl (stp_call (vs := [p0]) Try.func60 rfl rfl rfl (ar1 rfl) (ref05_Keys_calls a0key p0 r1 _ (hp0.lift (Lift.ext hE _)) hr1) ?_); rintro _ w1 ⟨v1, rfl, x1, n1_0, o1_0⟩; refine ⟨_, rfl, ?_⟩; have n2 := Nw.ext hE n1_0; have i1_0 : By w1 [] v1 r1 := OwK.slk (Sc.stab _) _ (OwK.scal o1_0 (v1 :: [])) (fun k hk => (Old.nil _) k (n1_0 k hk)) (fun _ h => h.2); have e3 := hE.trans x1; refine av v1 rfl rfl <| wnt <| W_seq <| W_rg <| mv v1 rfl rfl <| wa rfl (q_len rfl T22.sl rfl i1_0) <| ?_; obtain ⟨c4, hc4, H⟩ := bsi H; refine wa rfl (q_divI rfl rfl rfl hc4) <| wa rfl (q_subI rfl rfl rfl) <| av (i64 ((wI (c4 - 1)))) rfl rfl <| wnt <| W_seq <| W_rg <| wa rfl (q_buildA0 (l := ([] : List UInt8)) (us := []) (z := (0 : UInt8)) rfl A89 Z89 (by exact trivial) rfl rfl cel_u8) <| ?_; refine wls rfl rfl (sal u8 (List.replicate 16 (0 : UInt8)) [] rfl Z89 ?_); intro g5 w5 o5 n5 g5r l5; have x5 := grown_ext g5r; replace i1_0 := i1_0.lift (Lift.call _ x5 n5); have n7 := Nw.ext e3 n5; have e6 := e3.trans x5; obtain ⟨c9, hc9, H⟩ := bsi H; refine wln rfl rfl (stp_storeA [] [] rfl A89 rfl rfl (lenA_eq hc9) (lenA_eq hc9) o5 one_u8 ?_); intro w8 o8 g8 l8; replace i1_0 := i1_0.lift l8; have e10 := e6.grown g8 n7; refine wnt <| W_seq <| W_seq <| W_rg <| mv (i64 0) rfl rfl <| wnt <| ?_; obtain ⟨x11, G11, H⟩ := bsi H; refine W_mid (fun f w => f 5 = v1 ∧ f 6 = (i64 ((wI (c4 - 1)))) ∧ f 7 = (bp g5) ∧ f 139 = undef ∧ Ext w0 w ∧ Blk w g5 89 (ac u8 x11) ∧ Nw w0 (bp g5) ∧ By w [(bp g5)] v1 r1) ?_ ?_
  · refine W_block ?_; refine W_loop (fun s11 f w => f 1 = p1 ∧ f 5 = v1 ∧ f 6 = (i64 ((wI (c4 - 1)))) ∧ f 7 = (bp g5) ∧ f 24 = (i64 s11.2) ∧ f 139 = undef ∧ Ext w0 w ∧ Blk w g5 89 (ac u8 s11.1) ∧ Nw w0 (bp g5) ∧ By w [(bp g5)] v1 r1) G11 ?_ ?_
    · exact ⟨rfl, rfl, rfl, rfl, rfl, rfl, e10, o8, n7, i1_0⟩
    rintro s11 _ _ w12 ⟨s1_12, s5_12, s6_12, s7_12, s24_12, s139_12, hE12, o0_12, n0_12, i0_12⟩ H11 hr11; refine W_seq <| W_rg <| wa rfl (q_ltI rfl s24_12 rfl) <| wnt <| W_seq <| ?_; refine W_cond _ rfl rfl (fun hb13 => ?_) (fun hb13 => ?_)
    · replace H11 := ifp hb13 H11; refine W_skip <| W_th <| W_seq <| W_block <| W_seq <| W_rg <| mv (i64 s11.2) rfl s24_12 <| av (i64 s11.2) rfl rfl <| ?_; refine wnt ?_; refine W_draw [4, 8] [(0, 0), (1, 0), (2, 0), (3, 0), (4, 1), (5, 0), (6, 0), (7, 0), (8, 1), (9, 0), (10, 0), (11, 2)] mixed (by kernel_rfl) (by kernel_rfl) (by kernel_rfl) (by kernel_rfl) ?_; have x14 := Ext.drew w12; replace i0_12 := i0_12.lift (Lift.ext x14 _); replace o0_12 := o0_12.ext x14; have e15 := hE12.trans x14; refine sv (i64 s11.2) rfl rfl rfl <| sv p1 rfl rfl s1_12 <| sv (i64 s11.2) rfl rfl rfl <| ?_; obtain ⟨c16, hc16, H11⟩ := bsi H11; refine sa rfl rfl (q_adr rfl T22 rfl rfl (hp1.lift (Lift.ext e15 _)) hc16) <| sq rfl rfl (q_loadS rfl T22 rfl (hp1.lift (Lift.ext e15 _)) hc16) <| sv v1 rfl rfl s5_12 <| sv (i64 s11.2) rfl rfl rfl <| ?_; obtain ⟨c17, hc17, H11⟩ := bsi H11; refine sa rfl rfl (q_adr rfl T22 rfl rfl i0_12 hc17) <| sq rfl rfl (q_loadS rfl T22 rfl i0_12 hc17) <| sa rfl rfl (q_xor8 rfl rfl rfl) <| ?_; obtain ⟨c18, hc18, H11⟩ := bsi H11; obtain ⟨c19, hc19, H11⟩ := bsi H11; refine sa rfl rfl (q_ixA (m := 0) rfl A89 (by exact s7_12) rfl (lenA_eq hc18) hc19) ?_; refine wsn rfl (by kernel_rfl) rfl rfl (stp_storeX (b := (c16 ^^^ c17)) [] [] rfl A89 rfl rfl o0_12 hc19 (one_u8 _) ?_); intro w20 o20 g20 l20; replace i0_12 := i0_12.lift l20; have e21 := e15.grown g20 n0_12; refine ws_nil ?_; refine bk_n <| W_th <| W_rg <| wa rfl (q_addI rfl s24_12 rfl) <| mv (i64 ((wI (s11.2 + 1)))) rfl rfl <| wl_nil <| ?_; obtain rfl := osi H11; exact ⟨_, rfl, s1_12, s5_12, s6_12, s7_12, rfl, s139_12, e21, o20, n0_12, i0_12⟩
    replace H11 := ifn hb13 H11; refine W_exit <| th_x <| ?_; obtain rfl := osi H11; obtain rfl := hr11 _ rfl; refine th_x <| bk_x <| ?_; exact ⟨s5_12, s6_12, s7_12, s139_12, hE12, o0_12, n0_12, i0_12⟩
  rintro _ w23 ⟨s5_23, s6_23, s7_23, s139_23, hE23, o0_23, n0_23, i0_23⟩; refine W_th <| W_seq <| W_seq <| W_rg <| av (i64 1) rfl rfl <| wnt <| ?_; obtain ⟨x24, G24, H⟩ := bsi H; refine W_mid (fun f w => f 7 = (bp g5) ∧ f 139 = undef ∧ Ext w0 w ∧ Blk w g5 89 (ac u8 x24) ∧ Nw w0 (bp g5)) ?_ ?_
  · refine W_block ?_; refine W_loop (fun s24 f w => f 5 = v1 ∧ f 6 = (i64 ((wI (c4 - 1)))) ∧ f 7 = (bp g5) ∧ f 9 = (i64 s24.2) ∧ f 139 = undef ∧ Ext w0 w ∧ Blk w g5 89 (ac u8 s24.1) ∧ Nw w0 (bp g5) ∧ By w [(bp g5)] v1 r1) G24 ?_ ?_
    · exact ⟨s5_23, s6_23, s7_23, rfl, s139_23, hE23, o0_23, n0_23, i0_23⟩
    rintro s24 _ _ w25 ⟨s5_25, s6_25, s7_25, s9_25, s139_25, hE25, o0_25, n0_25, i0_25⟩ H24 hr24; refine W_seq <| W_seq <| W_rg <| mv (i64 s24.2) rfl s9_25 <| mv (i64 ((wI (c4 - 1)))) rfl s6_25 <| wa rfl (q_leI rfl rfl rfl) <| wnt <| ?_; refine W_cond _ rfl rfl (fun hb26 => ?_) (fun hb26 => ?_)
    · replace H24 := ifp hb26 H24; refine W_skip <| W_th <| W_seq <| W_block <| W_seq <| W_rg <| wa rfl (q_buildA0 (l := ([] : List UInt8)) (us := []) (z := (0 : UInt8)) rfl A89 Z89 (by exact trivial) rfl rfl cel_u8) <| ?_; refine wls rfl rfl (sal u8 (List.replicate 16 (0 : UInt8)) [(bp g5)] rfl Z89 ?_); intro g27 w27 o27 n27 g27r l27; have x27 := grown_ext g27r; have q28 : Nq (bp g5) (bp g27) := o0_25.nq n27; replace i0_25 := i0_25.lift (Lift.call _ x27 n27); replace o0_25 := o0_25.ext x27; have n30 := Nw.ext hE25 n27; have e29 := hE25.trans x27; obtain ⟨c32, hc32, H24⟩ := bsi H24; refine wln rfl rfl (stp_storeA [] [(bp g5)] rfl A89 rfl rfl (lenA_eq hc32) (lenA_eq hc32) o27 one_u8 ?_); intro w31 o31 g31 l31; replace i0_25 := i0_25.lift l31; replace o0_25 := o0_25.other g31 q28; have e33 := e29.grown g31 n30; refine wnt <| W_seq <| W_seq <| W_rg <| av (i64 0) rfl rfl <| wnt <| ?_; obtain ⟨x34, G34, H24⟩ := bsi H24; refine W_mid (fun f w => f 5 = v1 ∧ f 6 = (i64 ((wI (c4 - 1)))) ∧ f 7 = (bp g5) ∧ f 9 = (i64 s24.2) ∧ f 10 = (bp g27) ∧ f 139 = undef ∧ Ext w0 w ∧ Blk w g5 89 (ac u8 s24.1) ∧ Nw w0 (bp g5) ∧ Blk w g27 89 (ac u8 x34) ∧ Nw w0 (bp g27) ∧ Nq (bp g5) (bp g27) ∧ By w [(bp g5), (bp g27)] v1 r1) ?_ ?_
      · refine W_block ?_; refine W_loop (fun s34 f w => f 5 = v1 ∧ f 6 = (i64 ((wI (c4 - 1)))) ∧ f 7 = (bp g5) ∧ f 9 = (i64 s24.2) ∧ f 10 = (bp g27) ∧ f 11 = (i64 s34.2) ∧ f 139 = undef ∧ Ext w0 w ∧ Blk w g5 89 (ac u8 s24.1) ∧ Nw w0 (bp g5) ∧ Blk w g27 89 (ac u8 s34.1) ∧ Nw w0 (bp g27) ∧ Nq (bp g5) (bp g27) ∧ By w [(bp g5), (bp g27)] v1 r1) G34 ?_ ?_
        · exact ⟨s5_25, s6_25, s7_25, s9_25, rfl, rfl, s139_25, e33, o0_25, n0_25, o31, n30, q28, (i0_25.lift (Lift.sub (fun _ h => ⟨h.2.1, h.1, trivial⟩)))⟩
        rintro s34 _ _ w35 ⟨s5_35, s6_35, s7_35, s9_35, s10_35, s11_35, s139_35, hE35, o0_35, n0_35, o1_35, n1_35, q0_1_35, i0_35⟩ H34 hr34; refine W_seq <| W_seq <| W_rg <| mv (i64 s34.2) rfl s11_35 <| wa rfl (q_ltI rfl rfl rfl) <| wnt <| ?_; refine W_cond _ rfl rfl (fun hb36 => ?_) (fun hb36 => ?_)
        · replace H34 := ifp hb36 H34; refine W_skip <| W_th <| W_seq <| W_block <| W_seq <| W_rg <| av (i64 0) rfl rfl <| wnt <| ?_; obtain ⟨x37, G37, H34⟩ := bsi H34; refine W_mid (fun f w => f 5 = v1 ∧ f 6 = (i64 ((wI (c4 - 1)))) ∧ f 7 = (bp g5) ∧ f 9 = (i64 s24.2) ∧ f 10 = (bp g27) ∧ f 11 = (i64 s34.2) ∧ f 139 = undef ∧ Ext w0 w ∧ Blk w g5 89 (ac u8 s24.1) ∧ Nw w0 (bp g5) ∧ Blk w g27 89 (ac u8 x37) ∧ Nw w0 (bp g27) ∧ Nq (bp g5) (bp g27) ∧ By w [(bp g5), (bp g27)] v1 r1) ?_ ?_
          · refine W_block ?_; refine W_loop (fun s37 f w => f 5 = v1 ∧ f 6 = (i64 ((wI (c4 - 1)))) ∧ f 7 = (bp g5) ∧ f 9 = (i64 s24.2) ∧ f 10 = (bp g27) ∧ f 11 = (i64 s34.2) ∧ f 12 = (i64 s37.2) ∧ f 139 = undef ∧ Ext w0 w ∧ Blk w g5 89 (ac u8 s24.1) ∧ Nw w0 (bp g5) ∧ Blk w g27 89 (ac u8 s37.1) ∧ Nw w0 (bp g27) ∧ Nq (bp g5) (bp g27) ∧ By w [(bp g5), (bp g27)] v1 r1) G37 ?_ ?_
            · exact ⟨s5_35, s6_35, s7_35, s9_35, s10_35, s11_35, rfl, s139_35, hE35, o0_35, n0_35, o1_35, n1_35, q0_1_35, i0_35⟩
            rintro s37 _ _ w38 ⟨s5_38, s6_38, s7_38, s9_38, s10_38, s11_38, s12_38, s139_38, hE38, o0_38, n0_38, o1_38, n1_38, q0_1_38, i0_38⟩ H37 hr37; refine W_seq <| W_seq <| W_rg <| mv (i64 s37.2) rfl s12_38 <| wa rfl (q_ltI rfl rfl rfl) <| wnt <| ?_; refine W_cond _ rfl rfl (fun hb39 => ?_) (fun hb39 => ?_)
            · replace H37 := ifp hb39 H37; refine W_skip <| W_th <| W_seq <| W_block <| W_rg <| mv (i64 s34.2) rfl s11_38 <| wa rfl (q_mulI rfl rfl rfl) <| mv (i64 s37.2) rfl s12_38 <| ?_; refine wa rfl (q_addI rfl rfl rfl) <| mv (i64 s34.2) rfl s11_38 <| mv (i64 s37.2) rfl s12_38 <| wa rfl (q_addI rfl rfl rfl) <| ?_; obtain ⟨c40, hc40, H37⟩ := bsi H37; refine wa rfl (q_remI rfl rfl rfl hc40) <| wa rfl (q_mulI rfl rfl rfl) <| mv (i64 s37.2) rfl s12_38 <| wa rfl (q_addI rfl rfl rfl) <| ?_; obtain ⟨c41, hc41, H37⟩ := bsi H37; obtain ⟨c42, hc42, H37⟩ := bsi H37; refine wa rfl (q_ixA (m := 0) rfl A89 (by exact s7_38) rfl (lenA_eq hc41) hc42) <| wq rfl (q_loadE (m := 0) rfl A89 rfl o0_38 (seg_self _ _) hc42) <| ?_; obtain ⟨r43, hr43, H37⟩ := bsi H37; refine wls rfl rfl (stp_call (vs := [(u8 c42)]) Try.func61 rfl rfl rfl (ar1 rfl) (ref05_Box_calls c42  r43 _  hr43) ?_); rintro _ w43 ⟨rfl, x43⟩; refine ⟨_, rfl, ?_⟩; replace i0_38 := i0_38.lift (Lift.ext x43 _); replace o0_38 := o0_38.ext x43; replace o1_38 := o1_38.ext x43; have e44 := hE38.trans x43; obtain ⟨c45, hc45, H37⟩ := bsi H37; obtain ⟨c46, hc46, H37⟩ := bsi H37; refine wa rfl (q_ixA (m := 0) rfl A89 (by exact s10_38) rfl (lenA_eq hc45) hc46) ?_; refine wln rfl rfl (stp_storeX (b := r43) [(bp g5)] [] rfl A89 rfl rfl o1_38 hc46 (one_u8 _) ?_); intro w47 o47 g47 l47; replace i0_38 := i0_38.lift l47; replace o0_38 := o0_38.other g47 q0_1_38; have e48 := e44.grown g47 n1_38; refine wl_nil <| bk_n <| W_th <| W_rg <| mv (i64 s37.2) rfl s12_38 <| wa rfl (q_addI rfl rfl rfl) <| av (i64 ((wI (s37.2 + 1)))) rfl rfl <| wl_nil <| ?_; obtain rfl := osi H37; exact ⟨_, rfl, s5_38, s6_38, s7_38, s9_38, s10_38, s11_38, rfl, s139_38, e48, o0_38, n0_38, o47, n1_38, q0_1_38, i0_38⟩
            replace H37 := ifn hb39 H37; refine W_exit <| th_x <| ?_; obtain rfl := osi H37; obtain rfl := hr37 _ rfl; refine th_x <| bk_x <| ?_; exact ⟨s5_38, s6_38, s7_38, s9_38, s10_38, s11_38, s139_38, hE38, o0_38, n0_38, o1_38, n1_38, q0_1_38, i0_38⟩
          rintro _ w50 ⟨s5_50, s6_50, s7_50, s9_50, s10_50, s11_50, s139_50, hE50, o0_50, n0_50, o1_50, n1_50, q0_1_50, i0_50⟩; refine bk_n <| W_th <| W_rg <| mv (i64 s34.2) rfl s11_50 <| wa rfl (q_addI rfl rfl rfl) <| av (i64 ((wI (s34.2 + 1)))) rfl rfl <| wl_nil <| ?_; obtain rfl := osi H34; exact ⟨_, rfl, s5_50, s6_50, s7_50, s9_50, s10_50, rfl, s139_50, hE50, o0_50, n0_50, o1_50, n1_50, q0_1_50, i0_50⟩
        replace H34 := ifn hb36 H34; refine W_exit <| th_x <| ?_; obtain rfl := osi H34; obtain rfl := hr34 _ rfl; refine th_x <| bk_x <| ?_; exact ⟨s5_35, s6_35, s7_35, s9_35, s10_35, s139_35, hE35, o0_35, n0_35, o1_35, n1_35, q0_1_35, i0_35⟩
      rintro _ w53 ⟨s5_53, s6_53, s7_53, s9_53, s10_53, s139_53, hE53, o0_53, n0_53, o1_53, n1_53, q0_1_53, i0_53⟩; refine W_th <| W_seq <| ?_; obtain ⟨x54, H54, H24⟩ := bsi H24; refine W_mid (fun f w => f 5 = v1 ∧ f 6 = (i64 ((wI (c4 - 1)))) ∧ f 7 = (bp g5) ∧ f 9 = (i64 s24.2) ∧ f 10 = (bp g27) ∧ f 139 = undef ∧ Ext w0 w ∧ Blk w g5 89 (ac u8 s24.1) ∧ Nw w0 (bp g5) ∧ Blk w g27 89 (ac u8 x54) ∧ Nw w0 (bp g27) ∧ Nq (bp g5) (bp g27) ∧ By w [(bp g5), (bp g27)] v1 r1) ?_ ?_
      · refine W_seq <| W_rg <| mv (i64 s24.2) rfl s9_53 <| mv (i64 ((wI (c4 - 1)))) rfl s6_53 <| wa rfl (q_ltI rfl rfl rfl) <| wnt <| ?_; refine W_cond _ rfl rfl (fun hb55 => ?_) (fun hb55 => ?_)
        · replace H54 := ifp hb55 H54; refine W_seq <| W_rg <| wa rfl (q_buildA0 (l := ([] : List UInt8)) (us := []) (z := (0 : UInt8)) rfl A89 Z89 (by exact trivial) rfl rfl cel_u8) <| ?_; refine wls rfl rfl (sal u8 (List.replicate 16 (0 : UInt8)) [(bp g5), (bp g27)] rfl Z89 ?_); intro g56 w56 o56 n56 g56r l56; have x56 := grown_ext g56r; have q57 : Nq (bp g5) (bp g56) := o0_53.nq n56; have q58 : Nq (bp g27) (bp g56) := o1_53.nq n56; replace i0_53 := i0_53.lift (Lift.call _ x56 n56); replace o0_53 := o0_53.ext x56; replace o1_53 := o1_53.ext x56; have n60 := Nw.ext hE53 n56; have e59 := hE53.trans x56; obtain ⟨c62, hc62, H54⟩ := bsi H54; refine wln rfl rfl (stp_storeA [] [(bp g5), (bp g27)] rfl A89 rfl rfl (lenA_eq hc62) (lenA_eq hc62) o56 one_u8 ?_); intro w61 o61 g61 l61; replace i0_53 := i0_53.lift l61; replace o0_53 := o0_53.other g61 q57; replace o1_53 := o1_53.other g61 q58; have e63 := e59.grown g61 n60; refine wnt <| W_seq <| W_seq <| W_rg <| av (i64 0) rfl rfl <| wnt <| ?_; obtain ⟨x65, G65, H54⟩ := bsi H54; refine W_mid (fun f w => f 5 = v1 ∧ f 6 = (i64 ((wI (c4 - 1)))) ∧ f 7 = (bp g5) ∧ f 9 = (i64 s24.2) ∧ f 10 = (bp g27) ∧ f 13 = (bp g56) ∧ f 139 = undef ∧ Ext w0 w ∧ Blk w g5 89 (ac u8 s24.1) ∧ Nw w0 (bp g5) ∧ Blk w g27 89 (ac u8 x34) ∧ Nw w0 (bp g27) ∧ Blk w g56 89 (ac u8 x65) ∧ Nw w0 (bp g56) ∧ Nq (bp g5) (bp g27) ∧ Nq (bp g5) (bp g56) ∧ Nq (bp g27) (bp g56) ∧ By w [(bp g5), (bp g27), (bp g56)] v1 r1) ?_ ?_
          · refine W_block ?_; refine W_loop (fun s65 f w => f 5 = v1 ∧ f 6 = (i64 ((wI (c4 - 1)))) ∧ f 7 = (bp g5) ∧ f 9 = (i64 s24.2) ∧ f 10 = (bp g27) ∧ f 13 = (bp g56) ∧ f 14 = (i64 s65.2) ∧ f 139 = undef ∧ Ext w0 w ∧ Blk w g5 89 (ac u8 s24.1) ∧ Nw w0 (bp g5) ∧ Blk w g27 89 (ac u8 x34) ∧ Nw w0 (bp g27) ∧ Blk w g56 89 (ac u8 s65.1) ∧ Nw w0 (bp g56) ∧ Nq (bp g5) (bp g27) ∧ Nq (bp g5) (bp g56) ∧ Nq (bp g27) (bp g56) ∧ By w [(bp g5), (bp g27), (bp g56)] v1 r1) G65 ?_ ?_
            · exact ⟨s5_53, s6_53, s7_53, s9_53, s10_53, rfl, rfl, s139_53, e63, o0_53, n0_53, o1_53, n1_53, o61, n60, q0_1_53, q57, q58, (i0_53.lift (Lift.sub (fun _ h => ⟨h.2.1, h.2.2.1, h.1, trivial⟩)))⟩
            rintro s65 _ _ w66 ⟨s5_66, s6_66, s7_66, s9_66, s10_66, s13_66, s14_66, s139_66, hE66, o0_66, n0_66, o1_66, n1_66, o2_66, n2_66, q0_1_66, q0_2_66, q1_2_66, i0_66⟩ H65 hr65; refine W_seq <| W_seq <| W_rg <| mv (i64 s65.2) rfl s14_66 <| wa rfl (q_ltI rfl rfl rfl) <| wnt <| ?_; refine W_cond _ rfl rfl (fun hb67 => ?_) (fun hb67 => ?_)
            · replace H65 := ifp hb67 H65; refine W_skip <| W_th <| W_seq <| W_block <| W_seq <| W_rg <| av (i64 0) rfl rfl <| wnt <| ?_; obtain ⟨x68, G68, H65⟩ := bsi H65; refine W_mid (fun f w => f 5 = v1 ∧ f 6 = (i64 ((wI (c4 - 1)))) ∧ f 7 = (bp g5) ∧ f 9 = (i64 s24.2) ∧ f 10 = (bp g27) ∧ f 13 = (bp g56) ∧ f 14 = (i64 s65.2) ∧ f 139 = undef ∧ Ext w0 w ∧ Blk w g5 89 (ac u8 s24.1) ∧ Nw w0 (bp g5) ∧ Blk w g27 89 (ac u8 x34) ∧ Nw w0 (bp g27) ∧ Blk w g56 89 (ac u8 x68) ∧ Nw w0 (bp g56) ∧ Nq (bp g5) (bp g27) ∧ Nq (bp g5) (bp g56) ∧ Nq (bp g27) (bp g56) ∧ By w [(bp g5), (bp g27), (bp g56)] v1 r1) ?_ ?_
              · refine W_block ?_; refine W_loop (fun s68 f w => f 5 = v1 ∧ f 6 = (i64 ((wI (c4 - 1)))) ∧ f 7 = (bp g5) ∧ f 9 = (i64 s24.2) ∧ f 10 = (bp g27) ∧ f 13 = (bp g56) ∧ f 14 = (i64 s65.2) ∧ f 15 = (i64 s68.2) ∧ f 139 = undef ∧ Ext w0 w ∧ Blk w g5 89 (ac u8 s24.1) ∧ Nw w0 (bp g5) ∧ Blk w g27 89 (ac u8 x34) ∧ Nw w0 (bp g27) ∧ Blk w g56 89 (ac u8 s68.1) ∧ Nw w0 (bp g56) ∧ Nq (bp g5) (bp g27) ∧ Nq (bp g5) (bp g56) ∧ Nq (bp g27) (bp g56) ∧ By w [(bp g5), (bp g27), (bp g56)] v1 r1) G68 ?_ ?_
                · exact ⟨s5_66, s6_66, s7_66, s9_66, s10_66, s13_66, s14_66, rfl, s139_66, hE66, o0_66, n0_66, o1_66, n1_66, o2_66, n2_66, q0_1_66, q0_2_66, q1_2_66, i0_66⟩
                rintro s68 _ _ w69 ⟨s5_69, s6_69, s7_69, s9_69, s10_69, s13_69, s14_69, s15_69, s139_69, hE69, o0_69, n0_69, o1_69, n1_69, o2_69, n2_69, q0_1_69, q0_2_69, q1_2_69, i0_69⟩ H68 hr68; refine W_seq <| W_seq <| W_rg <| mv (i64 s68.2) rfl s15_69 <| wa rfl (q_ltI rfl rfl rfl) <| wnt <| ?_; refine W_cond _ rfl rfl (fun hb70 => ?_) (fun hb70 => ?_)
                · replace H68 := ifp hb70 H68; refine W_skip <| W_th <| W_seq <| W_block <| ?_; refine W_draw [9, 18, 28, 37] [(0, 0), (1, 0), (2, 0), (3, 0), (4, 0), (5, 0), (6, 0), (7, 0), (8, 0), (9, 1), (11, 0), (12, 0), (13, 0), (14, 0), (15, 0), (16, 0), (17, 0), (18, 1), (21, 0), (22, 0), (23, 0), (24, 0), (25, 0), (26, 0), (27, 0), (28, 1), (30, 0), (31, 0), (32, 0), (33, 0), (34, 0), (35, 0), (36, 0), (37, 1), (10, 2), (19, 2), (20, 0), (29, 0), (38, 0), (39, 0), (40, 2)] mixed (by kernel_rfl) (by kernel_rfl) (by kernel_rfl) (by kernel_rfl) ?_; have x71 := Ext.drew w69; replace i0_69 := i0_69.lift (Lift.ext x71 _); replace o0_69 := o0_69.ext x71; replace o1_69 := o1_69.ext x71; replace o2_69 := o2_69.ext x71; have e72 := hE69.trans x71; refine sv (i64 s65.2) rfl rfl s14_69 <| sa rfl rfl (q_mulI rfl rfl rfl) <| sv (i64 s68.2) rfl rfl s15_69 <| sa rfl rfl (q_addI rfl rfl rfl) <| sv (i64 s65.2) rfl rfl s14_69 <| sa rfl rfl (q_mulI rfl rfl rfl) <| sv (i64 s68.2) rfl rfl s15_69 <| sa rfl rfl (q_addI rfl rfl rfl) <| ?_; obtain ⟨c73, hc73, H68⟩ := bsi H68; obtain ⟨c74, hc74, H68⟩ := bsi H68; refine sa rfl rfl (q_ixA (m := 0) rfl A89 (by exact s10_69) rfl (lenA_eq hc73) hc74) <| sq rfl rfl (q_loadE (m := 0) rfl A89 rfl o1_69 (seg_self _ _) hc74) <| sv (i64 s65.2) rfl rfl s14_69 <| sa rfl rfl (q_mulI rfl rfl rfl) <| sv (i64 s68.2) rfl rfl s15_69 <| sa rfl rfl (q_addI rfl rfl rfl) <| ?_; obtain ⟨c75, hc75, H68⟩ := bsi H68; refine sa rfl rfl (q_remI rfl rfl rfl hc75) <| sa rfl rfl (q_addI rfl rfl rfl) <| ?_; obtain ⟨c76, hc76, H68⟩ := bsi H68; refine sa rfl rfl (q_ixA (m := 0) rfl A89 (by exact s10_69) rfl (lenA_eq hc73) hc76) <| sq rfl rfl (q_loadE (m := 0) rfl A89 rfl o1_69 (seg_self _ _) hc76) <| sv (i64 s65.2) rfl rfl s14_69 <| sa rfl rfl (q_mulI rfl rfl rfl) <| sv (i64 s68.2) rfl rfl s15_69 <| sa rfl rfl (q_addI rfl rfl rfl) <| ?_; obtain ⟨c77, hc77, H68⟩ := bsi H68; refine sa rfl rfl (q_remI rfl rfl rfl hc77) <| sa rfl rfl (q_addI rfl rfl rfl) <| ?_; obtain ⟨c78, hc78, H68⟩ := bsi H68; refine sa rfl rfl (q_ixA (m := 0) rfl A89 (by exact s10_69) rfl (lenA_eq hc73) hc78) <| sq rfl rfl (q_loadE (m := 0) rfl A89 rfl o1_69 (seg_self _ _) hc78) <| sv (i64 s65.2) rfl rfl s14_69 <| sa rfl rfl (q_mulI rfl rfl rfl) <| sv (i64 s68.2) rfl rfl s15_69 <| sa rfl rfl (q_addI rfl rfl rfl) <| ?_
                  obtain ⟨c79, hc79, H68⟩ := bsi H68; refine sa rfl rfl (q_remI rfl rfl rfl hc79) <| sa rfl rfl (q_addI rfl rfl rfl) <| ?_; obtain ⟨c80, hc80, H68⟩ := bsi H68; refine sa rfl rfl (q_ixA (m := 0) rfl A89 (by exact s10_69) rfl (lenA_eq hc73) hc80) <| sq rfl rfl (q_loadE (m := 0) rfl A89 rfl o1_69 (seg_self _ _) hc80) <| ?_; obtain ⟨r81, hr81, H68⟩ := bsi H68; refine wss rfl rfl rfl (stp_call (vs := [(u8 2), (u8 c74)]) Try.func62 rfl rfl rfl (ar2 (by exact (cst8 (2 : UInt8) rfl)) rfl) (ref02_Mul_calls (2 : UInt8) c74  r81 _  hr81) ?_); rintro _ w81 ⟨rfl, x81⟩; refine ⟨_, rfl, x81, ?_⟩; replace i0_69 := i0_69.lift (Lift.ext x81 _); replace o0_69 := o0_69.ext x81; replace o1_69 := o1_69.ext x81; replace o2_69 := o2_69.ext x81; have e82 := e72.trans x81; obtain ⟨r83, hr83, H68⟩ := bsi H68; refine wss rfl rfl rfl (stp_call (vs := [(u8 3), (u8 c76)]) Try.func62 rfl rfl rfl (ar2 (by exact (cst8 (3 : UInt8) rfl)) rfl) (ref02_Mul_calls (3 : UInt8) c76  r83 _  hr83) ?_); rintro _ w83 ⟨rfl, x83⟩; refine ⟨_, rfl, x83, ?_⟩; replace i0_69 := i0_69.lift (Lift.ext x83 _); replace o0_69 := o0_69.ext x83; replace o1_69 := o1_69.ext x83; replace o2_69 := o2_69.ext x83; have e84 := e82.trans x83; refine sa rfl rfl (q_xor8 rfl rfl rfl) <| sa rfl rfl (q_xor8 rfl rfl rfl) <| sa rfl rfl (q_xor8 rfl rfl rfl) <| ?_; obtain ⟨c85, hc85, H68⟩ := bsi H68; obtain ⟨c86, hc86, H68⟩ := bsi H68; refine sa rfl rfl (q_ixA (m := 0) rfl A89 (by exact s13_69) rfl (lenA_eq hc85) hc86) ?_; refine wsn rfl (by kernel_rfl) rfl rfl (stp_storeX (b := (((r81 ^^^ r83) ^^^ c78) ^^^ c80)) [(bp g5), (bp g27)] [] rfl A89 rfl rfl o2_69 hc86 (one_u8 _) ?_); intro w87 o87 g87 l87; replace i0_69 := i0_69.lift l87; replace o0_69 := o0_69.other g87 q0_2_69; replace o1_69 := o1_69.other g87 q1_2_69; have e88 := e84.grown g87 n2_69; refine ws_nil ?_; refine bk_n <| W_th <| W_rg <| mv (i64 s68.2) rfl s15_69 <| wa rfl (q_addI rfl rfl rfl) <| av (i64 ((wI (s68.2 + 1)))) rfl rfl <| wl_nil <| ?_; obtain rfl := osi H68; exact ⟨_, rfl, s5_69, s6_69, s7_69, s9_69, s10_69, s13_69, s14_69, rfl, s139_69, e88, o0_69, n0_69, o1_69, n1_69, o87, n2_69, q0_1_69, q0_2_69, q1_2_69, i0_69⟩
                replace H68 := ifn hb70 H68; refine W_exit <| th_x <| ?_; obtain rfl := osi H68; obtain rfl := hr68 _ rfl; refine th_x <| bk_x <| ?_; exact ⟨s5_69, s6_69, s7_69, s9_69, s10_69, s13_69, s14_69, s139_69, hE69, o0_69, n0_69, o1_69, n1_69, o2_69, n2_69, q0_1_69, q0_2_69, q1_2_69, i0_69⟩
              rintro _ w90 ⟨s5_90, s6_90, s7_90, s9_90, s10_90, s13_90, s14_90, s139_90, hE90, o0_90, n0_90, o1_90, n1_90, o2_90, n2_90, q0_1_90, q0_2_90, q1_2_90, i0_90⟩; refine bk_n <| W_th <| W_rg <| mv (i64 s65.2) rfl s14_90 <| wa rfl (q_addI rfl rfl rfl) <| av (i64 ((wI (s65.2 + 1)))) rfl rfl <| wl_nil <| ?_; obtain rfl := osi H65; exact ⟨_, rfl, s5_90, s6_90, s7_90, s9_90, s10_90, s13_90, rfl, s139_90, hE90, o0_90, n0_90, o1_90, n1_90, o2_90, n2_90, q0_1_90, q0_2_90, q1_2_90, i0_90⟩
            replace H65 := ifn hb67 H65; refine W_exit <| th_x <| ?_; obtain rfl := osi H65; obtain rfl := hr65 _ rfl; refine th_x <| bk_x <| ?_; exact ⟨s5_66, s6_66, s7_66, s9_66, s10_66, s13_66, s139_66, hE66, o0_66, n0_66, o1_66, n1_66, o2_66, n2_66, q0_1_66, q0_2_66, q1_2_66, i0_66⟩
          rintro _ w93 ⟨s5_93, s6_93, s7_93, s9_93, s10_93, s13_93, s139_93, hE93, o0_93, n0_93, o1_93, n1_93, o2_93, n2_93, q0_1_93, q0_2_93, q1_2_93, i0_93⟩; refine W_th <| W_rg <| ?_; obtain ⟨c94, hc94, H54⟩ := bsi H54; refine wq rfl (q_loadA (m := 0) rfl A89 (by exact s13_93) o2_93 (seg_self _ _) (lenA_eq hc94)) ?_; obtain ⟨c96, hc96, H54⟩ := bsi H54; refine wln rfl rfl (stp_storeA [(bp g5)] [(bp g56)] rfl A89 (by exact s10_93) rfl (lenA_eq hc96) (lenA_eq hc94) o1_93 one_u8 ?_); intro w95 o95 g95 l95; replace i0_93 := i0_93.lift l95; replace o0_93 := o0_93.other g95 q0_1_93; replace o2_93 := o2_93.other g95 q1_2_93.symm; have e97 := hE93.grown g95 n1_93; refine wl_nil ?_; obtain rfl := osi H54; exact ⟨s5_93, s6_93, s7_93, s9_93, s10_93, s139_93, e97, o0_93, n0_93, o95, n1_93, q0_1_93, (i0_93.lift (Lift.sub (fun _ h => ⟨h.1, h.2.1, trivial⟩)))⟩
        replace H54 := ifn hb55 H54; refine W_skip ?_; obtain rfl := osi H54; exact ⟨s5_53, s6_53, s7_53, s9_53, s10_53, s139_53, hE53, o0_53, n0_53, o1_53, n1_53, q0_1_53, i0_53⟩
      rintro _ w99 ⟨s5_99, s6_99, s7_99, s9_99, s10_99, s139_99, hE99, o0_99, n0_99, o1_99, n1_99, q0_1_99, i0_99⟩; refine W_th <| W_seq <| W_rg <| mv (i64 0) rfl rfl <| wnt <| ?_; obtain ⟨x100, G100, H24⟩ := bsi H24; refine W_mid (fun f w => f 5 = v1 ∧ f 6 = (i64 ((wI (c4 - 1)))) ∧ f 7 = (bp g5) ∧ f 9 = (i64 s24.2) ∧ f 139 = undef ∧ Ext w0 w ∧ Blk w g5 89 (ac u8 x100) ∧ Nw w0 (bp g5) ∧ By w [(bp g5)] v1 r1) ?_ ?_
      · refine W_block ?_; refine W_loop (fun s100 f w => f 5 = v1 ∧ f 6 = (i64 ((wI (c4 - 1)))) ∧ f 7 = (bp g5) ∧ f 9 = (i64 s24.2) ∧ f 10 = (bp g27) ∧ f 121 = (i64 s100.2) ∧ f 139 = undef ∧ Ext w0 w ∧ Blk w g5 89 (ac u8 s100.1) ∧ Nw w0 (bp g5) ∧ Blk w g27 89 (ac u8 x54) ∧ Nw w0 (bp g27) ∧ Nq (bp g5) (bp g27) ∧ By w [(bp g5), (bp g27)] v1 r1) G100 ?_ ?_
        · exact ⟨s5_99, s6_99, s7_99, s9_99, s10_99, rfl, s139_99, hE99, o0_99, n0_99, o1_99, n1_99, q0_1_99, i0_99⟩
        rintro s100 _ _ w101 ⟨s5_101, s6_101, s7_101, s9_101, s10_101, s121_101, s139_101, hE101, o0_101, n0_101, o1_101, n1_101, q0_1_101, i0_101⟩ H100 hr100; refine W_seq <| W_rg <| wa rfl (q_ltI rfl s121_101 rfl) <| wnt <| W_seq <| ?_; refine W_cond _ rfl rfl (fun hb102 => ?_) (fun hb102 => ?_)
        · replace H100 := ifp hb102 H100; refine W_skip <| W_th <| W_seq <| W_block <| W_seq <| W_rg <| mv (i64 s100.2) rfl s121_101 <| av (i64 s100.2) rfl rfl <| ?_; refine wnt ?_; refine W_draw [3, 10] [(0, 0), (1, 0), (2, 0), (3, 1), (4, 0), (5, 0), (6, 0), (7, 0), (8, 0), (9, 0), (10, 1), (11, 0), (12, 0), (13, 2)] mixed (by kernel_rfl) (by kernel_rfl) (by kernel_rfl) (by kernel_rfl) ?_; have x103 := Ext.drew w101; replace i0_101 := i0_101.lift (Lift.ext x103 _); replace o0_101 := o0_101.ext x103; replace o1_101 := o1_101.ext x103; have e104 := hE101.trans x103; refine sv (i64 s100.2) rfl rfl rfl <| sv (i64 s100.2) rfl rfl rfl <| ?_; obtain ⟨c105, hc105, H100⟩ := bsi H100; obtain ⟨c106, hc106, H100⟩ := bsi H100; refine sa rfl rfl (q_ixA (m := 0) rfl A89 (by exact s10_101) rfl (lenA_eq hc105) hc106) <| sq rfl rfl (q_loadE (m := 0) rfl A89 rfl o1_101 (seg_self _ _) hc106) <| sv v1 rfl rfl s5_101 <| sv (i64 s24.2) rfl rfl s9_101 <| sa rfl rfl (q_mulI rfl rfl rfl) <| sv (i64 s100.2) rfl rfl rfl <| sa rfl rfl (q_addI rfl rfl rfl) <| ?_; obtain ⟨c107, hc107, H100⟩ := bsi H100; refine sa rfl rfl (q_adr rfl T22 rfl rfl i0_101 hc107) <| sq rfl rfl (q_loadS rfl T22 rfl i0_101 hc107) <| sa rfl rfl (q_xor8 rfl rfl rfl) <| ?_; obtain ⟨c108, hc108, H100⟩ := bsi H100; obtain ⟨c109, hc109, H100⟩ := bsi H100; refine sa rfl rfl (q_ixA (m := 0) rfl A89 (by exact s7_101) rfl (lenA_eq hc108) hc109) ?_; refine wsn rfl (by kernel_rfl) rfl rfl (stp_storeX (b := (c106 ^^^ c107)) [] [(bp g27)] rfl A89 rfl rfl o0_101 hc109 (one_u8 _) ?_); intro w110 o110 g110 l110; replace i0_101 := i0_101.lift l110; replace o1_101 := o1_101.other g110 q0_1_101.symm; have e111 := e104.grown g110 n0_101; refine ws_nil ?_; refine bk_n <| W_th <| W_rg <| wa rfl (q_addI rfl s121_101 rfl) <| mv (i64 ((wI (s100.2 + 1)))) rfl rfl <| wl_nil <| ?_; obtain rfl := osi H100; exact ⟨_, rfl, s5_101, s6_101, s7_101, s9_101, s10_101, rfl, s139_101, e111, o110, n0_101, o1_101, n1_101, q0_1_101, i0_101⟩
        replace H100 := ifn hb102 H100; refine W_exit <| th_x <| ?_; obtain rfl := osi H100; obtain rfl := hr100 _ rfl; refine th_x <| bk_x <| ?_; exact ⟨s5_101, s6_101, s7_101, s9_101, s139_101, hE101, o0_101, n0_101, (i0_101.lift (Lift.sub (fun _ h => ⟨h.1, trivial⟩)))⟩
      rintro _ w113 ⟨s5_113, s6_113, s7_113, s9_113, s139_113, hE113, o0_113, n0_113, i0_113⟩; refine bk_n <| W_th <| W_rg <| mv (i64 s24.2) rfl s9_113 <| wa rfl (q_addI rfl rfl rfl) <| av (i64 ((wI (s24.2 + 1)))) rfl rfl <| wl_nil <| ?_; obtain rfl := osi H24; exact ⟨_, rfl, s5_113, s6_113, s7_113, rfl, s139_113, hE113, o0_113, n0_113, i0_113⟩
    replace H24 := ifn hb26 H24; refine W_exit <| th_x <| ?_; obtain rfl := osi H24; obtain rfl := hr24 _ rfl; refine th_x <| bk_x <| ?_; exact ⟨s7_25, s139_25, hE25, o0_25, n0_25⟩
  rintro _ w118 ⟨s7_118, s139_118, hE118, o0_118, n0_118⟩; refine W_th <| W_seq <| W_rg <| ?_; obtain ⟨c119, hc119, H⟩ := bsi H; refine wa rfl (q_sliceA rfl A89 (by exact s7_118)) <| av (.slice (some ⟨g5, 0, none⟩) 16 16) rfl rfl <| wnt <| W_ret <| ?_; obtain rfl := osi H; refine rt1 (.slice (some ⟨g5, 0, none⟩) 16 16) rfl rfl rfl s139_118 ?_; exact ⟨(.slice (some ⟨g5, 0, none⟩) 16 16), rfl, hE118, (nw_asl n0_118), (Blk.by o0_118 (lenA_eq hc119))⟩
end Gk

/- The cipher's functions (chapter 5), in plain Lean. No condition but lengths. -/
namespace Gk
open Gf
def boxT : List UInt8 := [99, 124, 119, 123, 242, 107, 111, 197, 48, 1, 103, 43, 254, 215, 171, 118, 202, 130, 201, 125, 250, 89, 71, 240, 173, 212, 162, 175, 156, 164, 114, 192, 183, 253, 147, 38, 54, 63, 247, 204, 52, 165, 229, 241, 113, 216, 49, 21, 4, 199, 35, 195, 24, 150, 5, 154, 7, 18, 128, 226, 235, 39, 178, 117, 9, 131, 44, 26, 27, 110, 90, 160, 82, 59, 214, 179, 41, 227, 47, 132, 83, 209, 0, 237, 32, 252, 177, 91, 106, 203, 190, 57, 74, 76, 88, 207, 208, 239, 170, 251, 67, 77, 51, 133, 69, 249, 2, 127, 80, 60, 159, 168, 81, 163, 64, 143, 146, 157, 56, 245, 188, 182, 218, 33, 16, 255, 243, 210, 205, 12, 19, 236, 95, 151, 68, 23, 196, 167, 126, 61, 100, 93, 25, 115, 96, 129, 79, 220, 34, 42, 144, 136, 70, 238, 184, 20, 222, 94, 11, 219, 224, 50, 58, 10, 73, 6, 36, 92, 194, 211, 172, 98, 145, 149, 228, 121, 231, 200, 55, 109, 141, 213, 78, 169, 108, 86, 244, 234, 101, 122, 174, 8, 186, 120, 37, 46, 28, 166, 180, 198, 232, 221, 116, 31, 75, 189, 139, 138, 112, 62, 181, 102, 72, 3, 246, 14, 97, 53, 87, 185, 134, 193, 29, 158, 225, 248, 152, 17, 105, 217, 142, 148, 155, 30, 135, 233, 206, 85, 40, 223, 140, 161, 137, 13, 191, 230, 66, 104, 65, 153, 45, 15, 176, 84, 187, 22]
def backT : List UInt8 := [82, 9, 106, 213, 48, 54, 165, 56, 191, 64, 163, 158, 129, 243, 215, 251, 124, 227, 57, 130, 155, 47, 255, 135, 52, 142, 67, 68, 196, 222, 233, 203, 84, 123, 148, 50, 166, 194, 35, 61, 238, 76, 149, 11, 66, 250, 195, 78, 8, 46, 161, 102, 40, 217, 36, 178, 118, 91, 162, 73, 109, 139, 209, 37, 114, 248, 246, 100, 134, 104, 152, 22, 212, 164, 92, 204, 93, 101, 182, 146, 108, 112, 72, 80, 253, 237, 185, 218, 94, 21, 70, 87, 167, 141, 157, 132, 144, 216, 171, 0, 140, 188, 211, 10, 247, 228, 88, 5, 184, 179, 69, 6, 208, 44, 30, 143, 202, 63, 15, 2, 193, 175, 189, 3, 1, 19, 138, 107, 58, 145, 17, 65, 79, 103, 220, 234, 151, 242, 207, 206, 240, 180, 230, 115, 150, 172, 116, 34, 231, 173, 53, 133, 226, 249, 55, 232, 28, 117, 223, 110, 71, 241, 26, 113, 29, 41, 197, 137, 111, 183, 98, 14, 170, 24, 190, 27, 252, 86, 62, 75, 198, 210, 121, 32, 154, 219, 192, 254, 120, 205, 90, 244, 31, 221, 168, 51, 136, 7, 199, 49, 177, 18, 16, 89, 39, 128, 236, 95, 96, 81, 127, 169, 25, 181, 74, 13, 45, 229, 122, 159, 147, 201, 156, 239, 160, 224, 59, 77, 174, 42, 245, 176, 200, 235, 187, 60, 131, 83, 153, 97, 23, 43, 4, 126, 186, 119, 214, 38, 225, 105, 20, 99, 85, 33, 12, 125]
def sb (x : UInt8) : UInt8 := co boxT x.toNat
def rl (x : UInt8) (k : Nat) : UInt8 := shl8 x k ||| shr8 x (8 - k)
theorem sb_rl (x : UInt8) : (((((inv x ^^^ 99) ^^^ rl (inv x) 1) ^^^ rl (inv x) 2) ^^^ rl (inv x) 3) ^^^ rl (inv x) 4) = sb x := by revert x; refine all8 ?_; decide +kernel
theorem iterC_sim5 {S X : Type} {body body' : S → Option (S ⊕ X)} (I : S → Prop) (he : ∀ s r, I s → body' s = some r → body s = some r) (hs : ∀ s s', I s → body' s = some (.inl s') → I s') : ∀ (k : Nat) (s : S) (x : X), I s → iterN body' k s = some x → iterC body s = some x
  | 0, s, x, _, h => by cases h
  | k + 1, s, x, hi, h => by
    unfold iterN at h
    cases hb : body' s with
    | none => rw [hb] at h; cases h
    | some r =>
      rw [iterC_step, he s r hi hb]
      rw [hb] at h
      cases r with
      | inl s' => exact iterC_sim5 I he hs k s' x (hs s s' hi hb) h
      | inr y => exact h
theorem iter4 {S X : Type} {body : S → Option (S ⊕ X)} {s0 s1 s2 s3 s4 : S} {x : X} (h0 : body s0 = some (.inl s1)) (h1 : body s1 = some (.inl s2)) (h2 : body s2 = some (.inl s3)) (h3 : body s3 = some (.inl s4)) (h4 : body s4 = some (.inr x)) : iterC body s0 = some x := by
  rw [iterC_step, h0]
  show iterC body s1 = some x
  rw [iterC_step, h1]
  show iterC body s2 = some x
  rw [iterC_step, h2]
  show iterC body s3 = some x
  rw [iterC_step, h3]
  show iterC body s4 = some x
  rw [iterC_step, h4]; rfl
theorem Bits8_eq : word_Bits_byte = some 8 := by
  unfold word_Bits_byte
  rw [iterC_some.2 ⟨9, by kernel_rfl⟩]; rfl
theorem Turn8_eq (x : UInt8) (k : Nat) (h0 : 0 < k) (h1 : k < 8) : word_Turn_byte x (k : Int) = some (rl x k) := by
  unfold word_Turn_byte
  rw [Bits8_eq, obs, show (8 : Int) = ((8 : Nat) : Int) by rfl, remI_nat _ _ (by omega), obs, wI_add _ _ (by omega), remI_nat _ _ (by omega), obs]
  have e : (k % 8 + 8) % 8 = k := by omega
  rw [e, if_neg (by omega), cnt_nat, obs, wI_sub _ _ (by omega) (by omega), cnt_nat, obs]; rfl
def bstep (s : List UInt8 × List UInt8 × Int) : Option ((List UInt8 × List UInt8 × Int) ⊕ List UInt8 × List UInt8) :=
  if s.2.2 < 256 then some (.inl (s.1.set s.2.2.toNat (sb (UInt8.ofInt s.2.2)), s.2.1.set (sb (UInt8.ofInt s.2.2)).toNat (UInt8.ofInt s.2.2), s.2.2 + 1)) else some (.inr (s.1, s.2.1))
theorem boxes_eq (ks : List (List UInt8)) : cipher_boxes ⟨true, ks, List.replicate 256 0, List.replicate 256 0⟩ = some ⟨true, ks, boxT, backT⟩ := by
  unfold cipher_boxes
  dsimp only
  refine bind_of (x := (boxT, backT)) (iterC_sim5 (body' := bstep) (fun s => s.1.length = 256 ∧ s.2.1.length = 256 ∧ 0 ≤ s.2.2) ?_ ?_ 257 _ _ ⟨by rw [List.length_replicate], by rw [List.length_replicate], by decide⟩ (by decide +kernel)) rfl
  · rintro ⟨b, k, i⟩ r ⟨h1, h2, h3⟩ hr
    unfold bstep at hr
    simp only at h1 h2 h3 hr ⊢
    by_cases hi : i < 256
    · rw [if_pos hi] at hr ⊢
      obtain ⟨n, rfl⟩ := Int.eq_ofNat_of_zero_le h3
      have hinv : ∃ e, field_Inv true (UInt8.ofInt (n : Int)) = some (inv (UInt8.ofInt (n : Int)), e) := by
        rw [Inv_eq]
        by_cases h0 : UInt8.ofInt (n : Int) = 0
        · rw [if_pos h0, h0, inv_zero]; exact ⟨_, rfl⟩
        · rw [if_neg h0]; exact ⟨_, rfl⟩
      obtain ⟨e, hinv⟩ := hinv
      rw [hinv, obs]
      dsimp only
      generalize UInt8.ofInt (n : Int) = x at *
      have ht : ∀ k : Nat, 0 < k → k < 8 → ∀ y : UInt8, ((word_Turn_byte (inv x) (k : Int)).bind fun r9 => (some (.inl ((y ^^^ r9), (wI ((k : Int) + 1)))) : Option ((UInt8 × Int) ⊕ UInt8))) = some (.inl (y ^^^ rl (inv x) k, ((k + 1 : Nat) : Int))) := fun k h0 h1 y => by
        rw [Turn8_eq _ _ h0 h1, obs, wI_succ _ (by omega)]
      refine bind_of (x := sb x) (iter4 (s1 := ((inv x ^^^ 99) ^^^ rl (inv x) 1, 2)) (s2 := (((inv x ^^^ 99) ^^^ rl (inv x) 1) ^^^ rl (inv x) 2, 3)) (s3 := ((((inv x ^^^ 99) ^^^ rl (inv x) 1) ^^^ rl (inv x) 2) ^^^ rl (inv x) 3, 4)) (s4 := (sb x, 5)) ?_ ?_ ?_ ?_ ?_) ?_
      · exact ht 1 (by omega) (by omega) _
      · exact ht 2 (by omega) (by omega) _
      · exact ht 3 (by omega) (by omega) _
      · rw [← sb_rl]; exact ht 4 (by omega) (by omega) _
      · rfl
      · have hs := (sb x).toNat_lt
        rw [lenA, if_pos h1, obs, idx_co (by omega), obs, lenA, if_pos h2, obs, idx_co (by omega), obs, wI_succ _ (by omega), ← hr]
        simp
    · rw [if_neg hi] at hr ⊢; exact hr
  · rintro ⟨b, k, i⟩ s' ⟨h1, h2, h3⟩ hr
    unfold bstep at hr
    simp only at h1 h2 h3 hr ⊢
    split at hr
    · cases hr; exact ⟨by simpa using h1, by simpa using h2, by dsimp only; omega⟩
    · cases hr
def rbstep (v : UInt8) (s : UInt8 × Int) : Option ((UInt8 × Int) ⊕ UInt8) :=
  if s.2 < 8 then some (.inl ((s.1 ||| (shl8 ((((((((shr8 v s.2.toNat) &&& (1 : UInt8)) ^^^ ((shr8 v ((s.2.toNat + 4) % 8)) &&& (1 : UInt8))) ^^^ ((shr8 v ((s.2.toNat + 5) % 8)) &&& (1 : UInt8))) ^^^ ((shr8 v ((s.2.toNat + 6) % 8)) &&& (1 : UInt8))) ^^^ ((shr8 v ((s.2.toNat + 7) % 8)) &&& (1 : UInt8))) ^^^ ((shr8 ((99 : UInt8)) s.2.toNat) &&& (1 : UInt8)))) s.2.toNat)), s.2 + 1)) else some (.inr s.1)
theorem rbox_run (x : UInt8) : iterN (rbstep (inv x)) 9 ((0 : UInt8), 0) = some (sb x) := by revert x; refine all8 ?_; decide +kernel
theorem rBox_eq (x : UInt8) : ref05_Box x = some (sb x) := by
  unfold ref05_Box
  rw [refInv_eq, obs]
  refine bind_of (x := sb x) (iterC_sim5 (body' := rbstep (inv x)) (fun s => 0 ≤ s.2) ?_ ?_ 9 _ _ (by decide) (rbox_run x)) rfl
  · rintro ⟨o, i⟩ r h3 hr
    unfold rbstep at hr
    simp only at h3 hr ⊢
    by_cases hi : i < 8
    · rw [if_pos hi] at hr ⊢
      obtain ⟨n, rfl⟩ := Int.eq_ofNat_of_zero_le h3
      rw [cnt_nat, obs]
      rw [show (4 : Int) = ((4 : Nat) : Int) by rfl, show (5 : Int) = ((5 : Nat) : Int) by rfl, show (6 : Int) = ((6 : Nat) : Int) by rfl, show (7 : Int) = ((7 : Nat) : Int) by rfl, show (8 : Int) = ((8 : Nat) : Int) by rfl]
      rw [wI_add _ _ (by omega), wI_add _ _ (by omega), wI_add _ _ (by omega), wI_add _ _ (by omega), remI_nat _ _ (by omega), remI_nat _ _ (by omega), remI_nat _ _ (by omega), remI_nat _ _ (by omega), wI_succ _ (by omega)]
      simp only [obs, cnt_nat]
      rw [← hr]; simp
    · rw [if_neg hi] at hr ⊢; exact hr
  · rintro ⟨o, i⟩ s' h3 hr
    unfold rbstep at hr
    simp only at h3 hr ⊢
    split at hr
    · cases hr; dsimp only; omega
    · cases hr
end Gk

/- Squares of sixteen bytes: rows, columns, boxes and keys, in plain Lean. No condition but lengths. -/
namespace Gk
open Gf
theorem list16 {α : Type} : ∀ {s : List α}, s.length = 16 → ∃ a0 a1 a2 a3 a4 a5 a6 a7 a8 a9 a10 a11 a12 a13 a14 a15, s = [a0, a1, a2, a3, a4, a5, a6, a7, a8, a9, a10, a11, a12, a13, a14, a15]
  | [a0, a1, a2, a3, a4, a5, a6, a7, a8, a9, a10, a11, a12, a13, a14, a15], _ => ⟨_, _, _, _, _, _, _, _, _, _, _, _, _, _, _, _, rfl⟩
theorem list4 {α : Type} : ∀ {s : List α}, s.length = 4 → ∃ a b c d, s = [a, b, c, d]
  | [a, b, c, d], _ => ⟨a, b, c, d, rfl⟩
theorem lt4 {i : Nat} (h : i < 4) : i = 0 ∨ i = 1 ∨ i = 2 ∨ i = 3 := by omega
theorem fill44 {body : List UInt8 × Int → Option ((List UInt8 × Int) ⊕ List UInt8)} {inner : List UInt8 × Int → List UInt8 × Int → Option ((List UInt8 × Int) ⊕ List UInt8)} {w0 x : List UInt8}
    (hbody : ∀ s, body s = if s.2 < 4 then ((iterC (inner s) (s.1, 0)).bind fun x => some (.inl (x, wI (s.2 + 1)))) else some (.inr s.1)) (W : Nat → Nat → List UInt8) (h0 : w0 = W 0 0) (hx : x = W 4 0)
    (hstep : ∀ i k : Nat, i < 4 → k < 4 → inner (W i 0, (i : Int)) (W i k, (k : Int)) = some (.inl (W i (k + 1), ((k + 1 : Nat) : Int)))) (hend : ∀ i : Nat, i < 4 → inner (W i 0, (i : Int)) (W i 4, ((4 : Nat) : Int)) = some (.inr (W i 4))) (hW : ∀ i : Nat, i < 4 → W i 4 = W (i + 1) 0) :
    iterC body (w0, 0) = some x := by
  subst h0 hx
  refine iterC_count (fun i => (W i 0, (i : Int))) 4 _ rfl ?_ ?_
  · intro i hi
    try dsimp only
    rw [hbody, if_pos (by dsimp only; omega)]
    refine bind_of (x := W i 4) (iterC_count (fun k => (W i k, (k : Int))) 4 _ rfl (fun k hk => hstep i k hi hk) (hend i hi)) ?_
    try dsimp only
    rw [hW i hi, wI_succ _ (by omega)]
  · rw [hbody, if_neg (by dsimp only; omega)]
def tab16 (f : Nat → UInt8) : List UInt8 := (List.range 16).map f
theorem tab16_len (f : Nat → UInt8) : (tab16 f).length = 16 := by simp [tab16]
theorem co_tab16 (f : Nat → UInt8) {i : Nat} (h : i < 16) : co (tab16 f) i = f i := by rw [tab16, co_tab, if_pos h]
def rowsF (n : Nat) (s : List UInt8) : List UInt8 := tab16 fun j => co s (4 * ((j / 4 + n * (j % 4)) % 4) + j % 4)
theorem rowsF_len (n : Nat) (s : List UInt8) : (rowsF n s).length = 16 := tab16_len _
theorem rows_eq (n : Nat) (hn : n = 1 ∨ n = 3) (s : List UInt8) (h : s.length = 16) : cipher_rows s (n : Int) = some (rowsF n s) := by
  obtain ⟨a0, a1, a2, a3, a4, a5, a6, a7, a8, a9, a10, a11, a12, a13, a14, a15, rfl⟩ := list16 h
  unfold cipher_rows
  rcases hn with rfl | rfl
  · refine bind_of (x := rowsF 1 [a0, a1, a2, a3, a4, a5, a6, a7, a8, a9, a10, a11, a12, a13, a14, a15]) (fill44 (fun s => rfl) (fun i k => tab16 fun j => cond (Nat.blt (j % 4) i || (Nat.beq (j % 4) i && Nat.blt (j / 4) k)) (co [a0, a1, a2, a3, a4, a5, a6, a7, a8, a9, a10, a11, a12, a13, a14, a15] (4 * ((j / 4 + 1 * (j % 4)) % 4) + j % 4)) 0) (by kernel_rfl) (by kernel_rfl) ?_ ?_ ?_) (by kernel_rfl)
    · intro i k hi hk
      rcases lt4 hi with rfl | rfl | rfl | rfl <;> rcases lt4 hk with rfl | rfl | rfl | rfl <;> kernel_rfl
    · intro i hi
      rcases lt4 hi with rfl | rfl | rfl | rfl <;> kernel_rfl
    · intro i hi
      rcases lt4 hi with rfl | rfl | rfl | rfl <;> kernel_rfl
  · refine bind_of (x := rowsF 3 [a0, a1, a2, a3, a4, a5, a6, a7, a8, a9, a10, a11, a12, a13, a14, a15]) (fill44 (fun s => rfl) (fun i k => tab16 fun j => cond (Nat.blt (j % 4) i || (Nat.beq (j % 4) i && Nat.blt (j / 4) k)) (co [a0, a1, a2, a3, a4, a5, a6, a7, a8, a9, a10, a11, a12, a13, a14, a15] (4 * ((j / 4 + 3 * (j % 4)) % 4) + j % 4)) 0) (by kernel_rfl) (by kernel_rfl) ?_ ?_ ?_) (by kernel_rfl)
    · intro i k hi hk
      rcases lt4 hi with rfl | rfl | rfl | rfl <;> rcases lt4 hk with rfl | rfl | rfl | rfl <;> kernel_rfl
    · intro i hi
      rcases lt4 hi with rfl | rfl | rfl | rfl <;> kernel_rfl
    · intro i hi
      rcases lt4 hi with rfl | rfl | rfl | rfl <;> kernel_rfl
def colP (p s : List UInt8) (k i : Nat) : Nat → UInt8
  | 0 => 0
  | m + 1 => colP p s k i m ^^^ mul (co p ((i + 4 - m) % 4)) (co s (4 * k + m))
def colF (p s : List UInt8) : List UInt8 := tab16 fun j => colP p s (j / 4) (j % 4) 4
theorem colF_len (p s : List UInt8) : (colF p s).length = 16 := tab16_len _
theorem columns_eq (p s : List UInt8) (hp : p.length = 4) (h : s.length = 16) : cipher_columns s true p = some (colF p s) := by
  obtain ⟨a0, a1, a2, a3, a4, a5, a6, a7, a8, a9, a10, a11, a12, a13, a14, a15, rfl⟩ := list16 h
  obtain ⟨p0, p1, p2, p3, rfl⟩ := list4 hp
  unfold cipher_columns
  simp only [Mul_eq, obs]
  refine bind_of (x := colF [p0, p1, p2, p3] [a0, a1, a2, a3, a4, a5, a6, a7, a8, a9, a10, a11, a12, a13, a14, a15]) (fill44 (fun s => rfl) (fun i k => tab16 fun j => cond (Nat.blt j (4 * i + k)) (colP [p0, p1, p2, p3] [a0, a1, a2, a3, a4, a5, a6, a7, a8, a9, a10, a11, a12, a13, a14, a15] (j / 4) (j % 4) 4) 0) (by kernel_rfl) (by kernel_rfl) ?_ ?_ ?_) (by kernel_rfl)
  · intro i k hi hk
    let V : Nat → List UInt8 := fun m => tab16 fun j => cond (Nat.blt j (4 * i + k)) (colP [p0, p1, p2, p3] [a0, a1, a2, a3, a4, a5, a6, a7, a8, a9, a10, a11, a12, a13, a14, a15] (j / 4) (j % 4) 4) (cond (Nat.beq j (4 * i + k)) (colP [p0, p1, p2, p3] [a0, a1, a2, a3, a4, a5, a6, a7, a8, a9, a10, a11, a12, a13, a14, a15] i k m) 0)
    rcases lt4 hi with rfl | rfl | rfl | rfl <;> rcases lt4 hk with rfl | rfl | rfl | rfl <;> exact bind_of (x := V 4) (iter4 (s1 := (V 1, 1)) (s2 := (V 2, 2)) (s3 := (V 3, 3)) (s4 := (V 4, 4)) (by kernel_rfl) (by kernel_rfl) (by kernel_rfl) (by kernel_rfl) (by kernel_rfl)) (by kernel_rfl)
  · intro i hi
    rcases lt4 hi with rfl | rfl | rfl | rfl <;> kernel_rfl
  · intro i hi
    rcases lt4 hi with rfl | rfl | rfl | rfl <;> kernel_rfl
theorem Clone5 (b : List UInt8) (h : b.length ≤ most) : slices_Clone_sbytebyte b = some b := by
  unfold slices_Clone_sbytebyte
  exact appL_nil b h
end Gk

/- Blocks, there and back, in plain Lean (chapter 5). No condition but lengths. -/
namespace Gk
open Gf
def xr (a b : List UInt8) : List UInt8 := (List.range (min a.length b.length)).map fun i => co a i ^^^ co b i
theorem wXor_eq (a b : List UInt8) (h : a.length ≤ most) : word_Xor a b = some (xr a b) := by
  unfold word_Xor
  have hm := most_lt'
  rw [minI, Nat.min_comm, makeL_nat _ _ (by omega), obs]
  have hl : (List.replicate (min b.length a.length) (0 : UInt8)).length = min b.length a.length := List.length_replicate
  refine bind_of (x := xr a b) (iterC_count (fun i => (updB (List.replicate (min b.length a.length) 0) (fun i => co a i ^^^ co b i) i, (i : Int))) (min b.length a.length) _ (by rw [updB_zero]; rfl) ?_ ?_) rfl
  · intro i hi
    have hs := updB_succ (List.replicate (min b.length a.length) 0) (fun i => co a i ^^^ co b i) i (by omega)
    simp only [hl]
    rw [if_pos (by omega), idx_co (by omega), obs, idx_co (by omega), obs, idx_updB _ _ _ _ (by omega), obs, wI_succ _ (by omega), Int.toNat_natCast, hs]
  · simp only [hl]
    rw [if_neg (by omega)]
    have := updB_end (List.replicate (min b.length a.length) 0) (fun i => co a i ^^^ co b i)
    rw [hl] at this
    rw [this, Nat.min_comm]; rfl
theorem xr_len (a b : List UInt8) : (xr a b).length = min a.length b.length := by simp [xr]
theorem co_xr (a b : List UInt8) (i : Nat) (ha : i < a.length) (hb : i < b.length) : co (xr a b) i = co a i ^^^ co b i := by
  rw [xr, co_tab, if_pos (by omega)]
theorem ext_co {p q : List UInt8} (hl : p.length = q.length) (h : ∀ i, i < p.length → co p i = co q i) : p = q := by
  refine eq_of_co hl fun i => ?_
  by_cases hi : i < p.length
  · exact h i hi
  · simp [co, List.getD_eq_getElem?_getD, List.getElem?_eq_none (Nat.le_of_not_lt hi), List.getElem?_eq_none (show q.length ≤ i by omega)]
theorem co_map (f : UInt8 → UInt8) (l : List UInt8) (i : Nat) (h : i < l.length) : co (l.map f) i = f (co l i) := by
  simp [co, List.getD_eq_getElem?_getD, h]
theorem through_eq (T b : List UInt8) (hT : T.length = 256) (h : b.length ≤ most) : cipher_through T b = some (b.map fun x => co T x.toNat) := by
  unfold cipher_through
  have hm := most_lt'
  rw [Clone5 b h, obs]
  refine bind_of (x := b.map fun x => co T x.toNat) (iterC_count (fun i => (updB b (fun j => co T (co b j).toNat) i, (i : Int))) b.length _ (by rw [updB_zero]; rfl) ?_ ?_) rfl
  · intro i hi
    have hs := updB_succ b (fun j => co T (co b j).toNat) i hi
    have hx := (co b i).toNat_lt
    dsimp only
    rw [if_pos (by omega), idx_co hi, obs, lenA, if_pos hT, obs, idx_co (by omega), obs, idx_updB _ _ _ _ hi, obs, wI_succ _ (by omega), Int.toNat_natCast, hs]
  · dsimp only
    rw [if_neg (by omega), updB_end]
    congr 2
    refine ext_co (by simp) fun i hi => ?_
    simp only [List.length_map, List.length_range] at hi
    rw [co_tab, if_pos hi, co_map _ _ _ hi]
theorem copyL_full (l m : List UInt8) (h : m.length = l.length) : copyL l 0 m = m := by
  refine ext_co ?_ fun i hi => ?_
  · have := copyL_len l 0 m (by omega); rw [h]; exact this
  · have hl := copyL_len l 0 m (by omega)
    have := co_copyL l 0 m (by omega) i
    rw [show ((0 : Nat) : Int) = 0 by rfl] at this hl
    rw [this, if_pos (by omega), Nat.sub_zero]
theorem add_eq (s k : List UInt8) (hs : s.length = 16) (hk : k.length = 16) : cipher_add s k = some (xr s k) := by
  have hm : (16 : Nat) ≤ most := by decide
  unfold cipher_add
  rw [lenA, if_pos hs, obs, lenA, if_pos hk, obs, wXor_eq _ _ (by omega), obs, copyL_full _ _ (by rw [xr_len]; omega)]
theorem box_eq (s T : List UInt8) (hs : s.length = 16) (hT : T.length = 256) : cipher_box s T = some (s.map fun x => co T x.toNat) := by
  have hm : (16 : Nat) ≤ most := by decide
  unfold cipher_box
  rw [lenA, if_pos hs, obs, through_eq _ _ hT (by omega), obs, copyL_full _ _ (by simp)]
def pE : List UInt8 := [2, 1, 1, 3]
theorem col_at (p s : List UInt8) (k i : Nat) : colP p s k i 4 = (((0 ^^^ mul (co p ((i + 4 - 0) % 4)) (co s (4 * k + 0))) ^^^ mul (co p ((i + 4 - 1) % 4)) (co s (4 * k + 1))) ^^^ mul (co p ((i + 4 - 2) % 4)) (co s (4 * k + 2))) ^^^ mul (co p ((i + 4 - 3) % 4)) (co s (4 * k + 3)) := rfl
theorem co_col (p s : List UInt8) (k i : Nat) (hk : k < 4) (hi : i < 4) : co (colF p s) (4 * k + i) = colP p s k i 4 := by
  rw [colF, co_tab16 _ (by omega), show (4 * k + i) / 4 = k by omega, show (4 * k + i) % 4 = i by omega]
def rE (s key : List UInt8) (last : Bool) : List UInt8 := xr (if last then rowsF 1 (s.map sb) else colF pE (rowsF 1 (s.map sb))) key
theorem rE_len (s key : List UInt8) (l : Bool) (hk : key.length = 16) : (rE s key l).length = 16 := by
  unfold rE; rw [xr_len]; split
  · rw [rowsF_len, hk]; rfl
  · rw [colF_len, hk]; rfl
def eS (ks : List (List UInt8)) (s : List UInt8) : Nat → List UInt8
  | 0 => s
  | i + 1 => rE (eS ks s i) (ks.getD i []) (Nat.beq (i + 1) ks.length)
theorem eS_len (ks : List (List UInt8)) (s : List UInt8) (hk : ∀ x ∈ ks, x.length = 16) (hs : s.length = 16) : ∀ i, i ≤ ks.length → (eS ks s i).length = 16
  | 0, _ => hs
  | i + 1, h => rE_len _ _ _ (hk _ (getD_mem (by omega)))
def encF (k0 : List UInt8) (ks : List (List UInt8)) (s : List UInt8) : List UInt8 := eS ks (xr s k0) ks.length
theorem encF_len (k0 : List UInt8) (ks : List (List UInt8)) (s : List UInt8) (h0 : k0.length = 16) (hk : ∀ x ∈ ks, x.length = 16) (hs : s.length = 16) : (encF k0 ks s).length = 16 := eS_len ks _ hk (by rw [xr_len]; omega) _ (Nat.le_refl _)
theorem Rounds_eq (c : Cip) (h : 1 ≤ c.keys.length) (h2 : c.keys.length ≤ 1000) : cipher_Rounds (some c) = some ((c.keys.length - 1 : Nat) : Int) := by
  unfold cipher_Rounds
  rw [if_neg (by simp), obs, wI_pred _ h (by omega)]
theorem boxT_len : boxT.length = 256 := by decide +kernel
theorem backT_len : backT.length = 256 := by decide +kernel
theorem Encrypt_eq (k0 : List UInt8) (ks : List (List UInt8)) (b : List UInt8) (h0 : k0.length = 16) (hk : ∀ x ∈ ks, x.length = 16) (hn : ks.length ≤ 100) (hb : b.length = 16) : cipher_Encrypt (some ⟨true, k0 :: ks, boxT, backT⟩) b = some (encF k0 ks b, 0) := by
  have hm : (1000 : Nat) ≤ most := by decide
  have hb0 : (xr b k0).length = 16 := by rw [xr_len]; omega
  unfold cipher_Encrypt
  rw [if_neg (by simp), if_pos (by omega), lenA, if_pos hb, obs, lenA, if_pos (by simp), obs, obs]
  dsimp only
  rw [show idx (k0 :: ks) 0 = some k0 by rfl, obs, add_eq _ _ hb h0, obs]
  have hsub : subL (k0 :: ks) 1 ((k0 :: ks).length : Int) = some ks := by
    have := subL_nat (k0 :: ks) 1 (k0 :: ks).length (by simp) (Nat.le_refl _)
    rw [List.take_length] at this
    exact this
  rw [hsub, obs]
  refine bind_of (x := encF k0 ks b) (iterC_count (fun i => (eS ks (xr b k0) i, (i : Int))) ks.length _ rfl ?_ ?_) ?_
  · intro i hi
    have hki : (ks.getD i []).length = 16 := hk _ (getD_mem hi)
    have hsl := eS_len ks (xr b k0) hk hb0 i (by omega)
    dsimp only
    rw [if_pos (by omega), idx_getD hi, obs, obs, lenA, if_pos hki, obs, box_eq _ _ hsl boxT_len, obs]
    have hms : ((eS ks (xr b k0) i).map fun x => co boxT x.toNat) = (eS ks (xr b k0) i).map sb := rfl
    rw [hms, show (1 : Int) = ((1 : Nat) : Int) by rfl, rows_eq 1 (.inl rfl) _ (by rw [List.length_map]; exact hsl), obs, Rounds_eq _ (by simp) (by simp; omega), obs]
    dsimp only
    rw [List.length_cons, Nat.add_sub_cancel]
    rw [wI_of (by omega) (by omega)]
    by_cases hl : i + 1 = ks.length
    · rw [if_neg (by omega), obs, add_eq _ _ (rowsF_len _ _) hki, obs, wI_add _ _ (by omega), eS, rE]
      rw [show Nat.beq (i + 1) ks.length = true by rw [Nat.beq_eq]; exact hl, if_pos rfl]
    · rw [if_pos (by omega), show ([(2 : UInt8), (1 : UInt8), (1 : UInt8), (3 : UInt8)] : List UInt8) = pE by rfl, columns_eq _ _ rfl (rowsF_len _ _), obs, obs, add_eq _ _ (colF_len _ _) hki, obs, wI_add _ _ (by omega), eS, rE]
      rw [show Nat.beq (i + 1) ks.length = false by rw [Bool.eq_false_iff, ne_eq, Nat.beq_eq]; exact hl]; rfl
  · dsimp only
    rw [if_neg (by omega)]; rfl
  · have hl := encF_len k0 ks b h0 hk hb
    rw [lenA, if_pos hl, obs, Clone5 _ (by omega), obs]
end Gk

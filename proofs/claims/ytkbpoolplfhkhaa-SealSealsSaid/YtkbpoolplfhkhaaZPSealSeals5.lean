/- Parts R7, Pm, Pn, Po, F11, L11, Qi, Gz, F31, Fl, G31, Pu, H31, Pv, Gs, one behind the other. What is proved: said at the head of each part. No condition beside those said there. -/
import Derived.Test.YtkbpoolplfhkhaaRows
import Derived.Orders
import Derived.Deep.Draws
import Derived.Laws.World
import Derived.KernelRfl
import Derived.OrdersIn
import Derived.TacticsIn
import Derived.RangeFuncCalls
import Derived.Deep.LoopGhost
import Derived.Tactics
import Derived.Sort.LoopGhostIn
import Derived.RangeFuncLeaves
import Derived.RangeFuncNested
import Derived.RangeFuncRecord
import Derived.Laws.Sem
import Derived.OwnWalk
import Derived.RangeFuncWrites
import Derived.Laws.IdiomCopy
import Derived.WalkKit
import Derived.ProofKit
import Derived.OpenShut
import Derived.ChangeOld
import Derived.Below
import Derived.Test.YtkbpoolplfhkhaaProg
import Derived.MapKept
import Derived.Lib.AppendZerosOnto
import Derived.Laws.CopyRow
import Derived.Laws.Cells
import Derived.Lib.SlBytesConst
import Derived.Lib.MakeNoZero
import Derived.Laws.Externs
import Derived.Lib.ConvBytes
import Derived.Lib.AppendStr
import Derived.Test.YtkbpoolplfhkhaaZPSealSeals1
import Derived.Test.YtkbpoolplfhkhaaZPSealSeals2
import Derived.Test.YtkbpoolplfhkhaaZPSealSeals3
import Derived.Test.YtkbpoolplfhkhaaZPSealSeals4
/- Printed by gen.py: for each Go function a pure function, and that the Go code comes to it. No condition beside the equation that says what the pure function gives. -/
set_option linter.unusedVariables false
set_option linter.unusedSimpArgs false
namespace Gk
open Go Go.Proofs
noncomputable def ref07_turn (a0x : UInt32) (a1n : Int) : Option UInt32 :=
((cnt a1n).bind fun c3 =>
((cnt ((wI (32 - a1n)))).bind fun c4 => some ((shr32 a0x c3) ||| (shl32 a0x c4))))
set_option maxRecDepth 100000 in
set_option maxHeartbeats 8000000 in
theorem ref07_turn_calls (a0x : UInt32) (a1n : Int) (r : UInt32) (w0 : World) (H : ref07_turn a0x a1n = some r) :
    Calls Try.prog 66 [(u32 a0x), (i64 a1n)].toArray w0 (fun e w' => e = .returned (u32 r) ∧ Ext w0 w') := by
  have hE : Ext w0 w0 := Ext.refl w0; unfold ref07_turn at H; refine calls_W (n := 13) Try.func66 rfl rfl rfl ?_; refine W_seq ?_; refine W_reg (by kernel_rfl) ?_; refine wla rfl rfl (q_assign (v := (u32 0)) rfl (cst32 (0 : UInt32) rfl)) ?_; refine wl_nil ?_; refine W_th ?_; refine W_seq ?_; refine W_draw [] [(0, 0), (1, 0), (2, 0), (3, 0), (4, 0), (5, 0), (6, 0), (7, 0), (8, 0)] mixed (by kernel_rfl) (by kernel_rfl) (by kernel_rfl) (by kernel_rfl) ?_; have x1 := Ext.drew w0; have e2 := hE.trans x1; refine wsa rfl rfl rfl (q_move (v := (u32 a0x)) rfl rfl) ?_; refine wsa rfl rfl rfl (q_move (v := (i64 a1n)) rfl rfl) ?_; obtain ⟨c3, hc3, H⟩ := bsi H; refine wsa rfl rfl rfl (q_shr32 c3 rfl rfl rfl (cnt_eq hc3)) ?_; refine wsa rfl rfl rfl (q_move (v := (u32 a0x)) rfl rfl) ?_; refine wsa rfl rfl rfl (q_move (v := (i64 a1n)) rfl rfl) ?_; refine wsa rfl rfl rfl (q_subI rfl rfl rfl) ?_; obtain ⟨c4, hc4, H⟩ := bsi H; refine wsa rfl rfl rfl (q_shl32 c4 rfl rfl rfl (cnt_eq hc4)) ?_; refine wsa rfl rfl rfl (q_or32 rfl rfl rfl) ?_; refine wsa rfl rfl rfl (q_assign (v := (u32 (((shr32 a0x c3) ||| (shl32 a0x c4))))) rfl rfl) ?_; refine ws_nil ?_; refine W_th ?_; refine W_ret ?_; obtain rfl := osi H; refine rt1 (u32 (((shr32 a0x c3) ||| (shl32 a0x c4)))) rfl rfl rfl rfl ?_; exact ⟨rfl, e2⟩
noncomputable def ref07_power (a0x : UInt64) (a1n : Int) : Option (List UInt64) :=
((iterC (fun s4 : Int × List UInt64 =>
(if 0 < s4.1 then
((iterC (fun s11 : List UInt64 × List UInt64 × UInt64 × Int =>
(if s11.2.2.2 < (s11.1.length : Int) then
(((if s11.2.2.2 < (s11.1.length : Int) then
((idx s11.1 s11.2.2.2).bind fun c16 => some (s11.2.2.1 + (c16 * a0x)))
else some s11.2.2.1)).bind fun x14 =>
((appL s11.2.1 (([(x14 % (65536 : UInt64))] : List UInt64))).bind fun c20 => some (.inl (s11.1, c20, (x14 / (65536 : UInt64)), (wI (s11.2.2.2 + 1))))))
else
(if (0 : UInt64) < s11.2.2.1 then
(((if s11.2.2.2 < (s11.1.length : Int) then
((idx s11.1 s11.2.2.2).bind fun c28 => some (s11.2.2.1 + (c28 * a0x)))
else some s11.2.2.1)).bind fun x26 =>
((appL s11.2.1 (([(x26 % (65536 : UInt64))] : List UInt64))).bind fun c32 => some (.inl (s11.1, c32, (x26 / (65536 : UInt64)), (wI (s11.2.2.2 + 1))))))
else some (.inr s11.2.1)))) (s4.2, ([] : List UInt64), (0 : UInt64), 0)).bind fun x11 => some (.inl ((wI (s4.1 - 1)), x11)))
else some (.inr s4.2))) (a1n, ([(1 : UInt64)] : List UInt64))).bind fun x4 => some x4)
set_option maxRecDepth 100000 in
set_option maxHeartbeats 8000000 in
theorem ref07_power_calls (a0x : UInt64) (a1n : Int) (r : List UInt64) (w0 : World) (H : ref07_power a0x a1n = some r) :
    Calls Try.prog 90 [(u64 a0x), (i64 a1n)].toArray w0 (fun e w' => ∃ u0 : Value, e = .returned u0 ∧ Ext w0 w' ∧ Nw w0 u0 ∧ OwK (Sc u64) w' [] 44 u0 r) := by
  have hE : Ext w0 w0 := Ext.refl w0; unfold ref07_power at H; refine calls_W (n := 46) Try.func90 rfl rfl rfl ?_; refine W_seq ?_; refine W_reg (by kernel_rfl) ?_; refine wla rfl rfl (q_assign (v := (.slice none 0 0)) rfl rfl) ?_; refine wl_nil ?_; refine W_th ?_; refine W_seq ?_; refine W_reg (by kernel_rfl) ?_; refine wls rfl rfl (stp_lit (L := []) (R := (Sc u64)) [(u64 1)] ([(1 : UInt64)] : List UInt64) rfl T96 rfl (by exact ⟨rfl, (cst64 (1 : UInt64) rfl), trivial⟩) rfl (litC u64 (oneC_u64) (us := [(u64 1)]) (l := ([(1 : UInt64)] : List UInt64)) rfl) rfl (litS u64 (us := [(u64 1)]) (l := ([(1 : UInt64)] : List UInt64)) rfl) ?_); intro v1 w1 o1 n1 g1 l1; have x1 := grown_ext g1; have n3 := Nw.ext hE n1; have e2 := hE.trans x1; refine wla rfl rfl (q_assign (v := v1) rfl rfl) ?_; refine wl_nil ?_; refine W_th ?_; refine W_seq ?_; obtain ⟨x4, G4, H⟩ := bsi H; refine W_mid (fun f w => ∃ v5_42 : Value, f 5 = v5_42 ∧ f 46 = undef ∧ Ext w0 w ∧ OwK (Sc u64) w [v5_42] 44 v5_42 x4 ∧ Nw w0 v5_42) ?_ ?_
  · refine W_block ?_; refine W_loop (fun s4 f w => ∃ v5_40 : Value, f 0 = (u64 a0x) ∧ f 1 = (i64 s4.1) ∧ f 5 = v5_40 ∧ f 46 = undef ∧ Ext w0 w ∧ OwK (Sc u64) w [v5_40] 44 v5_40 s4.2 ∧ Nw w0 v5_40) G4 ?_ ?_
    · exact ⟨v1, rfl, rfl, rfl, rfl, e2, o1, n3⟩
    rintro s4 _ _ w5 ⟨v5_5, s0_5, s1_5, s5_5, s46_5, hE5, o0_5, n0_5⟩ H4 hr4; refine W_seq ?_; refine W_seq ?_; refine W_reg (by kernel_rfl) ?_; refine wla rfl rfl (q_move (v := (i64 s4.1)) rfl s1_5) ?_; refine wla rfl rfl (q_gtI rfl rfl rfl) ?_; refine wl_nil ?_; refine W_th ?_; refine W_cond _ rfl rfl (fun hb6 => ?_) (fun hb6 => ?_)
    · replace H4 := (if_pos (of_decide_eq_true hb6)).symm.trans H4; refine W_skip ?_; refine W_th ?_; refine W_seq ?_; refine W_block ?_; refine W_seq ?_; refine W_reg (by kernel_rfl) ?_; refine wls rfl rfl (stp_lit (L := [v5_5]) (R := (Sc u64)) [] ([] : List UInt64) rfl T96 rfl (by exact trivial) rfl (litC u64 (oneC_u64) (us := []) (l := ([] : List UInt64)) rfl) rfl (litS u64 (us := []) (l := ([] : List UInt64)) rfl) ?_); intro v7 w7 o7 n7 g7 l7; have x7 := grown_ext g7; have q8 : Nq v5_5 v7 := o0_5.nq n7; replace o0_5 := o0_5.extL (Sc.stab _) x7 (Lift.call _ x7 n7); have n10 := Nw.ext hE5 n7; have e9 := hE5.trans x7; refine wla rfl rfl (q_assign (v := v7) rfl rfl) ?_; refine wl_nil ?_; refine W_th ?_; refine W_seq ?_; refine W_reg (by kernel_rfl) ?_; refine wla rfl rfl (q_assign (v := (u64 0)) rfl (cst64 (0 : UInt64) rfl)) ?_; refine wl_nil ?_; refine W_th ?_; refine W_seq ?_; refine W_seq ?_; refine W_reg (by kernel_rfl) ?_; refine wla rfl rfl (q_assign (v := (i64 0)) rfl rfl) ?_; refine wl_nil ?_; refine W_th ?_; obtain ⟨x11, G11, H4⟩ := bsi H4; refine W_mid (fun f w => ∃ v6_39 : Value, f 0 = (u64 a0x) ∧ f 1 = (i64 s4.1) ∧ f 6 = v6_39 ∧ f 46 = undef ∧ Ext w0 w ∧ OwK (Sc u64) w [v6_39] 44 v6_39 x11 ∧ Nw w0 v6_39) ?_ ?_
      · refine W_block ?_; refine W_loop (fun s11 f w => ∃ v6_37 : Value, f 0 = (u64 a0x) ∧ f 1 = (i64 s4.1) ∧ f 5 = v5_5 ∧ f 6 = v6_37 ∧ f 7 = (u64 s11.2.2.1) ∧ f 8 = (i64 s11.2.2.2) ∧ f 46 = undef ∧ Ext w0 w ∧ OwK (Sc u64) w [v5_5, v6_37] 44 v5_5 s11.1 ∧ Nw w0 v5_5 ∧ OwK (Sc u64) w [v5_5, v6_37] 44 v6_37 s11.2.1 ∧ Nw w0 v6_37 ∧ Nq v5_5 v6_37) G11 ?_ ?_
        · exact ⟨v7, s0_5, s1_5, s5_5, rfl, rfl, rfl, s46_5, e9, (o0_5.weak (Sc.stab _) (fun _ h => ⟨h.2.1, h.1, trivial⟩)), n0_5, (o7.weak (Sc.stab _) (fun _ h => ⟨h.2.1, h.1, trivial⟩)), n10, q8⟩
        rintro s11 _ _ w12 ⟨v6_12, s0_12, s1_12, s5_12, s6_12, s7_12, s8_12, s46_12, hE12, o0_12, n0_12, o1_12, n1_12, q0_1_12⟩ H11 hr11; refine W_seq ?_; refine W_seq ?_; refine W_reg (by kernel_rfl) ?_; refine wla rfl rfl (q_move (v := (i64 s11.2.2.2)) rfl s8_12) ?_; refine wla rfl rfl (q_move (v := v5_5) rfl s5_12) ?_; refine wla rfl rfl (q_len rfl T96.sl rfl (o0_12.rd (Sc.stab _))) ?_; refine wla rfl rfl (q_ltI rfl rfl rfl) ?_; refine wlb rfl rfl (q_move (v := (.bool ((decide (s11.2.2.2 < (s11.1.length : Int)))))) rfl rfl) (fun hb13 => ?_) (fun hb13 => ?_)
        · replace H11 := (if_pos (of_decide_eq_true hb13)).symm.trans H11; refine wlk rfl rfl ?_; refine wlk rfl rfl ?_; refine wla rfl rfl (q_pick_t (v := (.bool true)) rfl rfl rfl) ?_; refine wl_nil ?_; refine W_th ?_; refine W_cond true rfl rfl (fun _ => ?_) (fun hb => by cases hb); refine W_skip ?_; refine W_th ?_; refine W_seq ?_; refine W_block ?_; refine W_seq ?_; obtain ⟨x14, H14, H11⟩ := bsi H11; refine W_mid (fun f w => f 0 = (u64 a0x) ∧ f 1 = (i64 s4.1) ∧ f 5 = v5_5 ∧ f 6 = v6_12 ∧ f 7 = (u64 x14) ∧ f 8 = (i64 s11.2.2.2) ∧ f 46 = undef ∧ Ext w0 w ∧ OwK (Sc u64) w [v5_5, v6_12] 44 v5_5 s11.1 ∧ Nw w0 v5_5 ∧ OwK (Sc u64) w [v5_5, v6_12] 44 v6_12 s11.2.1 ∧ Nw w0 v6_12 ∧ Nq v5_5 v6_12) ?_ ?_
          · refine W_seq ?_; refine W_reg (by kernel_rfl) ?_; refine wla rfl rfl (q_move (v := (i64 s11.2.2.2)) rfl s8_12) ?_; refine wla rfl rfl (q_move (v := v5_5) rfl s5_12) ?_; refine wla rfl rfl (q_len rfl T96.sl rfl (o0_12.rd (Sc.stab _))) ?_; refine wla rfl rfl (q_ltI rfl rfl rfl) ?_; refine wl_nil ?_; refine W_th ?_; refine W_cond _ rfl rfl (fun hb15 => ?_) (fun hb15 => ?_)
            · replace H14 := (if_pos (of_decide_eq_true hb15)).symm.trans H14; refine W_reg (by kernel_rfl) ?_; refine wla rfl rfl (q_move (v := (u64 s11.2.2.1)) rfl s7_12) ?_; refine wla rfl rfl (q_move (v := v5_5) rfl s5_12) ?_; refine wla rfl rfl (q_move (v := (i64 s11.2.2.2)) rfl s8_12) ?_; obtain ⟨c16, hc16, H14⟩ := bsi H14; refine wla rfl rfl (q_adr rfl T96 rfl rfl (o0_12.rd (Sc.stab _)) hc16) ?_; refine wlq rfl rfl (q_loadS rfl T96 rfl (o0_12.rd (Sc.stab _)) hc16) ?_; refine wla rfl rfl (q_move (v := (u64 a0x)) rfl s0_12) ?_; refine wla rfl rfl (q_mul64 rfl rfl rfl) ?_; refine wla rfl rfl (q_add64 rfl rfl rfl) ?_; refine wla rfl rfl (q_assign (v := (u64 ((s11.2.2.1 + (c16 * a0x))))) rfl rfl) ?_; refine wl_nil ?_; obtain rfl := osi H14; exact ⟨s0_12, s1_12, s5_12, s6_12, rfl, s8_12, s46_12, hE12, o0_12, n0_12, o1_12, n1_12, q0_1_12⟩
            replace H14 := (if_neg (of_decide_eq_false hb15)).symm.trans H14; refine W_skip ?_; obtain rfl := osi H14; exact ⟨s0_12, s1_12, s5_12, s6_12, s7_12, s8_12, s46_12, hE12, o0_12, n0_12, o1_12, n1_12, q0_1_12⟩
          rintro _ w17 ⟨s0_17, s1_17, s5_17, s6_17, s7_17, s8_17, s46_17, hE17, o0_17, n0_17, o1_17, n1_17, q0_1_17⟩; refine W_th ?_; refine W_seq ?_; refine W_reg (by kernel_rfl) ?_; refine wla rfl rfl (q_move (v := v6_12) rfl s6_17) ?_; refine wla rfl rfl (q_move (v := (u64 x14)) rfl s7_17) ?_; refine wla rfl rfl (q_rem64 rfl rfl (cst64 (65536 : UInt64) rfl) (by decide)) ?_; refine wls rfl rfl (stp_lit (L := [v5_5, v6_12]) (R := (Sc u64)) [(u64 ((x14 % (65536 : UInt64))))] ([(x14 % (65536 : UInt64))] : List UInt64) rfl T96 rfl (by exact ⟨rfl, rfl, trivial⟩) rfl (litC u64 (oneC_u64) (us := [(u64 ((x14 % (65536 : UInt64))))]) (l := ([(x14 % (65536 : UInt64))] : List UInt64)) rfl) rfl (litS u64 (us := [(u64 ((x14 % (65536 : UInt64))))]) (l := ([(x14 % (65536 : UInt64))] : List UInt64)) rfl) ?_); intro v18 w18 o18 n18 g18 l18; have x18 := grown_ext g18; have i18 : W64 w18 [v5_5, v6_12] v18 (([(x14 % (65536 : UInt64))] : List UInt64)) := OwK.slk (Sc.stab _) _ o18 (fun k hk => (Old.cons (Old.cons (Old.nil _) o1_17.lt) o0_17.lt) k (n18 k hk)) (fun _ h => h.2); replace o0_17 := o0_17.extL (Sc.stab _) x18 (Lift.ext x18 _); replace o1_17 := o1_17.extL (Sc.stab _) x18 (Lift.ext x18 _); have e19 := hE17.trans x18; obtain ⟨c20, hc20, H11⟩ := bsi H11; refine wls rfl rfl (stp_append (R := (Sc u64)) (v := v6_12) (u := v18) (Sc.stab _) [v5_5] [] rfl T96 rfl rfl o1_17 i18 (fun _ _ h => h) hc20 oc_u64 ?_); intro v20 w20 o20 g20 nx20 l20; replace i18 := i18.lift l20; have q21 : Nq v5_5 v20 := o0_17.nxt q0_1_17 nx20; replace o0_17 := o0_17.other (Sc.stab _) g20 q0_1_17 l20; have e22 := e19.grown g20 n1_17; have n23 := Nw.nxt e19 n1_17 nx20; refine wla rfl rfl (q_assign (v := v20) rfl rfl) ?_; refine wl_nil ?_; refine W_th ?_; refine W_reg (by kernel_rfl) ?_; refine wla rfl rfl (q_move (v := (u64 x14)) rfl s7_17) ?_; refine wla rfl rfl (q_quo64 rfl rfl (cst64 (65536 : UInt64) rfl) (by decide)) ?_; refine wla rfl rfl (q_assign (v := (u64 ((x14 / (65536 : UInt64))))) rfl rfl) ?_; refine wl_nil ?_; refine bk_n ?_; refine W_th ?_; refine W_reg (by kernel_rfl) ?_; refine wla rfl rfl (q_move (v := (i64 s11.2.2.2)) rfl s8_17) ?_; refine wla rfl rfl (q_addI rfl rfl rfl) ?_; refine wla rfl rfl (q_assign (v := (i64 ((wI (s11.2.2.2 + 1))))) rfl rfl) ?_; refine wl_nil ?_; obtain rfl := osi H11; exact ⟨_, rfl, v20, s0_17, s1_17, s5_17, rfl, rfl, rfl, s46_17, e22, o0_17, n0_17, o20, n23, q21⟩
        replace H11 := (if_neg (of_decide_eq_false hb13)).symm.trans H11; refine wla rfl rfl (q_move (v := (u64 s11.2.2.1)) rfl s7_12) ?_; refine wla rfl rfl (q_gt64 rfl rfl (cst64 (0 : UInt64) rfl)) ?_; refine wla rfl rfl (q_pick_f (v := (.bool ((decide ((0 : UInt64) < s11.2.2.1))))) rfl rfl rfl) ?_; refine wl_nil ?_; refine W_th ?_; refine W_cond _ rfl rfl (fun hb25 => ?_) (fun hb25 => ?_)
        · replace H11 := (if_pos (of_decide_eq_true hb25)).symm.trans H11; refine W_skip ?_; refine W_th ?_; refine W_seq ?_; refine W_block ?_; refine W_seq ?_; obtain ⟨x26, H26, H11⟩ := bsi H11; refine W_mid (fun f w => f 0 = (u64 a0x) ∧ f 1 = (i64 s4.1) ∧ f 5 = v5_5 ∧ f 6 = v6_12 ∧ f 7 = (u64 x26) ∧ f 8 = (i64 s11.2.2.2) ∧ f 46 = undef ∧ Ext w0 w ∧ OwK (Sc u64) w [v5_5, v6_12] 44 v5_5 s11.1 ∧ Nw w0 v5_5 ∧ OwK (Sc u64) w [v5_5, v6_12] 44 v6_12 s11.2.1 ∧ Nw w0 v6_12 ∧ Nq v5_5 v6_12) ?_ ?_
          · refine W_seq ?_; refine W_reg (by kernel_rfl) ?_; refine wla rfl rfl (q_move (v := (i64 s11.2.2.2)) rfl s8_12) ?_; refine wla rfl rfl (q_move (v := v5_5) rfl s5_12) ?_; refine wla rfl rfl (q_len rfl T96.sl rfl (o0_12.rd (Sc.stab _))) ?_; refine wla rfl rfl (q_ltI rfl rfl rfl) ?_; refine wl_nil ?_; refine W_th ?_; refine W_cond _ rfl rfl (fun hb27 => ?_) (fun hb27 => ?_)
            · replace H26 := (if_pos (of_decide_eq_true hb27)).symm.trans H26; refine W_reg (by kernel_rfl) ?_; refine wla rfl rfl (q_move (v := (u64 s11.2.2.1)) rfl s7_12) ?_; refine wla rfl rfl (q_move (v := v5_5) rfl s5_12) ?_; refine wla rfl rfl (q_move (v := (i64 s11.2.2.2)) rfl s8_12) ?_; obtain ⟨c28, hc28, H26⟩ := bsi H26; refine wla rfl rfl (q_adr rfl T96 rfl rfl (o0_12.rd (Sc.stab _)) hc28) ?_; refine wlq rfl rfl (q_loadS rfl T96 rfl (o0_12.rd (Sc.stab _)) hc28) ?_; refine wla rfl rfl (q_move (v := (u64 a0x)) rfl s0_12) ?_; refine wla rfl rfl (q_mul64 rfl rfl rfl) ?_; refine wla rfl rfl (q_add64 rfl rfl rfl) ?_; refine wla rfl rfl (q_assign (v := (u64 ((s11.2.2.1 + (c28 * a0x))))) rfl rfl) ?_; refine wl_nil ?_; obtain rfl := osi H26; exact ⟨s0_12, s1_12, s5_12, s6_12, rfl, s8_12, s46_12, hE12, o0_12, n0_12, o1_12, n1_12, q0_1_12⟩
            replace H26 := (if_neg (of_decide_eq_false hb27)).symm.trans H26; refine W_skip ?_; obtain rfl := osi H26; exact ⟨s0_12, s1_12, s5_12, s6_12, s7_12, s8_12, s46_12, hE12, o0_12, n0_12, o1_12, n1_12, q0_1_12⟩
          rintro _ w29 ⟨s0_29, s1_29, s5_29, s6_29, s7_29, s8_29, s46_29, hE29, o0_29, n0_29, o1_29, n1_29, q0_1_29⟩; refine W_th ?_; refine W_seq ?_; refine W_reg (by kernel_rfl) ?_; refine wla rfl rfl (q_move (v := v6_12) rfl s6_29) ?_; refine wla rfl rfl (q_move (v := (u64 x26)) rfl s7_29) ?_; refine wla rfl rfl (q_rem64 rfl rfl (cst64 (65536 : UInt64) rfl) (by decide)) ?_; refine wls rfl rfl (stp_lit (L := [v5_5, v6_12]) (R := (Sc u64)) [(u64 ((x26 % (65536 : UInt64))))] ([(x26 % (65536 : UInt64))] : List UInt64) rfl T96 rfl (by exact ⟨rfl, rfl, trivial⟩) rfl (litC u64 (oneC_u64) (us := [(u64 ((x26 % (65536 : UInt64))))]) (l := ([(x26 % (65536 : UInt64))] : List UInt64)) rfl) rfl (litS u64 (us := [(u64 ((x26 % (65536 : UInt64))))]) (l := ([(x26 % (65536 : UInt64))] : List UInt64)) rfl) ?_); intro v30 w30 o30 n30 g30 l30; have x30 := grown_ext g30; have i30 : W64 w30 [v5_5, v6_12] v30 (([(x26 % (65536 : UInt64))] : List UInt64)) := OwK.slk (Sc.stab _) _ o30 (fun k hk => (Old.cons (Old.cons (Old.nil _) o1_29.lt) o0_29.lt) k (n30 k hk)) (fun _ h => h.2); replace o0_29 := o0_29.extL (Sc.stab _) x30 (Lift.ext x30 _); replace o1_29 := o1_29.extL (Sc.stab _) x30 (Lift.ext x30 _); have e31 := hE29.trans x30; obtain ⟨c32, hc32, H11⟩ := bsi H11; refine wls rfl rfl (stp_append (R := (Sc u64)) (v := v6_12) (u := v30) (Sc.stab _) [v5_5] [] rfl T96 rfl rfl o1_29 i30 (fun _ _ h => h) hc32 oc_u64 ?_); intro v32 w32 o32 g32 nx32 l32; replace i30 := i30.lift l32; have q33 : Nq v5_5 v32 := o0_29.nxt q0_1_29 nx32; replace o0_29 := o0_29.other (Sc.stab _) g32 q0_1_29 l32; have e34 := e31.grown g32 n1_29; have n35 := Nw.nxt e31 n1_29 nx32; refine wla rfl rfl (q_assign (v := v32) rfl rfl) ?_; refine wl_nil ?_; refine W_th ?_; refine W_reg (by kernel_rfl) ?_; refine wla rfl rfl (q_move (v := (u64 x26)) rfl s7_29) ?_; refine wla rfl rfl (q_quo64 rfl rfl (cst64 (65536 : UInt64) rfl) (by decide)) ?_; refine wla rfl rfl (q_assign (v := (u64 ((x26 / (65536 : UInt64))))) rfl rfl) ?_; refine wl_nil ?_; refine bk_n ?_; refine W_th ?_; refine W_reg (by kernel_rfl) ?_; refine wla rfl rfl (q_move (v := (i64 s11.2.2.2)) rfl s8_29) ?_; refine wla rfl rfl (q_addI rfl rfl rfl) ?_; refine wla rfl rfl (q_assign (v := (i64 ((wI (s11.2.2.2 + 1))))) rfl rfl) ?_; refine wl_nil ?_; obtain rfl := osi H11; exact ⟨_, rfl, v32, s0_29, s1_29, s5_29, rfl, rfl, rfl, s46_29, e34, o0_29, n0_29, o32, n35, q33⟩
        replace H11 := (if_neg (of_decide_eq_false hb25)).symm.trans H11; refine W_exit ?_; refine th_x ?_; obtain rfl := osi H11; obtain rfl := hr11 _ rfl; refine th_x ?_; refine bk_x ?_; exact ⟨v6_12, s0_12, s1_12, s6_12, s46_12, hE12, (o1_12.weak (Sc.stab _) (fun _ h => ⟨h.2.1, trivial⟩)), n1_12⟩
      rintro _ w38 ⟨v6_38, s0_38, s1_38, s6_38, s46_38, hE38, o0_38, n0_38⟩; refine W_th ?_; refine W_reg (by kernel_rfl) ?_; refine wla rfl rfl (q_move (v := v6_38) rfl s6_38) ?_; refine wla rfl rfl (q_assign (v := v6_38) rfl rfl) ?_; refine wl_nil ?_; refine bk_n ?_; refine W_th ?_; refine W_reg (by kernel_rfl) ?_; refine wla rfl rfl (q_move (v := (i64 s4.1)) rfl s1_38) ?_; refine wla rfl rfl (q_subI rfl rfl rfl) ?_; refine wla rfl rfl (q_assign (v := (i64 ((wI (s4.1 - 1))))) rfl rfl) ?_; refine wl_nil ?_; obtain rfl := osi H4; exact ⟨_, rfl, v6_38, s0_38, rfl, rfl, s46_38, hE38, o0_38, n0_38⟩
    replace H4 := (if_neg (of_decide_eq_false hb6)).symm.trans H4; refine W_exit ?_; refine th_x ?_; obtain rfl := osi H4; obtain rfl := hr4 _ rfl; refine th_x ?_; refine bk_x ?_; exact ⟨v5_5, s5_5, s46_5, hE5, o0_5, n0_5⟩
  rintro _ w41 ⟨v5_41, s5_41, s46_41, hE41, o0_41, n0_41⟩; refine W_th ?_; refine W_seq ?_; refine W_reg (by kernel_rfl) ?_; refine wla rfl rfl (q_move (v := v5_41) rfl s5_41) ?_; refine wla rfl rfl (q_assign (v := v5_41) rfl rfl) ?_; refine wl_nil ?_; refine W_th ?_; refine W_ret ?_; obtain rfl := osi H; refine rt1 v5_41 rfl rfl rfl s46_41 ?_; exact ⟨v5_41, rfl, hE41, n0_41, (o0_41.weak (Sc.stab _) (fun _ _ => trivial))⟩
noncomputable def ref07_above (a0x : UInt64) (a1p : UInt64) (a2n : Int) : Option Bool :=
((ref07_power a0x a2n).bind fun r1 =>
((makeL ((wI (2 * a2n))) (0 : UInt64)).bind fun c3 =>
((appL c3 (([a1p] : List UInt64))).bind fun c8 =>
((iterC (fun s11 : Int =>
(if 0 ≤ s11 then
(((if s11 < (r1.length : Int) then
((idx r1 s11).bind fun c16 => some c16)
else some (0 : UInt64))).bind fun x14 =>
(if s11 < (c8.length : Int) then
((idx c8 s11).bind fun c19 =>
(if x14 = c19 then some (.inl (wI (s11 - 1)))
else some (.inr (.inr (decide (c19 < x14))))))
else
(if x14 = (0 : UInt64) then some (.inl (wI (s11 - 1)))
else some (.inr (.inr (decide ((0 : UInt64) < x14)))))))
else some (.inr (.inl ())))) 15).bind (Sum.elim (fun y11 => some false) (fun q11 => some q11))))))
set_option maxRecDepth 100000 in
set_option maxHeartbeats 8000000 in
theorem ref07_above_calls (a0x : UInt64) (a1p : UInt64) (a2n : Int) (r : Bool) (w0 : World) (H : ref07_above a0x a1p a2n = some r) :
    Calls Try.prog 83 [(u64 a0x), (u64 a1p), (i64 a2n)].toArray w0 (fun e w' => e = .returned (.bool r) ∧ Ext w0 w') := by
  have hE : Ext w0 w0 := Ext.refl w0; unfold ref07_above at H; refine calls_W (n := 48) Try.func83 rfl rfl rfl ?_; refine W_seq ?_; refine W_reg (by kernel_rfl) ?_; refine wla rfl rfl (q_assign (v := (.bool false)) rfl rfl) ?_; refine wl_nil ?_; refine W_th ?_; refine W_seq ?_; refine W_reg (by kernel_rfl) ?_; refine wla rfl rfl (q_move (v := (u64 a0x)) rfl rfl) ?_; refine wla rfl rfl (q_move (v := (i64 a2n)) rfl rfl) ?_; obtain ⟨r1, hr1, H⟩ := bsi H; refine wls rfl rfl (stp_call (vs := [(u64 a0x), (i64 a2n)]) Try.func90 rfl rfl rfl (ar2 rfl rfl) (ref07_power_calls a0x a2n  r1 _  hr1) ?_); rintro _ w1 ⟨v1, rfl, x1, n1_0, o1_0⟩; refine ⟨_, rfl, ?_⟩; have i1_0 : W64 w1 [] v1 r1 := OwK.slk (Sc.stab _) _ (OwK.scal o1_0 (v1 :: [])) (fun k hk => (Old.nil _) k (n1_0 k hk)) (fun _ h => h.2); have e2 := hE.trans x1; refine wla rfl rfl (q_assign (v := v1) rfl rfl) ?_; refine wl_nil ?_; refine W_th ?_; refine W_seq ?_; refine W_reg (by kernel_rfl) ?_; refine wla rfl rfl (q_move (v := (i64 a2n)) rfl rfl) ?_; refine wla rfl rfl (q_mulI rfl rfl rfl) ?_; obtain ⟨c3, hc3, H⟩ := bsi H; refine wls rfl rfl (stp_make (L := []) (R := (Sc u64)) rfl T96 rfl rfl hc3 (fun _ _ => rfl) ?_); intro v3 w3 o3 n3 g3 l3; have x3 := grown_ext g3; replace i1_0 := i1_0.lift (Lift.call _ x3 n3); have n5 := Nw.ext e2 n3; have e4 := e2.trans x3; refine wla rfl rfl (q_assign (v := v3) rfl rfl) ?_; refine wl_nil ?_; refine W_th ?_; refine W_seq ?_; refine W_reg (by kernel_rfl) ?_; refine wla rfl rfl (q_move (v := v3) rfl rfl) ?_; refine wla rfl rfl (q_move (v := (u64 a1p)) rfl rfl) ?_; refine wls rfl rfl (stp_lit (L := [v3]) (R := (Sc u64)) [(u64 a1p)] ([a1p] : List UInt64) rfl T96 rfl (by exact ⟨rfl, rfl, trivial⟩) rfl (litC u64 (oneC_u64) (us := [(u64 a1p)]) (l := ([a1p] : List UInt64)) rfl) rfl (litS u64 (us := [(u64 a1p)]) (l := ([a1p] : List UInt64)) rfl) ?_); intro v6 w6 o6 n6 g6 l6; have x6 := grown_ext g6; have i6 : W64 w6 [v3] v6 (([a1p] : List UInt64)) := OwK.slk (Sc.stab _) _ o6 (fun k hk => (Old.cons (Old.nil _) o3.lt) k (n6 k hk)) (fun _ h => h.2); replace i1_0 := i1_0.lift (Lift.ext x6 _); replace o3 := o3.extL (Sc.stab _) x6 (Lift.ext x6 _); have e7 := e4.trans x6; obtain ⟨c8, hc8, H⟩ := bsi H; refine wls rfl rfl (stp_append (R := (Sc u64)) (v := v3) (u := v6) (Sc.stab _) [] [] rfl T96 rfl rfl o3 i6 (fun _ _ h => h) hc8 oc_u64 ?_); intro v8 w8 o8 g8 nx8 l8; replace i1_0 := i1_0.lift l8; replace i6 := i6.lift l8; have e9 := e7.grown g8 n5; have n10 := Nw.nxt e7 n5 nx8; refine wla rfl rfl (q_assign (v := v8) rfl rfl) ?_; refine wl_nil ?_; refine W_th ?_; refine W_seq ?_; refine W_seq ?_; refine W_reg (by kernel_rfl) ?_; refine wla rfl rfl (q_assign (v := (i64 15)) rfl rfl) ?_; refine wl_nil ?_; refine W_th ?_; obtain ⟨x11, G11, H⟩ := bsi H; refine W_mid (fun f w => ∃ y11, x11 = .inl y11 ∧ f 48 = undef ∧ Ext w0 w) ?_ ?_
  · refine W_block ?_; refine W_loop (fun s11 f w => f 7 = v1 ∧ f 8 = v8 ∧ f 9 = (i64 s11) ∧ f 48 = undef ∧ Ext w0 w ∧ OwK (Sc u64) w [v8] 44 v8 c8 ∧ Nw w0 v8 ∧ W64 w [v8] v1 r1) G11 ?_ ?_
    · exact ⟨rfl, rfl, rfl, rfl, e9, o8, n10, i1_0⟩
    rintro s11 _ _ w12 ⟨s7_12, s8_12, s9_12, s48_12, hE12, o0_12, n0_12, i0_12⟩ H11 hr11; refine W_seq ?_; refine W_seq ?_; refine W_reg (by kernel_rfl) ?_; refine wla rfl rfl (q_move (v := (i64 s11)) rfl s9_12) ?_; refine wla rfl rfl (q_geI rfl rfl rfl) ?_; refine wl_nil ?_; refine W_th ?_; refine W_cond _ rfl rfl (fun hb13 => ?_) (fun hb13 => ?_)
    · replace H11 := (if_pos (of_decide_eq_true hb13)).symm.trans H11; refine W_skip ?_; refine W_th ?_; refine W_seq ?_; refine W_block ?_; refine W_seq ?_; refine W_reg (by kernel_rfl) ?_; refine wla rfl rfl (q_assign (v := (u64 0)) rfl (cst64 (0 : UInt64) rfl)) ?_; refine wla rfl rfl (q_assign (v := (u64 0)) rfl (cst64 (0 : UInt64) rfl)) ?_; refine wl_nil ?_; refine W_th ?_; refine W_seq ?_; obtain ⟨x14, H14, H11⟩ := bsi H11; refine W_mid (fun f w => f 7 = v1 ∧ f 8 = v8 ∧ f 9 = (i64 s11) ∧ f 10 = (u64 x14) ∧ f 11 = (u64 0) ∧ f 48 = undef ∧ Ext w0 w ∧ OwK (Sc u64) w [v8] 44 v8 c8 ∧ Nw w0 v8 ∧ W64 w [v8] v1 r1) ?_ ?_
      · refine W_seq ?_; refine W_reg (by kernel_rfl) ?_; refine wla rfl rfl (q_move (v := (i64 s11)) rfl s9_12) ?_; refine wla rfl rfl (q_move (v := v1) rfl s7_12) ?_; refine wla rfl rfl (q_len rfl T96.sl rfl i0_12) ?_; refine wla rfl rfl (q_ltI rfl rfl rfl) ?_; refine wl_nil ?_; refine W_th ?_; refine W_cond _ rfl rfl (fun hb15 => ?_) (fun hb15 => ?_)
        · replace H14 := (if_pos (of_decide_eq_true hb15)).symm.trans H14; refine W_reg (by kernel_rfl) ?_; refine wla rfl rfl (q_move (v := v1) rfl s7_12) ?_; refine wla rfl rfl (q_move (v := (i64 s11)) rfl s9_12) ?_; obtain ⟨c16, hc16, H14⟩ := bsi H14; refine wla rfl rfl (q_adr rfl T96 rfl rfl i0_12 hc16) ?_; refine wlq rfl rfl (q_loadS rfl T96 rfl i0_12 hc16) ?_; refine wla rfl rfl (q_assign (v := (u64 c16)) rfl rfl) ?_; refine wl_nil ?_; obtain rfl := osi H14; exact ⟨s7_12, s8_12, s9_12, rfl, rfl, s48_12, hE12, o0_12, n0_12, i0_12⟩
        replace H14 := (if_neg (of_decide_eq_false hb15)).symm.trans H14; refine W_skip ?_; obtain rfl := osi H14; exact ⟨s7_12, s8_12, s9_12, rfl, rfl, s48_12, hE12, o0_12, n0_12, i0_12⟩
      rintro _ w17 ⟨s7_17, s8_17, s9_17, s10_17, s11_17, s48_17, hE17, o0_17, n0_17, i0_17⟩; refine W_th ?_; refine W_seq ?_; refine W_seq ?_; refine W_reg (by kernel_rfl) ?_; refine wla rfl rfl (q_move (v := (i64 s11)) rfl s9_17) ?_; refine wla rfl rfl (q_move (v := v8) rfl s8_17) ?_; refine wla rfl rfl (q_len rfl T96.sl rfl (o0_17.rd (Sc.stab _))) ?_; refine wla rfl rfl (q_ltI rfl rfl rfl) ?_; refine wl_nil ?_; refine W_th ?_; refine W_cond _ rfl rfl (fun hb18 => ?_) (fun hb18 => ?_)
      · replace H11 := (if_pos (of_decide_eq_true hb18)).symm.trans H11; refine W_reg (by kernel_rfl) ?_; refine wla rfl rfl (q_move (v := v8) rfl s8_17) ?_; refine wla rfl rfl (q_move (v := (i64 s11)) rfl s9_17) ?_; obtain ⟨c19, hc19, H11⟩ := bsi H11; refine wla rfl rfl (q_adr rfl T96 rfl rfl (o0_17.rd (Sc.stab _)) hc19) ?_; refine wlq rfl rfl (q_loadS rfl T96 rfl (o0_17.rd (Sc.stab _)) hc19) ?_; refine wla rfl rfl (q_assign (v := (u64 c19)) rfl rfl) ?_; refine wl_nil ?_; refine W_th ?_; refine W_seq ?_; refine W_reg (by kernel_rfl) ?_; refine wla rfl rfl (q_move (v := (u64 x14)) rfl s10_17) ?_; refine wla rfl rfl (q_move (v := (u64 c19)) rfl rfl) ?_; refine wla rfl rfl (q_ne64 rfl rfl rfl) ?_; refine wl_nil ?_; refine W_th ?_; refine W_cond _ rfl rfl (fun hb20 => ?_) (fun hb20 => ?_)
        · replace H11 := (if_neg (ndec_t hb20)).symm.trans H11; refine W_seq ?_; refine W_reg (by kernel_rfl) ?_; refine wla rfl rfl (q_move (v := (u64 x14)) rfl s10_17) ?_; refine wla rfl rfl (q_move (v := (u64 c19)) rfl rfl) ?_; refine wla rfl rfl (q_gt64 rfl rfl rfl) ?_; refine wla rfl rfl (q_assign (v := (.bool ((decide (c19 < x14))))) rfl rfl) ?_; refine wl_nil ?_; refine W_th ?_; refine W_ret ?_; refine bk_r ?_; refine th_r ?_; obtain rfl := osi H11; obtain rfl := hr11 _ rfl; simp only [Sum.elim_inr] at H; refine th_r ?_; refine bk_r ?_; refine th_r ?_; refine th_r ?_; obtain rfl := osi H; refine rt1 (.bool ((decide (c19 < x14)))) rfl rfl rfl s48_17 ?_; exact ⟨rfl, hE17⟩
        replace H11 := (if_pos (ndec_f hb20)).symm.trans H11; refine W_skip ?_; refine bk_n ?_; refine W_th ?_; refine W_reg (by kernel_rfl) ?_; refine wla rfl rfl (q_move (v := (i64 s11)) rfl s9_17) ?_; refine wla rfl rfl (q_subI rfl rfl rfl) ?_; refine wla rfl rfl (q_assign (v := (i64 ((wI (s11 - 1))))) rfl rfl) ?_; refine wl_nil ?_; obtain rfl := osi H11; exact ⟨_, rfl, s7_17, s8_17, rfl, s48_17, hE17, o0_17, n0_17, i0_17⟩
      replace H11 := (if_neg (of_decide_eq_false hb18)).symm.trans H11; refine W_skip ?_; refine W_th ?_; refine W_seq ?_; refine W_reg (by kernel_rfl) ?_; refine wla rfl rfl (q_move (v := (u64 x14)) rfl s10_17) ?_; refine wla rfl rfl (q_move (v := (u64 0)) rfl s11_17) ?_; refine wla rfl rfl (q_ne64 rfl rfl rfl) ?_; refine wl_nil ?_; refine W_th ?_; refine W_cond _ rfl rfl (fun hb21 => ?_) (fun hb21 => ?_)
      · replace H11 := (if_neg (ndec_t hb21)).symm.trans H11; refine W_seq ?_; refine W_reg (by kernel_rfl) ?_; refine wla rfl rfl (q_move (v := (u64 x14)) rfl s10_17) ?_; refine wla rfl rfl (q_move (v := (u64 0)) rfl s11_17) ?_; refine wla rfl rfl (q_gt64 rfl rfl rfl) ?_; refine wla rfl rfl (q_assign (v := (.bool ((decide ((0 : UInt64) < x14))))) rfl rfl) ?_; refine wl_nil ?_; refine W_th ?_; refine W_ret ?_; refine bk_r ?_; refine th_r ?_; obtain rfl := osi H11; obtain rfl := hr11 _ rfl; simp only [Sum.elim_inr] at H; refine th_r ?_; refine bk_r ?_; refine th_r ?_; refine th_r ?_; obtain rfl := osi H; refine rt1 (.bool ((decide ((0 : UInt64) < x14)))) rfl rfl rfl s48_17 ?_; exact ⟨rfl, hE17⟩
      replace H11 := (if_pos (ndec_f hb21)).symm.trans H11; refine W_skip ?_; refine bk_n ?_; refine W_th ?_; refine W_reg (by kernel_rfl) ?_; refine wla rfl rfl (q_move (v := (i64 s11)) rfl s9_17) ?_; refine wla rfl rfl (q_subI rfl rfl rfl) ?_; refine wla rfl rfl (q_assign (v := (i64 ((wI (s11 - 1))))) rfl rfl) ?_; refine wl_nil ?_; obtain rfl := osi H11; exact ⟨_, rfl, s7_17, s8_17, rfl, s48_17, hE17, o0_17, n0_17, i0_17⟩
    replace H11 := (if_neg (of_decide_eq_false hb13)).symm.trans H11; refine W_exit ?_; refine th_x ?_; obtain rfl := osi H11; obtain rfl := hr11 _ rfl; refine th_x ?_; refine bk_x ?_; exact ⟨_, rfl, s48_12, hE12⟩
  rintro _ w24 ⟨y11, rfl, s48_24, hE24⟩; simp only [Sum.elim_inl] at H; refine W_th ?_; refine W_seq ?_; refine W_reg (by kernel_rfl) ?_; refine wla rfl rfl (q_assign (v := (.bool false)) rfl rfl) ?_; refine wl_nil ?_; refine W_th ?_; refine W_ret ?_; obtain rfl := osi H; refine rt1 (.bool false) rfl rfl rfl s48_24 ?_; exact ⟨rfl, hE24⟩
noncomputable def ref07_Fraction (a0p : UInt64) (a1n : Int) : Option UInt32 :=
((iterC (fun s1 : UInt64 × Int =>
(if 0 ≤ s1.2 then
((cnt s1.2).bind fun c4 =>
((ref07_above (s1.1 + (shl64 ((1 : UInt64)) c4)) a0p a1n).bind fun r5 =>
(if (!r5) = true then
((cnt s1.2).bind fun c8 => some (.inl ((s1.1 + (shl64 ((1 : UInt64)) c8)), (wI (s1.2 - 1)))))
else some (.inl (s1.1, (wI (s1.2 - 1)))))))
else some (.inr s1.1))) ((0 : UInt64), 35)).bind fun x1 => some (x1.toUInt32))
set_option maxRecDepth 100000 in
set_option maxHeartbeats 8000000 in
theorem ref07_Fraction_calls (a0p : UInt64) (a1n : Int) (r : UInt32) (w0 : World) (H : ref07_Fraction a0p a1n = some r) :
    Calls Try.prog 65 [(u64 a0p), (i64 a1n)].toArray w0 (fun e w' => e = .returned (u32 r) ∧ Ext w0 w') := by
  have hE : Ext w0 w0 := Ext.refl w0; unfold ref07_Fraction at H; refine calls_W (n := 25) Try.func65 rfl rfl rfl ?_; refine W_seq ?_; refine W_reg (by kernel_rfl) ?_; refine wla rfl rfl (q_assign (v := (u32 0)) rfl (cst32 (0 : UInt32) rfl)) ?_; refine wl_nil ?_; refine W_th ?_; refine W_seq ?_; refine W_reg (by kernel_rfl) ?_; refine wla rfl rfl (q_assign (v := (u64 0)) rfl (cst64 (0 : UInt64) rfl)) ?_; refine wl_nil ?_; refine W_th ?_; refine W_seq ?_; refine W_seq ?_; refine W_reg (by kernel_rfl) ?_; refine wla rfl rfl (q_assign (v := (i64 35)) rfl rfl) ?_; refine wl_nil ?_; refine W_th ?_; obtain ⟨x1, G1, H⟩ := bsi H; refine W_mid (fun f w => f 5 = (u64 x1) ∧ f 25 = undef ∧ Ext w0 w) ?_ ?_
  · refine W_block ?_; refine W_loop (fun s1 f w => f 0 = (u64 a0p) ∧ f 1 = (i64 a1n) ∧ f 5 = (u64 s1.1) ∧ f 6 = (i64 s1.2) ∧ f 25 = undef ∧ Ext w0 w) G1 ?_ ?_
    · exact ⟨rfl, rfl, rfl, rfl, rfl, hE⟩
    rintro s1 _ _ w2 ⟨s0_2, s1_2, s5_2, s6_2, s25_2, hE2⟩ H1 hr1; refine W_seq ?_; refine W_seq ?_; refine W_reg (by kernel_rfl) ?_; refine wla rfl rfl (q_move (v := (i64 s1.2)) rfl s6_2) ?_; refine wla rfl rfl (q_geI rfl rfl rfl) ?_; refine wl_nil ?_; refine W_th ?_; refine W_cond _ rfl rfl (fun hb3 => ?_) (fun hb3 => ?_)
    · replace H1 := (if_pos (of_decide_eq_true hb3)).symm.trans H1; refine W_skip ?_; refine W_th ?_; refine W_seq ?_; refine W_block ?_; refine W_seq ?_; refine W_reg (by kernel_rfl) ?_; refine wla rfl rfl (q_move (v := (u64 s1.1)) rfl s5_2) ?_; refine wla rfl rfl (q_move (v := (i64 s1.2)) rfl s6_2) ?_; obtain ⟨c4, hc4, H1⟩ := bsi H1; refine wla rfl rfl (q_shl64 c4 rfl (cst64 (1 : UInt64) rfl) rfl (cnt_eq hc4)) ?_; refine wla rfl rfl (q_add64 rfl rfl rfl) ?_; refine wla rfl rfl (q_move (v := (u64 a0p)) rfl s0_2) ?_; refine wla rfl rfl (q_move (v := (i64 a1n)) rfl s1_2) ?_; obtain ⟨r5, hr5, H1⟩ := bsi H1; refine wls rfl rfl (stp_call (vs := [(u64 ((s1.1 + (shl64 ((1 : UInt64)) c4)))), (u64 a0p), (i64 a1n)]) Try.func83 rfl rfl rfl (ar3 rfl rfl rfl) (ref07_above_calls (s1.1 + (shl64 ((1 : UInt64)) c4)) a0p a1n  r5 _  hr5) ?_); rintro _ w5 ⟨rfl, x5⟩; refine ⟨_, rfl, ?_⟩; have e6 := hE2.trans x5; refine wla rfl rfl (q_not rfl rfl) ?_; refine wl_nil ?_; refine W_th ?_; refine W_cond _ rfl rfl (fun hb7 => ?_) (fun hb7 => ?_)
      · replace H1 := (if_pos hb7).symm.trans H1; refine W_reg (by kernel_rfl) ?_; refine wla rfl rfl (q_move (v := (u64 s1.1)) rfl s5_2) ?_; refine wla rfl rfl (q_move (v := (i64 s1.2)) rfl s6_2) ?_; obtain ⟨c8, hc8, H1⟩ := bsi H1; refine wla rfl rfl (q_shl64 c8 rfl (cst64 (1 : UInt64) rfl) rfl (cnt_eq hc8)) ?_; refine wla rfl rfl (q_add64 rfl rfl rfl) ?_; refine wla rfl rfl (q_assign (v := (u64 ((s1.1 + (shl64 ((1 : UInt64)) c8))))) rfl rfl) ?_; refine wl_nil ?_; refine bk_n ?_; refine W_th ?_; refine W_reg (by kernel_rfl) ?_; refine wla rfl rfl (q_move (v := (i64 s1.2)) rfl s6_2) ?_; refine wla rfl rfl (q_subI rfl rfl rfl) ?_; refine wla rfl rfl (q_assign (v := (i64 ((wI (s1.2 - 1))))) rfl rfl) ?_; refine wl_nil ?_; obtain rfl := osi H1; exact ⟨_, rfl, s0_2, s1_2, rfl, rfl, s25_2, e6⟩
      replace H1 := (if_neg (ne_true_of_eq_false hb7)).symm.trans H1; refine W_skip ?_; refine bk_n ?_; refine W_th ?_; refine W_reg (by kernel_rfl) ?_; refine wla rfl rfl (q_move (v := (i64 s1.2)) rfl s6_2) ?_; refine wla rfl rfl (q_subI rfl rfl rfl) ?_; refine wla rfl rfl (q_assign (v := (i64 ((wI (s1.2 - 1))))) rfl rfl) ?_; refine wl_nil ?_; obtain rfl := osi H1; exact ⟨_, rfl, s0_2, s1_2, s5_2, rfl, s25_2, e6⟩
    replace H1 := (if_neg (of_decide_eq_false hb3)).symm.trans H1; refine W_exit ?_; refine th_x ?_; obtain rfl := osi H1; obtain rfl := hr1 _ rfl; refine th_x ?_; refine bk_x ?_; exact ⟨s5_2, s25_2, hE2⟩
  rintro _ w10 ⟨s5_10, s25_10, hE10⟩; refine W_th ?_; refine W_seq ?_; refine W_reg (by kernel_rfl) ?_; refine wla rfl rfl (q_move (v := (u64 x1)) rfl s5_10) ?_; refine wla rfl rfl (q_cvt3264 rfl rfl rfl rfl) ?_; refine wla rfl rfl (q_assign (v := (u32 ((x1.toUInt32)))) rfl rfl) ?_; refine wl_nil ?_; refine W_th ?_; refine W_ret ?_; obtain rfl := osi H; refine rt1 (u32 ((x1.toUInt32))) rfl rfl rfl s25_10 ?_; exact ⟨rfl, hE10⟩
noncomputable def ref07_Primes (a0n : Int) : Option (List UInt64) :=
((iterC (fun s4 : List UInt64 × UInt64 =>
(if (s4.1.length : Int) < a0n then
((iterC (fun s7 : Bool × Int =>
(if s7.2 < (s4.1.length : Int) then
((idx s4.1 s7.2).bind fun c10 =>
(if s7.1 = true then
((nz c10).bind fun c12 => some (.inl ((!decide ((s4.2 % c10) = (0 : UInt64))), (wI (s7.2 + 1)))))
else some (.inl (false, (wI (s7.2 + 1))))))
else some (.inr s7.1))) (true, 0)).bind fun x7 =>
(if x7 = true then
((appL s4.1 (([s4.2] : List UInt64))).bind fun c18 => some (.inl (c18, (s4.2 + (1 : UInt64)))))
else some (.inl (s4.1, (s4.2 + (1 : UInt64))))))
else some (.inr s4.1))) (([] : List UInt64), (2 : UInt64))).bind fun x4 => some x4)
set_option maxRecDepth 100000 in
set_option maxHeartbeats 8000000 in
theorem ref07_Primes_calls (a0n : Int) (r : List UInt64) (w0 : World) (H : ref07_Primes a0n = some r) :
    Calls Try.prog 64 [(i64 a0n)].toArray w0 (fun e w' => ∃ u0 : Value, e = .returned u0 ∧ Ext w0 w' ∧ Nw w0 u0 ∧ OwK (Sc u64) w' [] 44 u0 r) := by
  have hE : Ext w0 w0 := Ext.refl w0; unfold ref07_Primes at H; refine calls_W (n := 35) Try.func64 rfl rfl rfl ?_; refine W_seq ?_; refine W_reg (by kernel_rfl) ?_; refine wla rfl rfl (q_assign (v := (.slice none 0 0)) rfl rfl) ?_; refine wl_nil ?_; refine W_th ?_; refine W_seq ?_; refine W_reg (by kernel_rfl) ?_; refine wls rfl rfl (stp_lit (L := []) (R := (Sc u64)) [] ([] : List UInt64) rfl T96 rfl (by exact trivial) rfl (litC u64 (oneC_u64) (us := []) (l := ([] : List UInt64)) rfl) rfl (litS u64 (us := []) (l := ([] : List UInt64)) rfl) ?_); intro v1 w1 o1 n1 g1 l1; have x1 := grown_ext g1; have n3 := Nw.ext hE n1; have e2 := hE.trans x1; refine wla rfl rfl (q_assign (v := v1) rfl rfl) ?_; refine wl_nil ?_; refine W_th ?_; refine W_seq ?_; refine W_seq ?_; refine W_reg (by kernel_rfl) ?_; refine wla rfl rfl (q_assign (v := (u64 2)) rfl (cst64 (2 : UInt64) rfl)) ?_; refine wl_nil ?_; refine W_th ?_; obtain ⟨x4, G4, H⟩ := bsi H; refine W_mid (fun f w => ∃ v3_24 : Value, f 3 = v3_24 ∧ f 35 = undef ∧ Ext w0 w ∧ OwK (Sc u64) w [v3_24] 44 v3_24 x4 ∧ Nw w0 v3_24) ?_ ?_
  · refine W_block ?_; refine W_loop (fun s4 f w => ∃ v3_22 : Value, f 0 = (i64 a0n) ∧ f 3 = v3_22 ∧ f 4 = (u64 s4.2) ∧ f 35 = undef ∧ Ext w0 w ∧ OwK (Sc u64) w [v3_22] 44 v3_22 s4.1 ∧ Nw w0 v3_22) G4 ?_ ?_
    · exact ⟨v1, rfl, rfl, rfl, rfl, e2, o1, n3⟩
    rintro s4 _ _ w5 ⟨v3_5, s0_5, s3_5, s4_5, s35_5, hE5, o0_5, n0_5⟩ H4 hr4; refine W_seq ?_; refine W_seq ?_; refine W_reg (by kernel_rfl) ?_; refine wla rfl rfl (q_move (v := v3_5) rfl s3_5) ?_; refine wla rfl rfl (q_len rfl T96.sl rfl (o0_5.rd (Sc.stab _))) ?_; refine wla rfl rfl (q_move (v := (i64 a0n)) rfl s0_5) ?_; refine wla rfl rfl (q_ltI rfl rfl rfl) ?_; refine wl_nil ?_; refine W_th ?_; refine W_cond _ rfl rfl (fun hb6 => ?_) (fun hb6 => ?_)
    · replace H4 := (if_pos (of_decide_eq_true hb6)).symm.trans H4; refine W_skip ?_; refine W_th ?_; refine W_seq ?_; refine W_block ?_; refine W_seq ?_; refine W_reg (by kernel_rfl) ?_; refine wla rfl rfl (q_assign (v := (.bool true)) rfl rfl) ?_; refine wl_nil ?_; refine W_th ?_; refine W_seq ?_; refine W_seq ?_; refine W_reg (by kernel_rfl) ?_; refine wla rfl rfl (q_move (v := v3_5) rfl s3_5) ?_; refine wla rfl rfl (q_len rfl T96.sl rfl (o0_5.rd (Sc.stab _))) ?_; refine wla rfl rfl (q_move (v := (i64 0)) rfl rfl) ?_; refine wl_nil ?_; refine W_th ?_; obtain ⟨x7, G7, H4⟩ := bsi H4; refine W_mid (fun f w => f 0 = (i64 a0n) ∧ f 3 = v3_5 ∧ f 4 = (u64 s4.2) ∧ f 5 = (.bool x7) ∧ f 35 = undef ∧ Ext w0 w ∧ OwK (Sc u64) w [v3_5] 44 v3_5 s4.1 ∧ Nw w0 v3_5) ?_ ?_
      · refine W_block ?_; refine W_loop (fun s7 f w => f 0 = (i64 a0n) ∧ f 3 = v3_5 ∧ f 4 = (u64 s4.2) ∧ f 5 = (.bool s7.1) ∧ f 15 = v3_5 ∧ f 16 = (i64 ((s4.1.length : Int))) ∧ f 17 = (i64 s7.2) ∧ f 35 = undef ∧ Ext w0 w ∧ OwK (Sc u64) w [v3_5] 44 v3_5 s4.1 ∧ Nw w0 v3_5) G7 ?_ ?_
        · exact ⟨s0_5, s3_5, s4_5, rfl, rfl, rfl, rfl, s35_5, hE5, o0_5, n0_5⟩
        rintro s7 _ _ w8 ⟨s0_8, s3_8, s4_8, s5_8, s15_8, s16_8, s17_8, s35_8, hE8, o0_8, n0_8⟩ H7 hr7; refine W_seq ?_; refine W_reg (by kernel_rfl) ?_; refine wla rfl rfl (q_ltI rfl s17_8 s16_8) ?_; refine wl_nil ?_; refine W_th ?_; refine W_seq ?_; refine W_cond _ rfl rfl (fun hb9 => ?_) (fun hb9 => ?_)
        · replace H7 := (if_pos (of_decide_eq_true hb9)).symm.trans H7; refine W_skip ?_; refine W_th ?_; refine W_seq ?_; refine W_block ?_; refine W_seq ?_; refine W_reg (by kernel_rfl) ?_; obtain ⟨c10, hc10, H7⟩ := bsi H7; refine wla rfl rfl (q_adr rfl T96 s15_8 s17_8 (o0_8.rd (Sc.stab _)) hc10) ?_; refine wlq rfl rfl (q_loadS rfl T96 rfl (o0_8.rd (Sc.stab _)) hc10) ?_; refine wla rfl rfl (q_assign (v := (u64 c10)) rfl rfl) ?_; refine wl_nil ?_; refine W_th ?_; refine W_reg (by kernel_rfl) ?_; refine wla rfl rfl (q_move (v := (.bool s7.1)) rfl s5_8) ?_; refine wlb rfl rfl (q_move (v := (.bool s7.1)) rfl rfl) (fun hb11 => ?_) (fun hb11 => ?_)
          · replace H7 := (if_pos hb11).symm.trans H7; refine wla rfl rfl (q_move (v := (u64 s4.2)) rfl s4_8) ?_; refine wla rfl rfl (q_move (v := (u64 c10)) rfl rfl) ?_; obtain ⟨c12, hc12, H7⟩ := bsi H7; refine wla rfl rfl (q_rem64 rfl rfl rfl (nz_ne hc12)) ?_; refine wla rfl rfl (q_ne64 rfl rfl (cst64 (0 : UInt64) rfl)) ?_; refine wla rfl rfl (q_pick_t (v := (.bool ((!decide ((s4.2 % c10) = (0 : UInt64)))))) rfl rfl rfl) ?_; refine wla rfl rfl (q_assign (v := (.bool ((!decide ((s4.2 % c10) = (0 : UInt64)))))) rfl rfl) ?_; refine wl_nil ?_; refine bk_n ?_; refine W_th ?_; refine W_reg (by kernel_rfl) ?_; refine wla rfl rfl (q_addI rfl s17_8 rfl) ?_; refine wla rfl rfl (q_move (v := (i64 ((wI (s7.2 + 1))))) rfl rfl) ?_; refine wl_nil ?_; obtain rfl := osi H7; exact ⟨_, rfl, s0_8, s3_8, s4_8, rfl, s15_8, s16_8, rfl, s35_8, hE8, o0_8, n0_8⟩
          replace H7 := (if_neg (ne_true_of_eq_false hb11)).symm.trans H7; refine wlk rfl rfl ?_; refine wlk rfl rfl ?_; refine wlk rfl rfl ?_; refine wlk rfl rfl ?_; refine wla rfl rfl (q_pick_f (v := (.bool false)) rfl rfl rfl) ?_; refine wla rfl rfl (q_assign (v := (.bool false)) rfl rfl) ?_; refine wl_nil ?_; refine bk_n ?_; refine W_th ?_; refine W_reg (by kernel_rfl) ?_; refine wla rfl rfl (q_addI rfl s17_8 rfl) ?_; refine wla rfl rfl (q_move (v := (i64 ((wI (s7.2 + 1))))) rfl rfl) ?_; refine wl_nil ?_; obtain rfl := osi H7; exact ⟨_, rfl, s0_8, s3_8, s4_8, rfl, s15_8, s16_8, rfl, s35_8, hE8, o0_8, n0_8⟩
        replace H7 := (if_neg (of_decide_eq_false hb9)).symm.trans H7; refine W_exit ?_; refine th_x ?_; obtain rfl := osi H7; obtain rfl := hr7 _ rfl; refine th_x ?_; refine bk_x ?_; exact ⟨s0_8, s3_8, s4_8, s5_8, s35_8, hE8, o0_8, n0_8⟩
      rintro _ w14 ⟨s0_14, s3_14, s4_14, s5_14, s35_14, hE14, o0_14, n0_14⟩; refine W_th ?_; refine W_seq ?_; refine W_reg (by kernel_rfl) ?_; refine wla rfl rfl (q_move (v := (.bool x7)) rfl s5_14) ?_; refine wl_nil ?_; refine W_th ?_; refine W_cond _ rfl rfl (fun hb15 => ?_) (fun hb15 => ?_)
      · replace H4 := (if_pos hb15).symm.trans H4; refine W_reg (by kernel_rfl) ?_; refine wla rfl rfl (q_move (v := v3_5) rfl s3_14) ?_; refine wla rfl rfl (q_move (v := (u64 s4.2)) rfl s4_14) ?_; refine wls rfl rfl (stp_lit (L := [v3_5]) (R := (Sc u64)) [(u64 s4.2)] ([s4.2] : List UInt64) rfl T96 rfl (by exact ⟨rfl, rfl, trivial⟩) rfl (litC u64 (oneC_u64) (us := [(u64 s4.2)]) (l := ([s4.2] : List UInt64)) rfl) rfl (litS u64 (us := [(u64 s4.2)]) (l := ([s4.2] : List UInt64)) rfl) ?_); intro v16 w16 o16 n16 g16 l16; have x16 := grown_ext g16; have i16 : W64 w16 [v3_5] v16 (([s4.2] : List UInt64)) := OwK.slk (Sc.stab _) _ o16 (fun k hk => (Old.cons (Old.nil _) o0_14.lt) k (n16 k hk)) (fun _ h => h.2); replace o0_14 := o0_14.extL (Sc.stab _) x16 (Lift.ext x16 _); have e17 := hE14.trans x16; obtain ⟨c18, hc18, H4⟩ := bsi H4; refine wls rfl rfl (stp_append (R := (Sc u64)) (v := v3_5) (u := v16) (Sc.stab _) [] [] rfl T96 rfl rfl o0_14 i16 (fun _ _ h => h) hc18 oc_u64 ?_); intro v18 w18 o18 g18 nx18 l18; replace i16 := i16.lift l18; have e19 := e17.grown g18 n0_14; have n20 := Nw.nxt e17 n0_14 nx18; refine wla rfl rfl (q_assign (v := v18) rfl rfl) ?_; refine wl_nil ?_; refine bk_n ?_; refine W_th ?_; refine W_reg (by kernel_rfl) ?_; refine wla rfl rfl (q_move (v := (u64 s4.2)) rfl s4_14) ?_; refine wla rfl rfl (q_add64 rfl rfl (cst64 (1 : UInt64) rfl)) ?_; refine wla rfl rfl (q_assign (v := (u64 ((s4.2 + (1 : UInt64))))) rfl rfl) ?_; refine wl_nil ?_; obtain rfl := osi H4; exact ⟨_, rfl, v18, s0_14, rfl, rfl, s35_14, e19, o18, n20⟩
      replace H4 := (if_neg (ne_true_of_eq_false hb15)).symm.trans H4; refine W_skip ?_; refine bk_n ?_; refine W_th ?_; refine W_reg (by kernel_rfl) ?_; refine wla rfl rfl (q_move (v := (u64 s4.2)) rfl s4_14) ?_; refine wla rfl rfl (q_add64 rfl rfl (cst64 (1 : UInt64) rfl)) ?_; refine wla rfl rfl (q_assign (v := (u64 ((s4.2 + (1 : UInt64))))) rfl rfl) ?_; refine wl_nil ?_; obtain rfl := osi H4; exact ⟨_, rfl, v3_5, s0_14, s3_14, rfl, s35_14, hE14, o0_14, n0_14⟩
    replace H4 := (if_neg (of_decide_eq_false hb6)).symm.trans H4; refine W_exit ?_; refine th_x ?_; obtain rfl := osi H4; obtain rfl := hr4 _ rfl; refine th_x ?_; refine bk_x ?_; exact ⟨v3_5, s3_5, s35_5, hE5, o0_5, n0_5⟩
  rintro _ w23 ⟨v3_23, s3_23, s35_23, hE23, o0_23, n0_23⟩; refine W_th ?_; refine W_seq ?_; refine W_reg (by kernel_rfl) ?_; refine wla rfl rfl (q_move (v := v3_23) rfl s3_23) ?_; refine wla rfl rfl (q_assign (v := v3_23) rfl rfl) ?_; refine wl_nil ?_; refine W_th ?_; refine W_ret ?_; obtain rfl := osi H; refine rt1 v3_23 rfl rfl rfl s35_23 ?_; exact ⟨v3_23, rfl, hE23, n0_23, (o0_23.weak (Sc.stab _) (fun _ _ => trivial))⟩
noncomputable def ref07_Sum (a0b : List UInt8) : Option (List UInt8) :=
((lenA 64 ((List.replicate 64 (0 : UInt32)))).bind fun c9 =>
((lenA 8 ((List.replicate 8 (0 : UInt32)))).bind fun c12 =>
((ref07_Primes 64).bind fun r14 =>
((iterC (fun s16 : List UInt32 × List UInt32 × Int =>
(if s16.2.2 < (r14.length : Int) then
((idx r14 s16.2.2).bind fun c19 =>
((ref07_Fraction c19 3).bind fun r20 =>
((lenA 64 s16.1).bind fun c22 =>
((idx s16.1 s16.2.2).bind fun c23 =>
(if s16.2.2 < 8 then
((ref07_Fraction c19 2).bind fun r27 =>
((lenA 8 s16.2.1).bind fun c29 =>
((idx s16.2.1 s16.2.2).bind fun c30 => some (.inl ((s16.1.set (s16.2.2 : Int).toNat r20), (s16.2.1.set (s16.2.2 : Int).toNat r27), (wI (s16.2.2 + 1)))))))
else some (.inl ((s16.1.set (s16.2.2 : Int).toNat r20), s16.2.1, (wI (s16.2.2 + 1)))))))))
else some (.inr (s16.1, s16.2.1)))) ((List.replicate 64 (0 : UInt32)), (List.replicate 8 (0 : UInt32)), 0)).bind fun x16 =>
((appL (([] : List UInt8)) a0b).bind fun c40 =>
((appL c40 (([(128 : UInt8)] : List UInt8))).bind fun c47 =>
((iterC (fun s52 : List UInt8 =>
((remI ((s52.length : Int)) 64).bind fun c54 =>
(if c54 = 56 then some (.inr s52)
else
((appL s52 (([(0 : UInt8)] : List UInt8))).bind fun c58 => some (.inl c58))))) c47).bind fun x52 =>
((iterC (fun s65 : List UInt8 × Int =>
(if 0 ≤ s65.2 then
((cnt s65.2).bind fun c68 =>
((appL s65.1 (([(((shr64 (((UInt64.ofInt ((a0b.length : Int))) * (8 : UInt64))) c68)).toUInt8)] : List UInt8))).bind fun c71 => some (.inl (c71, (wI (s65.2 - 8))))))
else some (.inr s65.1))) (x52, 56)).bind fun x65 =>
((iterC (fun s78 : List UInt32 × Int =>
(if s78.2 < (x65.length : Int) then
((lenA 64 ((List.replicate 64 (0 : UInt32)))).bind fun c88 =>
((lenA 8 s78.1).bind fun c90 =>
((lenA 8 ((List.replicate 8 (0 : UInt32)))).bind fun c99 =>
((iterC (fun s101 : List UInt32 × List UInt32 × Int =>
(if s101.2.2 < 64 then
(((if s101.2.2 < 16 then
((idx x65 ((wI (s78.2 + (wI (4 * s101.2.2)))))).bind fun c108 =>
((idx x65 ((wI ((wI (s78.2 + (wI (4 * s101.2.2)))) + 1)))).bind fun c109 =>
((idx x65 ((wI ((wI (s78.2 + (wI (4 * s101.2.2)))) + 2)))).bind fun c110 =>
((idx x65 ((wI ((wI (s78.2 + (wI (4 * s101.2.2)))) + 3)))).bind fun c111 =>
((lenA 64 s101.1).bind fun c112 =>
((idx s101.1 s101.2.2).bind fun c113 => some (s101.1.set (s101.2.2 : Int).toNat (((((shl32 ((c108.toUInt32)) 24) ||| (shl32 ((c109.toUInt32)) 16)) ||| (shl32 ((c110.toUInt32)) 8)) ||| (c111.toUInt32))))))))))
else
((lenA 64 s101.1).bind fun c118 =>
((idx s101.1 ((wI (s101.2.2 - 2)))).bind fun c119 =>
((idx s101.1 ((wI (s101.2.2 - 7)))).bind fun c120 =>
((idx s101.1 ((wI (s101.2.2 - 15)))).bind fun c121 =>
((idx s101.1 ((wI (s101.2.2 - 16)))).bind fun c122 =>
((ref07_turn c119 17).bind fun r123 =>
((ref07_turn c119 19).bind fun r125 =>
((ref07_turn c121 7).bind fun r127 =>
((ref07_turn c121 18).bind fun r129 =>
((idx s101.1 s101.2.2).bind fun c131 => some (s101.1.set (s101.2.2 : Int).toNat ((((((r123 ^^^ r125) ^^^ (shr32 c119 10)) + c120) + ((r127 ^^^ r129) ^^^ (shr32 c121 3))) + c122))))))))))))))).bind fun x104 =>
((lenA 8 s101.2.1).bind fun c137 =>
((idx s101.2.1 7).bind fun c138 =>
((idx s101.2.1 4).bind fun c139 =>
((idx s101.2.1 5).bind fun c140 =>
((idx s101.2.1 6).bind fun c141 =>
((lenA 64 x16.1).bind fun c142 =>
((idx x16.1 s101.2.2).bind fun c143 =>
((lenA 64 x104).bind fun c144 =>
((idx x104 s101.2.2).bind fun c145 =>
((ref07_turn c139 6).bind fun r146 =>
((ref07_turn c139 11).bind fun r148 =>
((ref07_turn c139 25).bind fun r150 =>
((lenA 8 s101.2.1).bind fun c154 =>
((idx s101.2.1 0).bind fun c155 =>
((idx s101.2.1 1).bind fun c156 =>
((idx s101.2.1 2).bind fun c157 =>
((ref07_turn c155 2).bind fun r158 =>
((ref07_turn c155 13).bind fun r160 =>
((ref07_turn c155 22).bind fun r162 =>
((lenA 8 s101.2.1).bind fun c164 =>
((idx s101.2.1 0).bind fun c165 =>
((idx s101.2.1 1).bind fun c166 =>
((idx s101.2.1 2).bind fun c167 =>
((idx s101.2.1 3).bind fun c168 =>
((idx s101.2.1 4).bind fun c169 =>
((idx s101.2.1 5).bind fun c170 =>
((idx s101.2.1 6).bind fun c171 =>
((lenA 8 (([(((((c138 + ((r146 ^^^ r148) ^^^ r150)) + ((c139 &&& c140) ^^^ (((4294967295 : UInt32) ^^^ c139) &&& c141))) + c143) + c145) + (((r158 ^^^ r160) ^^^ r162) + (((c155 &&& c156) ^^^ (c155 &&& c157)) ^^^ (c156 &&& c157)))), c165, c166, c167, (c168 + ((((c138 + ((r146 ^^^ r148) ^^^ r150)) + ((c139 &&& c140) ^^^ (((4294967295 : UInt32) ^^^ c139) &&& c141))) + c143) + c145)), c169, c170, c171] : List UInt32))).bind fun c173 => some (.inl (x104, ([(((((c138 + ((r146 ^^^ r148) ^^^ r150)) + ((c139 &&& c140) ^^^ (((4294967295 : UInt32) ^^^ c139) &&& c141))) + c143) + c145) + (((r158 ^^^ r160) ^^^ r162) + (((c155 &&& c156) ^^^ (c155 &&& c157)) ^^^ (c156 &&& c157)))), c165, c166, c167, (c168 + ((((c138 + ((r146 ^^^ r148) ^^^ r150)) + ((c139 &&& c140) ^^^ (((4294967295 : UInt32) ^^^ c139) &&& c141))) + c143) + c145)), c169, c170, c171] : List UInt32), (wI (s101.2.2 + 1)))))))))))))))))))))))))))))))))
else some (.inr s101.2.1))) ((List.replicate 64 (0 : UInt32)), s78.1, 0)).bind fun x101 =>
((iterC (fun s178 : List UInt32 × Int =>
(if s178.2 < 8 then
((lenA 8 s178.1).bind fun c183 =>
((idx s178.1 s178.2).bind fun c184 =>
((lenA 8 x101).bind fun c185 =>
((idx x101 s178.2).bind fun c186 => some (.inl ((s178.1.set (s178.2 : Int).toNat ((c184 + c186))), (wI (s178.2 + 1))))))))
else some (.inr s178.1))) (s78.1, 0)).bind fun x178 => some (.inl (x178, (wI (s78.2 + 64)))))))))
else some (.inr s78.1))) (x16.2, 0)).bind fun x78 =>
((lenA 8 x78).bind fun c199 =>
((iterC (fun s200 : List UInt8 × Int =>
(if s200.2 < 8 then
((lenA 8 x78).bind fun c203 =>
((idx x78 s200.2).bind fun c204 =>
((appL s200.1 (([(((shr32 c204 24)).toUInt8), (((shr32 c204 16)).toUInt8), (((shr32 c204 8)).toUInt8), (c204.toUInt8)] : List UInt8))).bind fun c207 => some (.inl (c207, (wI (s200.2 + 1)))))))
else some (.inr s200.1))) (([] : List UInt8), 0)).bind fun x200 => some x200)))))))))))
set_option maxRecDepth 100000 in
set_option maxHeartbeats 8000000 in
theorem ref07_Sum_calls (a0b : List UInt8) (p0 : Value) (r : List UInt8) (w0 : World) (hp0 : By w0 [] p0 a0b) (H : ref07_Sum a0b = some r) :
    Calls Try.prog 32 [p0].toArray w0 (fun e w' => ∃ u0 : Value, e = .returned u0 ∧ Ext w0 w' ∧ Nw w0 u0 ∧ OwK (Sc u8) w' [] 5 u0 r) := by
  have hE : Ext w0 w0 := Ext.refl w0; unfold ref07_Sum at H; refine calls_W (n := 288) Try.func32 rfl rfl rfl ?_; refine W_seq ?_; refine W_reg (by kernel_rfl) ?_; refine wla rfl rfl (q_assign (v := (.slice none 0 0)) rfl rfl) ?_; refine wl_nil ?_; refine W_th ?_; refine W_seq ?_; refine W_reg (by kernel_rfl) ?_; refine wla rfl rfl (q_buildA0 (l := ([] : List UInt32)) (us := []) (z := (0 : UInt32)) rfl A94 Z94 (by exact trivial) rfl rfl cel_u32) ?_; refine wla rfl rfl (q_buildA0 (l := ([] : List UInt32)) (us := []) (z := (0 : UInt32)) rfl A95 Z95 (by exact trivial) rfl rfl cel_u32) ?_; refine wls rfl rfl (stp_allocL (z := (ag u32 ((List.replicate 64 (0 : UInt32))))) (cs := (ac u32 ((List.replicate 64 (0 : UInt32))))) [] rfl Z94 rfl ?_); intro g1 w1 o1 n1 g1r l1; have x1 := grown_ext g1r; have n3 := Nw.ext hE n1; have e2 := hE.trans x1; refine wls rfl rfl (stp_allocL (z := (ag u32 ((List.replicate 8 (0 : UInt32))))) (cs := (ac u32 ((List.replicate 8 (0 : UInt32))))) [(bp g1)] rfl Z95 rfl ?_); intro g4 w4 o4 n4 g4r l4; have x4 := grown_ext g4r; have q5 : Nq (bp g1) (bp g4) := o1.nq n4; replace o1 := o1.ext x4; have n7 := Nw.ext e2 n4; have e6 := e2.trans x4; obtain ⟨c9, hc9, H⟩ := bsi H; refine wln rfl rfl (stp_storeA [(bp g4)] [] rfl A94 rfl rfl (lenA_eq hc9) (lenA_eq hc9) o1 one_u32 ?_); intro w8 o8 g8 l8; replace o4 := o4.other g8 q5.symm; have e10 := e6.grown g8 n3; obtain ⟨c12, hc12, H⟩ := bsi H; refine wln rfl rfl (stp_storeA [] [(bp g1)] rfl A95 rfl rfl (lenA_eq hc12) (lenA_eq hc12) o4 one_u32 ?_); intro w11 o11 g11 l11; replace o8 := o8.other g11 q5; have e13 := e10.grown g11 n7; refine wl_nil ?_; refine W_th ?_; refine W_seq ?_; refine W_seq ?_; refine W_reg (by kernel_rfl) ?_; obtain ⟨r14, hr14, H⟩ := bsi H; refine wls rfl rfl (stp_call (vs := [(i64 64)]) Try.func64 rfl rfl rfl (ar1 rfl) (ref07_Primes_calls 64  r14 _  hr14) ?_); rintro _ w14 ⟨v14, rfl, x14, n14_0, o14_0⟩; refine ⟨_, rfl, ?_⟩; have i14_0 : W64 w14 [(bp g4), (bp g1)] v14 r14 := OwK.slk (Sc.stab _) _ (OwK.scal o14_0 (v14 :: [(bp g4), (bp g1)])) (fun k hk => (Old.cons (Old.cons (Old.nil _) o8.ltB) o11.ltB) k (n14_0 k hk)) (fun _ h => h.2); replace o11 := o11.ext x14; replace o8 := o8.ext x14; have e15 := e13.trans x14; refine wla rfl rfl (q_len rfl T96.sl rfl i14_0) ?_; refine wla rfl rfl (q_move (v := (i64 0)) rfl rfl) ?_; refine wl_nil ?_; refine W_th ?_; obtain ⟨x16, G16, H⟩ := bsi H; refine W_mid (fun f w => f 0 = p0 ∧ f 3 = (bp g1) ∧ f 4 = (bp g4) ∧ f 288 = undef ∧ Ext w0 w ∧ Blk w g1 94 (ac u32 x16.1) ∧ Nw w0 (bp g1) ∧ Blk w g4 95 (ac u32 x16.2) ∧ Nw w0 (bp g4) ∧ Nq (bp g1) (bp g4)) ?_ ?_
  · refine W_block ?_; refine W_loop (fun s16 f w => f 0 = p0 ∧ f 3 = (bp g1) ∧ f 4 = (bp g4) ∧ f 21 = v14 ∧ f 22 = (i64 ((r14.length : Int))) ∧ f 23 = (i64 s16.2.2) ∧ f 288 = undef ∧ Ext w0 w ∧ Blk w g1 94 (ac u32 s16.1) ∧ Nw w0 (bp g1) ∧ Blk w g4 95 (ac u32 s16.2.1) ∧ Nw w0 (bp g4) ∧ Nq (bp g1) (bp g4) ∧ W64 w [(bp g1), (bp g4)] v14 r14) G16 ?_ ?_
    · exact ⟨rfl, rfl, rfl, rfl, rfl, rfl, rfl, e15, o8, n3, o11, n7, q5, (i14_0.lift (Lift.sub (fun _ h => ⟨h.2.1, h.1, trivial⟩)))⟩
    rintro s16 _ _ w17 ⟨s0_17, s3_17, s4_17, s21_17, s22_17, s23_17, s288_17, hE17, o0_17, n0_17, o1_17, n1_17, q0_1_17, i0_17⟩ H16 hr16; refine W_seq ?_; refine W_reg (by kernel_rfl) ?_; refine wla rfl rfl (q_ltI rfl s23_17 s22_17) ?_; refine wl_nil ?_; refine W_th ?_; refine W_seq ?_; refine W_cond _ rfl rfl (fun hb18 => ?_) (fun hb18 => ?_)
    · replace H16 := (if_pos (of_decide_eq_true hb18)).symm.trans H16; refine W_skip ?_; refine W_th ?_; refine W_seq ?_; refine W_block ?_; refine W_seq ?_; refine W_reg (by kernel_rfl) ?_; refine wla rfl rfl (q_move (v := (i64 s16.2.2)) rfl s23_17) ?_; obtain ⟨c19, hc19, H16⟩ := bsi H16; refine wla rfl rfl (q_adr rfl T96 s21_17 s23_17 i0_17 hc19) ?_; refine wlq rfl rfl (q_loadS rfl T96 rfl i0_17 hc19) ?_; refine wla rfl rfl (q_assign (v := (i64 s16.2.2)) rfl rfl) ?_; refine wla rfl rfl (q_assign (v := (u64 c19)) rfl rfl) ?_; refine wl_nil ?_; refine W_th ?_; refine W_seq ?_; refine W_reg (by kernel_rfl) ?_; refine wla rfl rfl (q_move (v := (i64 s16.2.2)) rfl rfl) ?_; refine wla rfl rfl (q_move (v := (u64 c19)) rfl rfl) ?_; obtain ⟨r20, hr20, H16⟩ := bsi H16; refine wls rfl rfl (stp_call (vs := [(u64 c19), (i64 3)]) Try.func65 rfl rfl rfl (ar2 rfl rfl) (ref07_Fraction_calls c19 3  r20 _  hr20) ?_); rintro _ w20 ⟨rfl, x20⟩; refine ⟨_, rfl, ?_⟩; replace i0_17 := i0_17.lift (Lift.ext x20 _); replace o0_17 := o0_17.ext x20; replace o1_17 := o1_17.ext x20; have e21 := hE17.trans x20; obtain ⟨c22, hc22, H16⟩ := bsi H16; obtain ⟨c23, hc23, H16⟩ := bsi H16; refine wla rfl rfl (q_ixA (m := 0) rfl A94 (by exact s3_17) rfl (lenA_eq hc22) hc23) ?_; refine wln rfl rfl (stp_storeX (b := r20) [] [(bp g4)] rfl A94 rfl rfl o0_17 hc23 (one_u32 _) ?_); intro w24 o24 g24 l24; replace i0_17 := i0_17.lift l24; replace o1_17 := o1_17.other g24 q0_1_17.symm; have e25 := e21.grown g24 n0_17; refine wl_nil ?_; refine W_th ?_; refine W_seq ?_; refine W_reg (by kernel_rfl) ?_; refine wla rfl rfl (q_move (v := (i64 s16.2.2)) rfl rfl) ?_; refine wla rfl rfl (q_ltI rfl rfl rfl) ?_; refine wl_nil ?_; refine W_th ?_; refine W_cond _ rfl rfl (fun hb26 => ?_) (fun hb26 => ?_)
      · replace H16 := (if_pos (of_decide_eq_true hb26)).symm.trans H16; refine W_reg (by kernel_rfl) ?_; refine wla rfl rfl (q_move (v := (i64 s16.2.2)) rfl rfl) ?_; refine wla rfl rfl (q_move (v := (u64 c19)) rfl rfl) ?_; obtain ⟨r27, hr27, H16⟩ := bsi H16; refine wls rfl rfl (stp_call (vs := [(u64 c19), (i64 2)]) Try.func65 rfl rfl rfl (ar2 rfl rfl) (ref07_Fraction_calls c19 2  r27 _  hr27) ?_); rintro _ w27 ⟨rfl, x27⟩; refine ⟨_, rfl, ?_⟩; replace i0_17 := i0_17.lift (Lift.ext x27 _); replace o24 := o24.ext x27; replace o1_17 := o1_17.ext x27; have e28 := e25.trans x27; obtain ⟨c29, hc29, H16⟩ := bsi H16; obtain ⟨c30, hc30, H16⟩ := bsi H16; refine wla rfl rfl (q_ixA (m := 0) rfl A95 (by exact s4_17) rfl (lenA_eq hc29) hc30) ?_; refine wln rfl rfl (stp_storeX (b := r27) [(bp g1)] [] rfl A95 rfl rfl o1_17 hc30 (one_u32 _) ?_); intro w31 o31 g31 l31; replace i0_17 := i0_17.lift l31; replace o24 := o24.other g31 q0_1_17; have e32 := e28.grown g31 n1_17; refine wl_nil ?_; refine bk_n ?_; refine W_th ?_; refine W_reg (by kernel_rfl) ?_; refine wla rfl rfl (q_addI rfl s23_17 rfl) ?_; refine wla rfl rfl (q_move (v := (i64 ((wI (s16.2.2 + 1))))) rfl rfl) ?_; refine wl_nil ?_; obtain rfl := osi H16; exact ⟨_, rfl, s0_17, s3_17, s4_17, s21_17, s22_17, rfl, s288_17, e32, o24, n0_17, o31, n1_17, q0_1_17, i0_17⟩
      replace H16 := (if_neg (of_decide_eq_false hb26)).symm.trans H16; refine W_skip ?_; refine bk_n ?_; refine W_th ?_; refine W_reg (by kernel_rfl) ?_; refine wla rfl rfl (q_addI rfl s23_17 rfl) ?_; refine wla rfl rfl (q_move (v := (i64 ((wI (s16.2.2 + 1))))) rfl rfl) ?_; refine wl_nil ?_; obtain rfl := osi H16; exact ⟨_, rfl, s0_17, s3_17, s4_17, s21_17, s22_17, rfl, s288_17, e25, o24, n0_17, o1_17, n1_17, q0_1_17, i0_17⟩
    replace H16 := (if_neg (of_decide_eq_false hb18)).symm.trans H16; refine W_exit ?_; refine th_x ?_; obtain rfl := osi H16; obtain rfl := hr16 _ rfl; refine th_x ?_; refine bk_x ?_; exact ⟨s0_17, s3_17, s4_17, s288_17, hE17, o0_17, n0_17, o1_17, n1_17, q0_1_17⟩
  rintro _ w34 ⟨s0_34, s3_34, s4_34, s288_34, hE34, o0_34, n0_34, o1_34, n1_34, q0_1_34⟩; refine W_th ?_; refine W_seq ?_; refine W_reg (by kernel_rfl) ?_; refine wls rfl rfl (stp_lit (L := [(bp g1), (bp g4)]) (R := (Sc u8)) [] ([] : List UInt8) rfl T22 rfl (by exact trivial) rfl (litC u8 (oneC_u8) (us := []) (l := ([] : List UInt8)) rfl) rfl (litS u8 (us := []) (l := ([] : List UInt8)) rfl) ?_); intro v35 w35 o35 n35 g35 l35; have x35 := grown_ext g35; have q36 : Nq (bp g1) v35 := o0_34.nq n35; have q37 : Nq (bp g4) v35 := o1_34.nq n35; replace o0_34 := o0_34.ext x35; replace o1_34 := o1_34.ext x35; have n39 := Nw.ext hE34 n35; have e38 := hE34.trans x35; refine wla rfl rfl (q_move (v := p0) rfl s0_34) ?_; obtain ⟨c40, hc40, H⟩ := bsi H; refine wls rfl rfl (stp_append (R := (Sc u8)) (v := v35) (u := p0) (Sc.stab _) [] [(bp g1), (bp g4)] rfl T22 rfl rfl o35 (hp0.lift (Lift.ext e38 _)) (fun _ _ h => h) hc40 oc_u8 ?_); intro v40 w40 o40 g40 nx40 l40; have q41 : Nq (bp g1) v40 := o0_34.nxt q36 nx40; have q42 : Nq (bp g4) v40 := o1_34.nxt q37 nx40; replace o0_34 := o0_34.other g40 q36; replace o1_34 := o1_34.other g40 q37; have e43 := e38.grown g40 n39; have n44 := Nw.nxt e38 n39 nx40; refine wla rfl rfl (q_assign (v := v40) rfl rfl) ?_; refine wl_nil ?_; refine W_th ?_; refine W_seq ?_; refine W_reg (by kernel_rfl) ?_; refine wla rfl rfl (q_move (v := v40) rfl rfl) ?_; refine wls rfl rfl (stp_lit (L := [v40, (bp g1), (bp g4)]) (R := (Sc u8)) [(u8 128)] ([(128 : UInt8)] : List UInt8) rfl T22 rfl (by exact ⟨rfl, (cst8 (128 : UInt8) rfl), trivial⟩) rfl (litC u8 (oneC_u8) (us := [(u8 128)]) (l := ([(128 : UInt8)] : List UInt8)) rfl) rfl (litS u8 (us := [(u8 128)]) (l := ([(128 : UInt8)] : List UInt8)) rfl) ?_); intro v45 w45 o45 n45 g45 l45; have x45 := grown_ext g45; have i45 : By w45 [v40, (bp g1), (bp g4)] v45 (([(128 : UInt8)] : List UInt8)) := OwK.slk (Sc.stab _) _ o45 (fun k hk => (Old.cons (Old.cons (Old.cons (Old.nil _) o1_34.ltB) o0_34.ltB) o40.lt) k (n45 k hk)) (fun _ h => h.2); replace o40 := o40.extL (Sc.stab _) x45 (Lift.ext x45 _); replace o0_34 := o0_34.ext x45; replace o1_34 := o1_34.ext x45; have e46 := e43.trans x45; obtain ⟨c47, hc47, H⟩ := bsi H; refine wls rfl rfl (stp_append (R := (Sc u8)) (v := v40) (u := v45) (Sc.stab _) [] [(bp g1), (bp g4)] rfl T22 rfl rfl o40 i45 (fun _ _ h => h) hc47 oc_u8 ?_); intro v47 w47 o47 g47 nx47 l47; replace i45 := i45.lift l47; have q48 : Nq (bp g1) v47 := o0_34.nxt q41 nx47; have q49 : Nq (bp g4) v47 := o1_34.nxt q42 nx47; replace o0_34 := o0_34.other g47 q41; replace o1_34 := o1_34.other g47 q42; have e50 := e46.grown g47 n44; have n51 := Nw.nxt e46 n44 nx47; refine wla rfl rfl (q_assign (v := v47) rfl rfl) ?_; refine wl_nil ?_; refine W_th ?_; refine W_seq ?_; obtain ⟨x52, G52, H⟩ := bsi H; refine W_mid (fun f w => ∃ v7_215 : Value, f 0 = p0 ∧ f 3 = (bp g1) ∧ f 4 = (bp g4) ∧ f 7 = v7_215 ∧ f 288 = undef ∧ Ext w0 w ∧ OwK (Sc u8) w [v7_215, (bp g1), (bp g4)] 5 v7_215 x52 ∧ Nw w0 v7_215 ∧ Blk w g1 94 (ac u32 x16.1) ∧ Nw w0 (bp g1) ∧ Blk w g4 95 (ac u32 x16.2) ∧ Nw w0 (bp g4) ∧ Nq v7_215 (bp g1) ∧ Nq v7_215 (bp g4) ∧ Nq (bp g1) (bp g4)) ?_ ?_
  · refine W_block ?_; refine W_loop (fun s52 f w => ∃ v7_63 : Value, f 0 = p0 ∧ f 3 = (bp g1) ∧ f 4 = (bp g4) ∧ f 7 = v7_63 ∧ f 288 = undef ∧ Ext w0 w ∧ OwK (Sc u8) w [v7_63, (bp g1), (bp g4)] 5 v7_63 s52 ∧ Nw w0 v7_63 ∧ Blk w g1 94 (ac u32 x16.1) ∧ Nw w0 (bp g1) ∧ Blk w g4 95 (ac u32 x16.2) ∧ Nw w0 (bp g4) ∧ Nq v7_63 (bp g1) ∧ Nq v7_63 (bp g4) ∧ Nq (bp g1) (bp g4)) G52 ?_ ?_
    · exact ⟨v47, s0_34, s3_34, s4_34, rfl, s288_34, e50, o47, n51, o0_34, n0_34, o1_34, n1_34, q48.symm, q49.symm, q0_1_34⟩
    rintro s52 _ _ w53 ⟨v7_53, s0_53, s3_53, s4_53, s7_53, s288_53, hE53, o0_53, n0_53, o1_53, n1_53, o2_53, n2_53, q0_1_53, q0_2_53, q1_2_53⟩ H52 hr52; refine W_seq ?_; refine W_seq ?_; refine W_reg (by kernel_rfl) ?_; refine wla rfl rfl (q_move (v := v7_53) rfl s7_53) ?_; refine wla rfl rfl (q_len rfl T22.sl rfl (o0_53.rd (Sc.stab _))) ?_; obtain ⟨c54, hc54, H52⟩ := bsi H52; refine wla rfl rfl (q_remI rfl rfl rfl hc54) ?_; refine wla rfl rfl (q_neI rfl rfl rfl) ?_; refine wl_nil ?_; refine W_th ?_; refine W_cond _ rfl rfl (fun hb55 => ?_) (fun hb55 => ?_)
    · replace H52 := (if_neg (ndec_t hb55)).symm.trans H52; refine W_skip ?_; refine W_th ?_; refine W_block ?_; refine W_reg (by kernel_rfl) ?_; refine wla rfl rfl (q_move (v := v7_53) rfl s7_53) ?_; refine wls rfl rfl (stp_lit (L := [v7_53, (bp g1), (bp g4)]) (R := (Sc u8)) [(u8 0)] ([(0 : UInt8)] : List UInt8) rfl T22 rfl (by exact ⟨rfl, (cst8 (0 : UInt8) rfl), trivial⟩) rfl (litC u8 (oneC_u8) (us := [(u8 0)]) (l := ([(0 : UInt8)] : List UInt8)) rfl) rfl (litS u8 (us := [(u8 0)]) (l := ([(0 : UInt8)] : List UInt8)) rfl) ?_); intro v56 w56 o56 n56 g56 l56; have x56 := grown_ext g56; have i56 : By w56 [v7_53, (bp g1), (bp g4)] v56 (([(0 : UInt8)] : List UInt8)) := OwK.slk (Sc.stab _) _ o56 (fun k hk => (Old.cons (Old.cons (Old.cons (Old.nil _) o2_53.ltB) o1_53.ltB) o0_53.lt) k (n56 k hk)) (fun _ h => h.2); replace o0_53 := o0_53.extL (Sc.stab _) x56 (Lift.ext x56 _); replace o1_53 := o1_53.ext x56; replace o2_53 := o2_53.ext x56; have e57 := hE53.trans x56; obtain ⟨c58, hc58, H52⟩ := bsi H52; refine wls rfl rfl (stp_append (R := (Sc u8)) (v := v7_53) (u := v56) (Sc.stab _) [] [(bp g1), (bp g4)] rfl T22 rfl rfl o0_53 i56 (fun _ _ h => h) hc58 oc_u8 ?_); intro v58 w58 o58 g58 nx58 l58; replace i56 := i56.lift l58; have q59 : Nq (bp g1) v58 := o1_53.nxt q0_1_53.symm nx58; have q60 : Nq (bp g4) v58 := o2_53.nxt q0_2_53.symm nx58; replace o1_53 := o1_53.other g58 q0_1_53.symm; replace o2_53 := o2_53.other g58 q0_2_53.symm; have e61 := e57.grown g58 n0_53; have n62 := Nw.nxt e57 n0_53 nx58; refine wla rfl rfl (q_assign (v := v58) rfl rfl) ?_; refine wl_nil ?_; refine bk_n ?_; obtain rfl := osi H52; exact ⟨_, rfl, v58, s0_53, s3_53, s4_53, rfl, s288_53, e61, o58, n62, o1_53, n1_53, o2_53, n2_53, q59.symm, q60.symm, q1_2_53⟩
    replace H52 := (if_pos (ndec_f hb55)).symm.trans H52; refine W_exit ?_; refine th_x ?_; obtain rfl := osi H52; obtain rfl := hr52 _ rfl; refine th_x ?_; refine bk_x ?_; exact ⟨v7_53, s0_53, s3_53, s4_53, s7_53, s288_53, hE53, o0_53, n0_53, o1_53, n1_53, o2_53, n2_53, q0_1_53, q0_2_53, q1_2_53⟩
  rintro _ w64 ⟨v7_64, s0_64, s3_64, s4_64, s7_64, s288_64, hE64, o0_64, n0_64, o1_64, n1_64, o2_64, n2_64, q0_1_64, q0_2_64, q1_2_64⟩; refine W_th ?_; refine W_seq ?_; refine W_seq ?_; refine W_reg (by kernel_rfl) ?_; refine wla rfl rfl (q_assign (v := (i64 56)) rfl rfl) ?_; refine wl_nil ?_; refine W_th ?_; obtain ⟨x65, G65, H⟩ := bsi H; refine W_mid (fun f w => ∃ v7_214 : Value, f 3 = (bp g1) ∧ f 4 = (bp g4) ∧ f 7 = v7_214 ∧ f 288 = undef ∧ Ext w0 w ∧ OwK (Sc u8) w [v7_214, (bp g1), (bp g4)] 5 v7_214 x65 ∧ Nw w0 v7_214 ∧ Blk w g1 94 (ac u32 x16.1) ∧ Nw w0 (bp g1) ∧ Blk w g4 95 (ac u32 x16.2) ∧ Nw w0 (bp g4) ∧ Nq v7_214 (bp g1) ∧ Nq v7_214 (bp g4) ∧ Nq (bp g1) (bp g4)) ?_ ?_
  · refine W_block ?_; refine W_loop (fun s65 f w => ∃ v7_76 : Value, f 0 = p0 ∧ f 3 = (bp g1) ∧ f 4 = (bp g4) ∧ f 7 = v7_76 ∧ f 8 = (i64 s65.2) ∧ f 288 = undef ∧ Ext w0 w ∧ OwK (Sc u8) w [v7_76, (bp g1), (bp g4)] 5 v7_76 s65.1 ∧ Nw w0 v7_76 ∧ Blk w g1 94 (ac u32 x16.1) ∧ Nw w0 (bp g1) ∧ Blk w g4 95 (ac u32 x16.2) ∧ Nw w0 (bp g4) ∧ Nq v7_76 (bp g1) ∧ Nq v7_76 (bp g4) ∧ Nq (bp g1) (bp g4)) G65 ?_ ?_
    · exact ⟨v7_64, s0_64, s3_64, s4_64, s7_64, rfl, s288_64, hE64, o0_64, n0_64, o1_64, n1_64, o2_64, n2_64, q0_1_64, q0_2_64, q1_2_64⟩
    rintro s65 _ _ w66 ⟨v7_66, s0_66, s3_66, s4_66, s7_66, s8_66, s288_66, hE66, o0_66, n0_66, o1_66, n1_66, o2_66, n2_66, q0_1_66, q0_2_66, q1_2_66⟩ H65 hr65; refine W_seq ?_; refine W_seq ?_; refine W_reg (by kernel_rfl) ?_; refine wla rfl rfl (q_move (v := (i64 s65.2)) rfl s8_66) ?_; refine wla rfl rfl (q_geI rfl rfl rfl) ?_; refine wl_nil ?_; refine W_th ?_; refine W_cond _ rfl rfl (fun hb67 => ?_) (fun hb67 => ?_)
    · replace H65 := (if_pos (of_decide_eq_true hb67)).symm.trans H65; refine W_skip ?_; refine W_th ?_; refine W_seq ?_; refine W_block ?_; refine W_reg (by kernel_rfl) ?_; refine wla rfl rfl (q_move (v := v7_66) rfl s7_66) ?_; refine wla rfl rfl (q_move (v := p0) rfl s0_66) ?_; refine wla rfl rfl (q_len rfl T22.sl rfl (hp0.lift (Lift.ext hE66 _))) ?_; refine wla rfl rfl (q_cvt64I rfl rfl rfl rfl) ?_; refine wla rfl rfl (q_mul64 rfl rfl (cst64 (8 : UInt64) rfl)) ?_; refine wla rfl rfl (q_move (v := (i64 s65.2)) rfl s8_66) ?_; obtain ⟨c68, hc68, H65⟩ := bsi H65; refine wla rfl rfl (q_shr64 c68 rfl rfl rfl (cnt_eq hc68)) ?_; refine wla rfl rfl (q_cvt864 rfl rfl rfl rfl) ?_; refine wls rfl rfl (stp_lit (L := [v7_66, (bp g1), (bp g4)]) (R := (Sc u8)) [(u8 ((((shr64 (((UInt64.ofInt ((a0b.length : Int))) * (8 : UInt64))) c68)).toUInt8)))] ([(((shr64 (((UInt64.ofInt ((a0b.length : Int))) * (8 : UInt64))) c68)).toUInt8)] : List UInt8) rfl T22 rfl (by exact ⟨rfl, rfl, trivial⟩) rfl (litC u8 (oneC_u8) (us := [(u8 ((((shr64 (((UInt64.ofInt ((a0b.length : Int))) * (8 : UInt64))) c68)).toUInt8)))]) (l := ([(((shr64 (((UInt64.ofInt ((a0b.length : Int))) * (8 : UInt64))) c68)).toUInt8)] : List UInt8)) rfl) rfl (litS u8 (us := [(u8 ((((shr64 (((UInt64.ofInt ((a0b.length : Int))) * (8 : UInt64))) c68)).toUInt8)))]) (l := ([(((shr64 (((UInt64.ofInt ((a0b.length : Int))) * (8 : UInt64))) c68)).toUInt8)] : List UInt8)) rfl) ?_); intro v69 w69 o69 n69 g69 l69; have x69 := grown_ext g69; have i69 : By w69 [v7_66, (bp g1), (bp g4)] v69 (([(((shr64 (((UInt64.ofInt ((a0b.length : Int))) * (8 : UInt64))) c68)).toUInt8)] : List UInt8)) := OwK.slk (Sc.stab _) _ o69 (fun k hk => (Old.cons (Old.cons (Old.cons (Old.nil _) o2_66.ltB) o1_66.ltB) o0_66.lt) k (n69 k hk)) (fun _ h => h.2); replace o0_66 := o0_66.extL (Sc.stab _) x69 (Lift.ext x69 _); replace o1_66 := o1_66.ext x69; replace o2_66 := o2_66.ext x69; have e70 := hE66.trans x69; obtain ⟨c71, hc71, H65⟩ := bsi H65; refine wls rfl rfl (stp_append (R := (Sc u8)) (v := v7_66) (u := v69) (Sc.stab _) [] [(bp g1), (bp g4)] rfl T22 rfl rfl o0_66 i69 (fun _ _ h => h) hc71 oc_u8 ?_); intro v71 w71 o71 g71 nx71 l71; replace i69 := i69.lift l71; have q72 : Nq (bp g1) v71 := o1_66.nxt q0_1_66.symm nx71; have q73 : Nq (bp g4) v71 := o2_66.nxt q0_2_66.symm nx71; replace o1_66 := o1_66.other g71 q0_1_66.symm; replace o2_66 := o2_66.other g71 q0_2_66.symm; have e74 := e70.grown g71 n0_66; have n75 := Nw.nxt e70 n0_66 nx71; refine wla rfl rfl (q_assign (v := v71) rfl rfl) ?_; refine wl_nil ?_; refine bk_n ?_; refine W_th ?_; refine W_reg (by kernel_rfl) ?_; refine wla rfl rfl (q_move (v := (i64 s65.2)) rfl s8_66) ?_; refine wla rfl rfl (q_subI rfl rfl rfl) ?_; refine wla rfl rfl (q_assign (v := (i64 ((wI (s65.2 - 8))))) rfl rfl) ?_; refine wl_nil ?_; obtain rfl := osi H65; exact ⟨_, rfl, v71, s0_66, s3_66, s4_66, rfl, rfl, s288_66, e74, o71, n75, o1_66, n1_66, o2_66, n2_66, q72.symm, q73.symm, q1_2_66⟩
    replace H65 := (if_neg (of_decide_eq_false hb67)).symm.trans H65; refine W_exit ?_; refine th_x ?_; obtain rfl := osi H65; obtain rfl := hr65 _ rfl; refine th_x ?_; refine bk_x ?_; exact ⟨v7_66, s3_66, s4_66, s7_66, s288_66, hE66, o0_66, n0_66, o1_66, n1_66, o2_66, n2_66, q0_1_66, q0_2_66, q1_2_66⟩
  rintro _ w77 ⟨v7_77, s3_77, s4_77, s7_77, s288_77, hE77, o0_77, n0_77, o1_77, n1_77, o2_77, n2_77, q0_1_77, q0_2_77, q1_2_77⟩; refine W_th ?_; refine W_seq ?_; refine W_seq ?_; refine W_reg (by kernel_rfl) ?_; refine wla rfl rfl (q_assign (v := (i64 0)) rfl rfl) ?_; refine wl_nil ?_; refine W_th ?_; obtain ⟨x78, G78, H⟩ := bsi H; refine W_mid (fun f w => f 4 = (bp g4) ∧ f 288 = undef ∧ Ext w0 w ∧ Blk w g4 95 (ac u32 x78) ∧ Nw w0 (bp g4)) ?_ ?_
  · refine W_block ?_; refine W_loop (fun s78 f w => f 3 = (bp g1) ∧ f 4 = (bp g4) ∧ f 7 = v7_77 ∧ f 9 = (i64 s78.2) ∧ f 288 = undef ∧ Ext w0 w ∧ OwK (Sc u8) w [v7_77, (bp g1), (bp g4)] 5 v7_77 x65 ∧ Nw w0 v7_77 ∧ Blk w g1 94 (ac u32 x16.1) ∧ Nw w0 (bp g1) ∧ Blk w g4 95 (ac u32 s78.1) ∧ Nw w0 (bp g4) ∧ Nq v7_77 (bp g1) ∧ Nq v7_77 (bp g4) ∧ Nq (bp g1) (bp g4)) G78 ?_ ?_
    · exact ⟨s3_77, s4_77, s7_77, rfl, s288_77, hE77, o0_77, n0_77, o1_77, n1_77, o2_77, n2_77, q0_1_77, q0_2_77, q1_2_77⟩
    rintro s78 _ _ w79 ⟨s3_79, s4_79, s7_79, s9_79, s288_79, hE79, o0_79, n0_79, o1_79, n1_79, o2_79, n2_79, q0_1_79, q0_2_79, q1_2_79⟩ H78 hr78; refine W_seq ?_; refine W_seq ?_; refine W_reg (by kernel_rfl) ?_; refine wla rfl rfl (q_move (v := (i64 s78.2)) rfl s9_79) ?_; refine wla rfl rfl (q_move (v := v7_77) rfl s7_79) ?_; refine wla rfl rfl (q_len rfl T22.sl rfl (o0_79.rd (Sc.stab _))) ?_; refine wla rfl rfl (q_ltI rfl rfl rfl) ?_; refine wl_nil ?_; refine W_th ?_; refine W_cond _ rfl rfl (fun hb80 => ?_) (fun hb80 => ?_)
    · replace H78 := (if_pos (of_decide_eq_true hb80)).symm.trans H78; refine W_skip ?_; refine W_th ?_; refine W_seq ?_; refine W_block ?_; refine W_seq ?_; refine W_reg (by kernel_rfl) ?_; refine wla rfl rfl (q_buildA0 (l := ([] : List UInt32)) (us := []) (z := (0 : UInt32)) rfl A94 Z94 (by exact trivial) rfl rfl cel_u32) ?_; refine wls rfl rfl (stp_allocL (z := (ag u32 ((List.replicate 64 (0 : UInt32))))) (cs := (ac u32 ((List.replicate 64 (0 : UInt32))))) [v7_77, (bp g1), (bp g4)] rfl Z94 rfl ?_); intro g81 w81 o81 n81 g81r l81; have x81 := grown_ext g81r; have q82 : Nq v7_77 (bp g81) := o0_79.nq n81; have q83 : Nq (bp g1) (bp g81) := o1_79.nq n81; have q84 : Nq (bp g4) (bp g81) := o2_79.nq n81; replace o0_79 := o0_79.extL (Sc.stab _) x81 (Lift.call _ x81 n81); replace o1_79 := o1_79.ext x81; replace o2_79 := o2_79.ext x81; have n86 := Nw.ext hE79 n81; have e85 := hE79.trans x81; obtain ⟨c88, hc88, H78⟩ := bsi H78; refine wln rfl rfl (stp_storeA [] [v7_77, (bp g1), (bp g4)] rfl A94 rfl rfl (lenA_eq hc88) (lenA_eq hc88) o81 one_u32 ?_); intro w87 o87 g87 l87; replace o0_79 := o0_79.other (Sc.stab _) g87 q82 l87; replace o1_79 := o1_79.other g87 q83; replace o2_79 := o2_79.other g87 q84; have e89 := e85.grown g87 n86; refine wl_nil ?_; refine W_th ?_; refine W_seq ?_; refine W_reg (by kernel_rfl) ?_; obtain ⟨c90, hc90, H78⟩ := bsi H78; refine wlq rfl rfl (q_loadA (m := 0) rfl A95 (by exact s4_79) o2_79 (seg_self _ _) (lenA_eq hc90)) ?_; refine wls rfl rfl (stp_allocL (z := (ag u32 ((List.replicate 8 (0 : UInt32))))) (cs := (ac u32 ((List.replicate 8 (0 : UInt32))))) [(bp g81), v7_77, (bp g1), (bp g4)] rfl Z95 rfl ?_); intro g91 w91 o91 n91 g91r l91; have x91 := grown_ext g91r; have q92 : Nq (bp g81) (bp g91) := o87.nq n91; have q93 : Nq v7_77 (bp g91) := o0_79.nq n91; have q94 : Nq (bp g1) (bp g91) := o1_79.nq n91; have q95 : Nq (bp g4) (bp g91) := o2_79.nq n91; replace o87 := o87.ext x91; replace o0_79 := o0_79.extL (Sc.stab _) x91 (Lift.call _ x91 n91); replace o1_79 := o1_79.ext x91; replace o2_79 := o2_79.ext x91; have n97 := Nw.ext e89 n91; have e96 := e89.trans x91; obtain ⟨c99, hc99, H78⟩ := bsi H78; refine wln rfl rfl (stp_storeA [] [(bp g81), v7_77, (bp g1), (bp g4)] rfl A95 rfl rfl (lenA_eq hc99) (lenA_eq hc90) o91 one_u32 ?_); intro w98 o98 g98 l98; replace o87 := o87.other g98 q92; replace o0_79 := o0_79.other (Sc.stab _) g98 q93 l98; replace o1_79 := o1_79.other g98 q94; replace o2_79 := o2_79.other g98 q95; have e100 := e96.grown g98 n97; refine wl_nil ?_; refine W_th ?_; refine W_seq ?_; refine W_seq ?_; refine W_reg (by kernel_rfl) ?_; refine wla rfl rfl (q_assign (v := (i64 0)) rfl rfl) ?_; refine wl_nil ?_; refine W_th ?_; obtain ⟨x101, G101, H78⟩ := bsi H78; refine W_mid (fun f w => f 3 = (bp g1) ∧ f 4 = (bp g4) ∧ f 7 = v7_77 ∧ f 9 = (i64 s78.2) ∧ f 11 = (bp g91) ∧ f 288 = undef ∧ Ext w0 w ∧ OwK (Sc u8) w [v7_77, (bp g1), (bp g4), (bp g91)] 5 v7_77 x65 ∧ Nw w0 v7_77 ∧ Blk w g1 94 (ac u32 x16.1) ∧ Nw w0 (bp g1) ∧ Blk w g4 95 (ac u32 s78.1) ∧ Nw w0 (bp g4) ∧ Blk w g91 95 (ac u32 x101) ∧ Nw w0 (bp g91) ∧ Nq v7_77 (bp g1) ∧ Nq v7_77 (bp g4) ∧ Nq v7_77 (bp g91) ∧ Nq (bp g1) (bp g4) ∧ Nq (bp g1) (bp g91) ∧ Nq (bp g4) (bp g91)) ?_ ?_
      · refine W_block ?_; refine W_loop (fun s101 f w => f 3 = (bp g1) ∧ f 4 = (bp g4) ∧ f 7 = v7_77 ∧ f 9 = (i64 s78.2) ∧ f 10 = (bp g81) ∧ f 11 = (bp g91) ∧ f 12 = (i64 s101.2.2) ∧ f 288 = undef ∧ Ext w0 w ∧ OwK (Sc u8) w [v7_77, (bp g1), (bp g4), (bp g81), (bp g91)] 5 v7_77 x65 ∧ Nw w0 v7_77 ∧ Blk w g1 94 (ac u32 x16.1) ∧ Nw w0 (bp g1) ∧ Blk w g4 95 (ac u32 s78.1) ∧ Nw w0 (bp g4) ∧ Blk w g81 94 (ac u32 s101.1) ∧ Nw w0 (bp g81) ∧ Blk w g91 95 (ac u32 s101.2.1) ∧ Nw w0 (bp g91) ∧ Nq v7_77 (bp g1) ∧ Nq v7_77 (bp g4) ∧ Nq v7_77 (bp g81) ∧ Nq v7_77 (bp g91) ∧ Nq (bp g1) (bp g4) ∧ Nq (bp g1) (bp g81) ∧ Nq (bp g1) (bp g91) ∧ Nq (bp g4) (bp g81) ∧ Nq (bp g4) (bp g91) ∧ Nq (bp g81) (bp g91)) G101 ?_ ?_
        · exact ⟨s3_79, s4_79, s7_79, s9_79, rfl, rfl, rfl, s288_79, e100, (o0_79.weak (Sc.stab _) (fun _ h => ⟨h.2.2.1, h.2.2.2.1, h.2.2.2.2.1, h.2.1, h.1, trivial⟩)), n0_79, o1_79, n1_79, o2_79, n2_79, o87, n86, o98, n97, q0_1_79, q0_2_79, q82, q93, q1_2_79, q83, q94, q84, q95, q92⟩
        rintro s101 _ _ w102 ⟨s3_102, s4_102, s7_102, s9_102, s10_102, s11_102, s12_102, s288_102, hE102, o0_102, n0_102, o1_102, n1_102, o2_102, n2_102, o3_102, n3_102, o4_102, n4_102, q0_1_102, q0_2_102, q0_3_102, q0_4_102, q1_2_102, q1_3_102, q1_4_102, q2_3_102, q2_4_102, q3_4_102⟩ H101 hr101; refine W_seq ?_; refine W_seq ?_; refine W_reg (by kernel_rfl) ?_; refine wla rfl rfl (q_move (v := (i64 s101.2.2)) rfl s12_102) ?_; refine wla rfl rfl (q_ltI rfl rfl rfl) ?_; refine wl_nil ?_; refine W_th ?_; refine W_cond _ rfl rfl (fun hb103 => ?_) (fun hb103 => ?_)
        · replace H101 := (if_pos (of_decide_eq_true hb103)).symm.trans H101; refine W_skip ?_; refine W_th ?_; refine W_seq ?_; refine W_block ?_; refine W_seq ?_; obtain ⟨x104, H104, H101⟩ := bsi H101; refine W_mid (fun f w => f 3 = (bp g1) ∧ f 4 = (bp g4) ∧ f 7 = v7_77 ∧ f 9 = (i64 s78.2) ∧ f 10 = (bp g81) ∧ f 11 = (bp g91) ∧ f 12 = (i64 s101.2.2) ∧ f 288 = undef ∧ Ext w0 w ∧ OwK (Sc u8) w [v7_77, (bp g1), (bp g4), (bp g81), (bp g91)] 5 v7_77 x65 ∧ Nw w0 v7_77 ∧ Blk w g1 94 (ac u32 x16.1) ∧ Nw w0 (bp g1) ∧ Blk w g4 95 (ac u32 s78.1) ∧ Nw w0 (bp g4) ∧ Blk w g81 94 (ac u32 x104) ∧ Nw w0 (bp g81) ∧ Blk w g91 95 (ac u32 s101.2.1) ∧ Nw w0 (bp g91) ∧ Nq v7_77 (bp g1) ∧ Nq v7_77 (bp g4) ∧ Nq v7_77 (bp g81) ∧ Nq v7_77 (bp g91) ∧ Nq (bp g1) (bp g4) ∧ Nq (bp g1) (bp g81) ∧ Nq (bp g1) (bp g91) ∧ Nq (bp g4) (bp g81) ∧ Nq (bp g4) (bp g91) ∧ Nq (bp g81) (bp g91)) ?_ ?_
          · refine W_seq ?_; refine W_reg (by kernel_rfl) ?_; refine wla rfl rfl (q_move (v := (i64 s101.2.2)) rfl s12_102) ?_; refine wla rfl rfl (q_ltI rfl rfl rfl) ?_; refine wl_nil ?_; refine W_th ?_; refine W_cond _ rfl rfl (fun hb105 => ?_) (fun hb105 => ?_)
            · replace H104 := (if_pos (of_decide_eq_true hb105)).symm.trans H104; refine W_draw [7, 17, 28, 39] [(0, 0), (1, 0), (2, 0), (3, 0), (4, 0), (5, 0), (6, 0), (7, 1), (8, 0), (9, 0), (10, 0), (11, 0), (12, 0), (13, 0), (14, 0), (15, 0), (16, 0), (17, 1), (18, 0), (19, 0), (20, 0), (21, 0), (22, 0), (23, 0), (24, 0), (25, 0), (26, 0), (27, 0), (28, 1), (29, 0), (30, 0), (31, 0), (32, 0), (33, 0), (34, 0), (35, 0), (36, 0), (37, 0), (38, 0), (39, 1), (40, 0), (41, 0), (42, 0), (43, 2)] mixed (by kernel_rfl) (by kernel_rfl) (by kernel_rfl) (by kernel_rfl) ?_; have x106 := Ext.drew w102; replace o0_102 := o0_102.extL (Sc.stab _) x106 (Lift.ext x106 _); replace o1_102 := o1_102.ext x106; replace o2_102 := o2_102.ext x106; replace o3_102 := o3_102.ext x106; replace o4_102 := o4_102.ext x106; have e107 := hE102.trans x106; refine wsa rfl rfl rfl (q_move (v := (i64 s101.2.2)) rfl s12_102) ?_; refine wsa rfl rfl rfl (q_move (v := v7_77) rfl s7_102) ?_; refine wsa rfl rfl rfl (q_move (v := (i64 s78.2)) rfl s9_102) ?_; refine wsa rfl rfl rfl (q_move (v := (i64 s101.2.2)) rfl s12_102) ?_; refine wsa rfl rfl rfl (q_mulI rfl rfl rfl) ?_; refine wsa rfl rfl rfl (q_addI rfl rfl rfl) ?_; obtain ⟨c108, hc108, H104⟩ := bsi H104; refine wsa rfl rfl rfl (q_adr rfl T22 rfl rfl (o0_102.rd (Sc.stab _)) hc108) ?_; refine wsq rfl rfl rfl (q_loadS rfl T22 rfl (o0_102.rd (Sc.stab _)) hc108) ?_; refine wsa rfl rfl rfl (q_cvt328 rfl rfl rfl rfl) ?_; refine wsa rfl rfl rfl (q_shl32 24 rfl rfl rfl rfl) ?_; refine wsa rfl rfl rfl (q_move (v := v7_77) rfl s7_102) ?_; refine wsa rfl rfl rfl (q_move (v := (i64 s78.2)) rfl s9_102) ?_; refine wsa rfl rfl rfl (q_move (v := (i64 s101.2.2)) rfl s12_102) ?_; refine wsa rfl rfl rfl (q_mulI rfl rfl rfl) ?_; refine wsa rfl rfl rfl (q_addI rfl rfl rfl) ?_; refine wsa rfl rfl rfl (q_addI rfl rfl rfl) ?_; obtain ⟨c109, hc109, H104⟩ := bsi H104; refine wsa rfl rfl rfl (q_adr rfl T22 rfl rfl (o0_102.rd (Sc.stab _)) hc109) ?_; refine wsq rfl rfl rfl (q_loadS rfl T22 rfl (o0_102.rd (Sc.stab _)) hc109) ?_; refine wsa rfl rfl rfl (q_cvt328 rfl rfl rfl rfl) ?_; refine wsa rfl rfl rfl (q_shl32 16 rfl rfl rfl rfl) ?_; refine wsa rfl rfl rfl (q_or32 rfl rfl rfl) ?_; refine wsa rfl rfl rfl (q_move (v := v7_77) rfl s7_102) ?_; refine wsa rfl rfl rfl (q_move (v := (i64 s78.2)) rfl s9_102) ?_; refine wsa rfl rfl rfl (q_move (v := (i64 s101.2.2)) rfl s12_102) ?_; refine wsa rfl rfl rfl (q_mulI rfl rfl rfl) ?_; refine wsa rfl rfl rfl (q_addI rfl rfl rfl) ?_; refine wsa rfl rfl rfl (q_addI rfl rfl rfl) ?_; obtain ⟨c110, hc110, H104⟩ := bsi H104; refine wsa rfl rfl rfl (q_adr rfl T22 rfl rfl (o0_102.rd (Sc.stab _)) hc110) ?_; refine wsq rfl rfl rfl (q_loadS rfl T22 rfl (o0_102.rd (Sc.stab _)) hc110) ?_; refine wsa rfl rfl rfl (q_cvt328 rfl rfl rfl rfl) ?_; refine wsa rfl rfl rfl (q_shl32 8 rfl rfl rfl rfl) ?_; refine wsa rfl rfl rfl (q_or32 rfl rfl rfl) ?_; refine wsa rfl rfl rfl (q_move (v := v7_77) rfl s7_102) ?_
              refine wsa rfl rfl rfl (q_move (v := (i64 s78.2)) rfl s9_102) ?_; refine wsa rfl rfl rfl (q_move (v := (i64 s101.2.2)) rfl s12_102) ?_; refine wsa rfl rfl rfl (q_mulI rfl rfl rfl) ?_; refine wsa rfl rfl rfl (q_addI rfl rfl rfl) ?_; refine wsa rfl rfl rfl (q_addI rfl rfl rfl) ?_; obtain ⟨c111, hc111, H104⟩ := bsi H104; refine wsa rfl rfl rfl (q_adr rfl T22 rfl rfl (o0_102.rd (Sc.stab _)) hc111) ?_; refine wsq rfl rfl rfl (q_loadS rfl T22 rfl (o0_102.rd (Sc.stab _)) hc111) ?_; refine wsa rfl rfl rfl (q_cvt328 rfl rfl rfl rfl) ?_; refine wsa rfl rfl rfl (q_or32 rfl rfl rfl) ?_; obtain ⟨c112, hc112, H104⟩ := bsi H104; obtain ⟨c113, hc113, H104⟩ := bsi H104; refine wsa rfl rfl rfl (q_ixA (m := 0) rfl A94 (by exact s10_102) rfl (lenA_eq hc112) hc113) ?_; refine wsn rfl (by kernel_rfl) rfl rfl (stp_storeX (b := ((((shl32 ((c108.toUInt32)) 24) ||| (shl32 ((c109.toUInt32)) 16)) ||| (shl32 ((c110.toUInt32)) 8)) ||| (c111.toUInt32))) [v7_77, (bp g1), (bp g4)] [(bp g91)] rfl A94 rfl rfl o3_102 hc113 (one_u32 _) ?_); intro w114 o114 g114 l114; replace o0_102 := o0_102.other (Sc.stab _) g114 q0_3_102 l114; replace o1_102 := o1_102.other g114 q1_3_102; replace o2_102 := o2_102.other g114 q2_3_102; replace o4_102 := o4_102.other g114 q3_4_102.symm; have e115 := e107.grown g114 n3_102; refine ws_nil ?_; obtain rfl := osi H104; exact ⟨s3_102, s4_102, s7_102, s9_102, s10_102, s11_102, s12_102, s288_102, e115, o0_102, n0_102, o1_102, n1_102, o2_102, n2_102, o114, n3_102, o4_102, n4_102, q0_1_102, q0_2_102, q0_3_102, q0_4_102, q1_2_102, q1_3_102, q1_4_102, q2_3_102, q2_4_102, q3_4_102⟩
            replace H104 := (if_neg (of_decide_eq_false hb105)).symm.trans H104; refine W_draw [4, 9, 15, 21, 26, 31, 37, 44] [(0, 0), (1, 0), (2, 0), (3, 0), (4, 1), (6, 0), (7, 0), (8, 0), (9, 1), (12, 0), (13, 0), (14, 0), (15, 1), (16, 0), (18, 0), (19, 0), (20, 0), (21, 1), (23, 0), (24, 0), (25, 0), (26, 1), (28, 0), (29, 0), (30, 0), (31, 1), (34, 0), (35, 0), (36, 0), (37, 1), (38, 0), (41, 0), (42, 0), (43, 0), (44, 1), (5, 2), (10, 2), (11, 0), (17, 0), (22, 0), (27, 2), (32, 2), (33, 0), (39, 0), (40, 0), (45, 0), (46, 0), (47, 2)] mixed (by kernel_rfl) (by kernel_rfl) (by kernel_rfl) (by kernel_rfl) ?_; have x116 := Ext.drew w102; replace o0_102 := o0_102.extL (Sc.stab _) x116 (Lift.ext x116 _); replace o1_102 := o1_102.ext x116; replace o2_102 := o2_102.ext x116; replace o3_102 := o3_102.ext x116; replace o4_102 := o4_102.ext x116; have e117 := hE102.trans x116; refine wsa rfl rfl rfl (q_move (v := (i64 s101.2.2)) rfl s12_102) ?_; refine wsa rfl rfl rfl (q_move (v := (i64 s101.2.2)) rfl s12_102) ?_; refine wsa rfl rfl rfl (q_subI rfl rfl rfl) ?_; obtain ⟨c118, hc118, H104⟩ := bsi H104; obtain ⟨c119, hc119, H104⟩ := bsi H104; refine wsa rfl rfl rfl (q_ixA (m := 0) rfl A94 (by exact s10_102) rfl (lenA_eq hc118) hc119) ?_; refine wsq rfl rfl rfl (q_loadE (m := 0) rfl A94 rfl o3_102 (seg_self _ _) hc119) ?_; refine wsa rfl rfl rfl (q_move (v := (i64 s101.2.2)) rfl s12_102) ?_; refine wsa rfl rfl rfl (q_subI rfl rfl rfl) ?_; refine wsa rfl rfl rfl (q_ixA (m := 0) rfl A94 (by exact s10_102) rfl (lenA_eq hc118) hc119) ?_; refine wsq rfl rfl rfl (q_loadE (m := 0) rfl A94 rfl o3_102 (seg_self _ _) hc119) ?_; refine wsa rfl rfl rfl (q_move (v := (i64 s101.2.2)) rfl s12_102) ?_; refine wsa rfl rfl rfl (q_subI rfl rfl rfl) ?_; refine wsa rfl rfl rfl (q_ixA (m := 0) rfl A94 (by exact s10_102) rfl (lenA_eq hc118) hc119) ?_; refine wsq rfl rfl rfl (q_loadE (m := 0) rfl A94 rfl o3_102 (seg_self _ _) hc119) ?_; refine wsa rfl rfl rfl (q_shr32 10 rfl rfl rfl rfl) ?_; refine wsa rfl rfl rfl (q_move (v := (i64 s101.2.2)) rfl s12_102) ?_; refine wsa rfl rfl rfl (q_subI rfl rfl rfl) ?_; obtain ⟨c120, hc120, H104⟩ := bsi H104; refine wsa rfl rfl rfl (q_ixA (m := 0) rfl A94 (by exact s10_102) rfl (lenA_eq hc118) hc120) ?_; refine wsq rfl rfl rfl (q_loadE (m := 0) rfl A94 rfl o3_102 (seg_self _ _) hc120) ?_; refine wsa rfl rfl rfl (q_move (v := (i64 s101.2.2)) rfl s12_102) ?_; refine wsa rfl rfl rfl (q_subI rfl rfl rfl) ?_; obtain ⟨c121, hc121, H104⟩ := bsi H104; refine wsa rfl rfl rfl (q_ixA (m := 0) rfl A94 (by exact s10_102) rfl (lenA_eq hc118) hc121) ?_; refine wsq rfl rfl rfl (q_loadE (m := 0) rfl A94 rfl o3_102 (seg_self _ _) hc121) ?_; refine wsa rfl rfl rfl (q_move (v := (i64 s101.2.2)) rfl s12_102) ?_; refine wsa rfl rfl rfl (q_subI rfl rfl rfl) ?_; refine wsa rfl rfl rfl (q_ixA (m := 0) rfl A94 (by exact s10_102) rfl (lenA_eq hc118) hc121) ?_; refine wsq rfl rfl rfl (q_loadE (m := 0) rfl A94 rfl o3_102 (seg_self _ _) hc121) ?_
            refine wsa rfl rfl rfl (q_move (v := (i64 s101.2.2)) rfl s12_102) ?_; refine wsa rfl rfl rfl (q_subI rfl rfl rfl) ?_; refine wsa rfl rfl rfl (q_ixA (m := 0) rfl A94 (by exact s10_102) rfl (lenA_eq hc118) hc121) ?_; refine wsq rfl rfl rfl (q_loadE (m := 0) rfl A94 rfl o3_102 (seg_self _ _) hc121) ?_; refine wsa rfl rfl rfl (q_shr32 3 rfl rfl rfl rfl) ?_; refine wsa rfl rfl rfl (q_move (v := (i64 s101.2.2)) rfl s12_102) ?_; refine wsa rfl rfl rfl (q_subI rfl rfl rfl) ?_; obtain ⟨c122, hc122, H104⟩ := bsi H104; refine wsa rfl rfl rfl (q_ixA (m := 0) rfl A94 (by exact s10_102) rfl (lenA_eq hc118) hc122) ?_; refine wsq rfl rfl rfl (q_loadE (m := 0) rfl A94 rfl o3_102 (seg_self _ _) hc122) ?_; obtain ⟨r123, hr123, H104⟩ := bsi H104; refine wss rfl rfl rfl (stp_call (vs := [(u32 c119), (i64 17)]) Try.func66 rfl rfl rfl (ar2 rfl rfl) (ref07_turn_calls c119 17  r123 _  hr123) ?_); rintro _ w123 ⟨rfl, x123⟩; refine ⟨_, rfl, x123, ?_⟩; replace o0_102 := o0_102.extL (Sc.stab _) x123 (Lift.ext x123 _); replace o1_102 := o1_102.ext x123; replace o2_102 := o2_102.ext x123; replace o3_102 := o3_102.ext x123; replace o4_102 := o4_102.ext x123; have e124 := e117.trans x123; obtain ⟨r125, hr125, H104⟩ := bsi H104; refine wss rfl rfl rfl (stp_call (vs := [(u32 c119), (i64 19)]) Try.func66 rfl rfl rfl (ar2 rfl rfl) (ref07_turn_calls c119 19  r125 _  hr125) ?_); rintro _ w125 ⟨rfl, x125⟩; refine ⟨_, rfl, x125, ?_⟩; replace o0_102 := o0_102.extL (Sc.stab _) x125 (Lift.ext x125 _); replace o1_102 := o1_102.ext x125; replace o2_102 := o2_102.ext x125; replace o3_102 := o3_102.ext x125; replace o4_102 := o4_102.ext x125; have e126 := e124.trans x125; refine wsa rfl rfl rfl (q_xor32 rfl rfl rfl) ?_; refine wsa rfl rfl rfl (q_xor32 rfl rfl rfl) ?_; refine wsa rfl rfl rfl (q_add32 rfl rfl rfl) ?_; obtain ⟨r127, hr127, H104⟩ := bsi H104; refine wss rfl rfl rfl (stp_call (vs := [(u32 c121), (i64 7)]) Try.func66 rfl rfl rfl (ar2 rfl rfl) (ref07_turn_calls c121 7  r127 _  hr127) ?_); rintro _ w127 ⟨rfl, x127⟩; refine ⟨_, rfl, x127, ?_⟩; replace o0_102 := o0_102.extL (Sc.stab _) x127 (Lift.ext x127 _); replace o1_102 := o1_102.ext x127; replace o2_102 := o2_102.ext x127; replace o3_102 := o3_102.ext x127; replace o4_102 := o4_102.ext x127; have e128 := e126.trans x127; obtain ⟨r129, hr129, H104⟩ := bsi H104; refine wss rfl rfl rfl (stp_call (vs := [(u32 c121), (i64 18)]) Try.func66 rfl rfl rfl (ar2 rfl rfl) (ref07_turn_calls c121 18  r129 _  hr129) ?_); rintro _ w129 ⟨rfl, x129⟩; refine ⟨_, rfl, x129, ?_⟩; replace o0_102 := o0_102.extL (Sc.stab _) x129 (Lift.ext x129 _); replace o1_102 := o1_102.ext x129; replace o2_102 := o2_102.ext x129; replace o3_102 := o3_102.ext x129; replace o4_102 := o4_102.ext x129; have e130 := e128.trans x129; refine wsa rfl rfl rfl (q_xor32 rfl rfl rfl) ?_; refine wsa rfl rfl rfl (q_xor32 rfl rfl rfl) ?_; refine wsa rfl rfl rfl (q_add32 rfl rfl rfl) ?_
            refine wsa rfl rfl rfl (q_add32 rfl rfl rfl) ?_; obtain ⟨c131, hc131, H104⟩ := bsi H104; refine wsa rfl rfl rfl (q_ixA (m := 0) rfl A94 (by exact s10_102) rfl (lenA_eq hc118) hc131) ?_; refine wsn rfl (by kernel_rfl) rfl rfl (stp_storeX (b := (((((r123 ^^^ r125) ^^^ (shr32 c119 10)) + c120) + ((r127 ^^^ r129) ^^^ (shr32 c121 3))) + c122)) [v7_77, (bp g1), (bp g4)] [(bp g91)] rfl A94 rfl rfl o3_102 hc131 (one_u32 _) ?_); intro w132 o132 g132 l132; replace o0_102 := o0_102.other (Sc.stab _) g132 q0_3_102 l132; replace o1_102 := o1_102.other g132 q1_3_102; replace o2_102 := o2_102.other g132 q2_3_102; replace o4_102 := o4_102.other g132 q3_4_102.symm; have e133 := e130.grown g132 n3_102; refine ws_nil ?_; obtain rfl := osi H104; exact ⟨s3_102, s4_102, s7_102, s9_102, s10_102, s11_102, s12_102, s288_102, e133, o0_102, n0_102, o1_102, n1_102, o2_102, n2_102, o132, n3_102, o4_102, n4_102, q0_1_102, q0_2_102, q0_3_102, q0_4_102, q1_2_102, q1_3_102, q1_4_102, q2_3_102, q2_4_102, q3_4_102⟩
          rintro _ w134 ⟨s3_134, s4_134, s7_134, s9_134, s10_134, s11_134, s12_134, s288_134, hE134, o0_134, n0_134, o1_134, n1_134, o2_134, n2_134, o3_134, n3_134, o4_134, n4_134, q0_1_134, q0_2_134, q0_3_134, q0_4_134, q1_2_134, q1_3_134, q1_4_134, q2_3_134, q2_4_134, q3_4_134⟩; refine W_th ?_; refine W_seq ?_; refine W_draw [1, 3, 6, 10, 15, 17, 20, 23, 29, 33] [(0, 0), (1, 1), (2, 0), (3, 1), (5, 0), (6, 1), (9, 0), (10, 1), (14, 0), (15, 1), (16, 0), (17, 1), (18, 0), (19, 0), (20, 1), (21, 0), (22, 0), (23, 1), (24, 0), (25, 0), (27, 0), (28, 0), (29, 1), (31, 0), (32, 0), (33, 1), (4, 2), (7, 2), (8, 0), (11, 2), (12, 0), (13, 0), (26, 0), (30, 0), (34, 0), (35, 0)] mixed (by kernel_rfl) (by kernel_rfl) (by kernel_rfl) (by kernel_rfl) ?_; have x135 := Ext.drew w134; replace o0_134 := o0_134.extL (Sc.stab _) x135 (Lift.ext x135 _); replace o1_134 := o1_134.ext x135; replace o2_134 := o2_134.ext x135; replace o3_134 := o3_134.ext x135; replace o4_134 := o4_134.ext x135; have e136 := hE134.trans x135; obtain ⟨c137, hc137, H101⟩ := bsi H101; obtain ⟨c138, hc138, H101⟩ := bsi H101; refine wsa rfl rfl rfl (q_ixA (m := 0) rfl A95 (by exact s11_134) rfl (lenA_eq hc137) hc138) ?_; refine wsq rfl rfl rfl (q_loadE (m := 0) rfl A95 rfl o4_134 (seg_self _ _) hc138) ?_; obtain ⟨c139, hc139, H101⟩ := bsi H101; refine wsa rfl rfl rfl (q_ixA (m := 0) rfl A95 (by exact s11_134) rfl (lenA_eq hc137) hc139) ?_; refine wsq rfl rfl rfl (q_loadE (m := 0) rfl A95 rfl o4_134 (seg_self _ _) hc139) ?_; refine wsa rfl rfl rfl (q_ixA (m := 0) rfl A95 (by exact s11_134) rfl (lenA_eq hc137) hc139) ?_; refine wsq rfl rfl rfl (q_loadE (m := 0) rfl A95 rfl o4_134 (seg_self _ _) hc139) ?_; refine wsa rfl rfl rfl (q_ixA (m := 0) rfl A95 (by exact s11_134) rfl (lenA_eq hc137) hc139) ?_; refine wsq rfl rfl rfl (q_loadE (m := 0) rfl A95 rfl o4_134 (seg_self _ _) hc139) ?_; refine wsa rfl rfl rfl (q_ixA (m := 0) rfl A95 (by exact s11_134) rfl (lenA_eq hc137) hc139) ?_; refine wsq rfl rfl rfl (q_loadE (m := 0) rfl A95 rfl o4_134 (seg_self _ _) hc139) ?_; obtain ⟨c140, hc140, H101⟩ := bsi H101; refine wsa rfl rfl rfl (q_ixA (m := 0) rfl A95 (by exact s11_134) rfl (lenA_eq hc137) hc140) ?_; refine wsq rfl rfl rfl (q_loadE (m := 0) rfl A95 rfl o4_134 (seg_self _ _) hc140) ?_; refine wsa rfl rfl rfl (q_and32 rfl rfl rfl) ?_; refine wsa rfl rfl rfl (q_ixA (m := 0) rfl A95 (by exact s11_134) rfl (lenA_eq hc137) hc139) ?_; refine wsq rfl rfl rfl (q_loadE (m := 0) rfl A95 rfl o4_134 (seg_self _ _) hc139) ?_; refine wsa rfl rfl rfl (q_not32 rfl rfl) ?_; obtain ⟨c141, hc141, H101⟩ := bsi H101; refine wsa rfl rfl rfl (q_ixA (m := 0) rfl A95 (by exact s11_134) rfl (lenA_eq hc137) hc141) ?_; refine wsq rfl rfl rfl (q_loadE (m := 0) rfl A95 rfl o4_134 (seg_self _ _) hc141) ?_; refine wsa rfl rfl rfl (q_and32 rfl rfl rfl) ?_; refine wsa rfl rfl rfl (q_xor32 rfl rfl rfl) ?_; refine wsa rfl rfl rfl (q_move (v := (i64 s101.2.2)) rfl s12_134) ?_
          obtain ⟨c142, hc142, H101⟩ := bsi H101; obtain ⟨c143, hc143, H101⟩ := bsi H101; refine wsa rfl rfl rfl (q_ixA (m := 0) rfl A94 (by exact s3_134) rfl (lenA_eq hc142) hc143) ?_; refine wsq rfl rfl rfl (q_loadE (m := 0) rfl A94 rfl o1_134 (seg_self _ _) hc143) ?_; refine wsa rfl rfl rfl (q_move (v := (i64 s101.2.2)) rfl s12_134) ?_; obtain ⟨c144, hc144, H101⟩ := bsi H101; obtain ⟨c145, hc145, H101⟩ := bsi H101; refine wsa rfl rfl rfl (q_ixA (m := 0) rfl A94 (by exact s10_134) rfl (lenA_eq hc144) hc145) ?_; refine wsq rfl rfl rfl (q_loadE (m := 0) rfl A94 rfl o3_134 (seg_self _ _) hc145) ?_; obtain ⟨r146, hr146, H101⟩ := bsi H101; refine wss rfl rfl rfl (stp_call (vs := [(u32 c139), (i64 6)]) Try.func66 rfl rfl rfl (ar2 rfl rfl) (ref07_turn_calls c139 6  r146 _  hr146) ?_); rintro _ w146 ⟨rfl, x146⟩; refine ⟨_, rfl, x146, ?_⟩; replace o0_134 := o0_134.extL (Sc.stab _) x146 (Lift.ext x146 _); replace o1_134 := o1_134.ext x146; replace o2_134 := o2_134.ext x146; replace o3_134 := o3_134.ext x146; replace o4_134 := o4_134.ext x146; have e147 := e136.trans x146; obtain ⟨r148, hr148, H101⟩ := bsi H101; refine wss rfl rfl rfl (stp_call (vs := [(u32 c139), (i64 11)]) Try.func66 rfl rfl rfl (ar2 rfl rfl) (ref07_turn_calls c139 11  r148 _  hr148) ?_); rintro _ w148 ⟨rfl, x148⟩; refine ⟨_, rfl, x148, ?_⟩; replace o0_134 := o0_134.extL (Sc.stab _) x148 (Lift.ext x148 _); replace o1_134 := o1_134.ext x148; replace o2_134 := o2_134.ext x148; replace o3_134 := o3_134.ext x148; replace o4_134 := o4_134.ext x148; have e149 := e147.trans x148; refine wsa rfl rfl rfl (q_xor32 rfl rfl rfl) ?_; obtain ⟨r150, hr150, H101⟩ := bsi H101; refine wss rfl rfl rfl (stp_call (vs := [(u32 c139), (i64 25)]) Try.func66 rfl rfl rfl (ar2 rfl rfl) (ref07_turn_calls c139 25  r150 _  hr150) ?_); rintro _ w150 ⟨rfl, x150⟩; refine ⟨_, rfl, x150, ?_⟩; replace o0_134 := o0_134.extL (Sc.stab _) x150 (Lift.ext x150 _); replace o1_134 := o1_134.ext x150; replace o2_134 := o2_134.ext x150; replace o3_134 := o3_134.ext x150; replace o4_134 := o4_134.ext x150; have e151 := e149.trans x150; refine wsa rfl rfl rfl (q_xor32 rfl rfl rfl) ?_; refine wsa rfl rfl rfl (q_add32 rfl rfl rfl) ?_; refine wsa rfl rfl rfl (q_add32 rfl rfl rfl) ?_; refine wsa rfl rfl rfl (q_add32 rfl rfl rfl) ?_; refine wsa rfl rfl rfl (q_add32 rfl rfl rfl) ?_; refine wsa rfl rfl rfl (q_assign (v := (u32 (((((c138 + ((r146 ^^^ r148) ^^^ r150)) + ((c139 &&& c140) ^^^ (((4294967295 : UInt32) ^^^ c139) &&& c141))) + c143) + c145)))) rfl rfl) ?_; refine ws_nil ?_; refine W_th ?_; refine W_seq ?_; refine W_draw [1, 4, 8, 12, 14, 17, 19, 23, 25] [(0, 0), (1, 1), (3, 0), (4, 1), (7, 0), (8, 1), (11, 0), (12, 1), (13, 0), (14, 1), (15, 0), (16, 0), (17, 1), (18, 0), (19, 1), (20, 0), (21, 0), (22, 0), (23, 1), (24, 0), (25, 1), (26, 0), (27, 0), (2, 2), (5, 2), (6, 0), (9, 2), (10, 0), (28, 0), (29, 0)] mixed (by kernel_rfl) (by kernel_rfl) (by kernel_rfl) (by kernel_rfl) ?_
          have x152 := Ext.drew w150; replace o0_134 := o0_134.extL (Sc.stab _) x152 (Lift.ext x152 _); replace o1_134 := o1_134.ext x152; replace o2_134 := o2_134.ext x152; replace o3_134 := o3_134.ext x152; replace o4_134 := o4_134.ext x152; have e153 := e151.trans x152; obtain ⟨c154, hc154, H101⟩ := bsi H101; obtain ⟨c155, hc155, H101⟩ := bsi H101; refine wsa rfl rfl rfl (q_ixA (m := 0) rfl A95 (by exact s11_134) rfl (lenA_eq hc154) hc155) ?_; refine wsq rfl rfl rfl (q_loadE (m := 0) rfl A95 rfl o4_134 (seg_self _ _) hc155) ?_; refine wsa rfl rfl rfl (q_ixA (m := 0) rfl A95 (by exact s11_134) rfl (lenA_eq hc154) hc155) ?_; refine wsq rfl rfl rfl (q_loadE (m := 0) rfl A95 rfl o4_134 (seg_self _ _) hc155) ?_; refine wsa rfl rfl rfl (q_ixA (m := 0) rfl A95 (by exact s11_134) rfl (lenA_eq hc154) hc155) ?_; refine wsq rfl rfl rfl (q_loadE (m := 0) rfl A95 rfl o4_134 (seg_self _ _) hc155) ?_; refine wsa rfl rfl rfl (q_ixA (m := 0) rfl A95 (by exact s11_134) rfl (lenA_eq hc154) hc155) ?_; refine wsq rfl rfl rfl (q_loadE (m := 0) rfl A95 rfl o4_134 (seg_self _ _) hc155) ?_; obtain ⟨c156, hc156, H101⟩ := bsi H101; refine wsa rfl rfl rfl (q_ixA (m := 0) rfl A95 (by exact s11_134) rfl (lenA_eq hc154) hc156) ?_; refine wsq rfl rfl rfl (q_loadE (m := 0) rfl A95 rfl o4_134 (seg_self _ _) hc156) ?_; refine wsa rfl rfl rfl (q_and32 rfl rfl rfl) ?_; refine wsa rfl rfl rfl (q_ixA (m := 0) rfl A95 (by exact s11_134) rfl (lenA_eq hc154) hc155) ?_; refine wsq rfl rfl rfl (q_loadE (m := 0) rfl A95 rfl o4_134 (seg_self _ _) hc155) ?_; obtain ⟨c157, hc157, H101⟩ := bsi H101; refine wsa rfl rfl rfl (q_ixA (m := 0) rfl A95 (by exact s11_134) rfl (lenA_eq hc154) hc157) ?_; refine wsq rfl rfl rfl (q_loadE (m := 0) rfl A95 rfl o4_134 (seg_self _ _) hc157) ?_; refine wsa rfl rfl rfl (q_and32 rfl rfl rfl) ?_; refine wsa rfl rfl rfl (q_xor32 rfl rfl rfl) ?_; refine wsa rfl rfl rfl (q_ixA (m := 0) rfl A95 (by exact s11_134) rfl (lenA_eq hc154) hc156) ?_; refine wsq rfl rfl rfl (q_loadE (m := 0) rfl A95 rfl o4_134 (seg_self _ _) hc156) ?_; refine wsa rfl rfl rfl (q_ixA (m := 0) rfl A95 (by exact s11_134) rfl (lenA_eq hc154) hc157) ?_; refine wsq rfl rfl rfl (q_loadE (m := 0) rfl A95 rfl o4_134 (seg_self _ _) hc157) ?_; refine wsa rfl rfl rfl (q_and32 rfl rfl rfl) ?_; refine wsa rfl rfl rfl (q_xor32 rfl rfl rfl) ?_; obtain ⟨r158, hr158, H101⟩ := bsi H101; refine wss rfl rfl rfl (stp_call (vs := [(u32 c155), (i64 2)]) Try.func66 rfl rfl rfl (ar2 rfl rfl) (ref07_turn_calls c155 2  r158 _  hr158) ?_); rintro _ w158 ⟨rfl, x158⟩; refine ⟨_, rfl, x158, ?_⟩; replace o0_134 := o0_134.extL (Sc.stab _) x158 (Lift.ext x158 _); replace o1_134 := o1_134.ext x158; replace o2_134 := o2_134.ext x158; replace o3_134 := o3_134.ext x158; replace o4_134 := o4_134.ext x158; have e159 := e153.trans x158; obtain ⟨r160, hr160, H101⟩ := bsi H101; refine wss rfl rfl rfl (stp_call (vs := [(u32 c155), (i64 13)]) Try.func66 rfl rfl rfl (ar2 rfl rfl) (ref07_turn_calls c155 13  r160 _  hr160) ?_)
          rintro _ w160 ⟨rfl, x160⟩; refine ⟨_, rfl, x160, ?_⟩; replace o0_134 := o0_134.extL (Sc.stab _) x160 (Lift.ext x160 _); replace o1_134 := o1_134.ext x160; replace o2_134 := o2_134.ext x160; replace o3_134 := o3_134.ext x160; replace o4_134 := o4_134.ext x160; have e161 := e159.trans x160; refine wsa rfl rfl rfl (q_xor32 rfl rfl rfl) ?_; obtain ⟨r162, hr162, H101⟩ := bsi H101; refine wss rfl rfl rfl (stp_call (vs := [(u32 c155), (i64 22)]) Try.func66 rfl rfl rfl (ar2 rfl rfl) (ref07_turn_calls c155 22  r162 _  hr162) ?_); rintro _ w162 ⟨rfl, x162⟩; refine ⟨_, rfl, x162, ?_⟩; replace o0_134 := o0_134.extL (Sc.stab _) x162 (Lift.ext x162 _); replace o1_134 := o1_134.ext x162; replace o2_134 := o2_134.ext x162; replace o3_134 := o3_134.ext x162; replace o4_134 := o4_134.ext x162; have e163 := e161.trans x162; refine wsa rfl rfl rfl (q_xor32 rfl rfl rfl) ?_; refine wsa rfl rfl rfl (q_add32 rfl rfl rfl) ?_; refine wsa rfl rfl rfl (q_assign (v := (u32 ((((r158 ^^^ r160) ^^^ r162) + (((c155 &&& c156) ^^^ (c155 &&& c157)) ^^^ (c156 &&& c157)))))) rfl rfl) ?_; refine ws_nil ?_; refine W_th ?_; refine W_reg (by kernel_rfl) ?_; refine wla rfl rfl (q_move (v := (u32 (((((c138 + ((r146 ^^^ r148) ^^^ r150)) + ((c139 &&& c140) ^^^ (((4294967295 : UInt32) ^^^ c139) &&& c141))) + c143) + c145)))) rfl rfl) ?_; refine wla rfl rfl (q_move (v := (u32 ((((r158 ^^^ r160) ^^^ r162) + (((c155 &&& c156) ^^^ (c155 &&& c157)) ^^^ (c156 &&& c157)))))) rfl rfl) ?_; refine wla rfl rfl (q_add32 rfl rfl rfl) ?_; obtain ⟨c164, hc164, H101⟩ := bsi H101; obtain ⟨c165, hc165, H101⟩ := bsi H101; refine wla rfl rfl (q_ixA (m := 0) rfl A95 (by exact s11_134) rfl (lenA_eq hc164) hc165) ?_; refine wlq rfl rfl (q_loadE (m := 0) rfl A95 rfl o4_134 (seg_self _ _) hc165) ?_; obtain ⟨c166, hc166, H101⟩ := bsi H101; refine wla rfl rfl (q_ixA (m := 0) rfl A95 (by exact s11_134) rfl (lenA_eq hc164) hc166) ?_; refine wlq rfl rfl (q_loadE (m := 0) rfl A95 rfl o4_134 (seg_self _ _) hc166) ?_; obtain ⟨c167, hc167, H101⟩ := bsi H101; refine wla rfl rfl (q_ixA (m := 0) rfl A95 (by exact s11_134) rfl (lenA_eq hc164) hc167) ?_; refine wlq rfl rfl (q_loadE (m := 0) rfl A95 rfl o4_134 (seg_self _ _) hc167) ?_; obtain ⟨c168, hc168, H101⟩ := bsi H101; refine wla rfl rfl (q_ixA (m := 0) rfl A95 (by exact s11_134) rfl (lenA_eq hc164) hc168) ?_; refine wlq rfl rfl (q_loadE (m := 0) rfl A95 rfl o4_134 (seg_self _ _) hc168) ?_; refine wla rfl rfl (q_move (v := (u32 (((((c138 + ((r146 ^^^ r148) ^^^ r150)) + ((c139 &&& c140) ^^^ (((4294967295 : UInt32) ^^^ c139) &&& c141))) + c143) + c145)))) rfl rfl) ?_; refine wla rfl rfl (q_add32 rfl rfl rfl) ?_; obtain ⟨c169, hc169, H101⟩ := bsi H101; refine wla rfl rfl (q_ixA (m := 0) rfl A95 (by exact s11_134) rfl (lenA_eq hc164) hc169) ?_; refine wlq rfl rfl (q_loadE (m := 0) rfl A95 rfl o4_134 (seg_self _ _) hc169) ?_
          obtain ⟨c170, hc170, H101⟩ := bsi H101; refine wla rfl rfl (q_ixA (m := 0) rfl A95 (by exact s11_134) rfl (lenA_eq hc164) hc170) ?_; refine wlq rfl rfl (q_loadE (m := 0) rfl A95 rfl o4_134 (seg_self _ _) hc170) ?_; obtain ⟨c171, hc171, H101⟩ := bsi H101; refine wla rfl rfl (q_ixA (m := 0) rfl A95 (by exact s11_134) rfl (lenA_eq hc164) hc171) ?_; refine wlq rfl rfl (q_loadE (m := 0) rfl A95 rfl o4_134 (seg_self _ _) hc171) ?_; refine wla rfl rfl (q_buildAF (l := ([(((((c138 + ((r146 ^^^ r148) ^^^ r150)) + ((c139 &&& c140) ^^^ (((4294967295 : UInt32) ^^^ c139) &&& c141))) + c143) + c145) + (((r158 ^^^ r160) ^^^ r162) + (((c155 &&& c156) ^^^ (c155 &&& c157)) ^^^ (c156 &&& c157)))), c165, c166, c167, (c168 + ((((c138 + ((r146 ^^^ r148) ^^^ r150)) + ((c139 &&& c140) ^^^ (((4294967295 : UInt32) ^^^ c139) &&& c141))) + c143) + c145)), c169, c170, c171] : List UInt32)) (us := [(u32 ((((((c138 + ((r146 ^^^ r148) ^^^ r150)) + ((c139 &&& c140) ^^^ (((4294967295 : UInt32) ^^^ c139) &&& c141))) + c143) + c145) + (((r158 ^^^ r160) ^^^ r162) + (((c155 &&& c156) ^^^ (c155 &&& c157)) ^^^ (c156 &&& c157)))))), (u32 c165), (u32 c166), (u32 c167), (u32 ((c168 + ((((c138 + ((r146 ^^^ r148) ^^^ r150)) + ((c139 &&& c140) ^^^ (((4294967295 : UInt32) ^^^ c139) &&& c141))) + c143) + c145)))), (u32 c169), (u32 c170), (u32 c171)]) (z := (0 : UInt32)) rfl A95 Z95 (by exact ⟨rfl, rfl, rfl, rfl, rfl, rfl, rfl, rfl, rfl, rfl, rfl, rfl, rfl, rfl, rfl, rfl, trivial⟩) rfl rfl cel_u32) ?_; obtain ⟨c173, hc173, H101⟩ := bsi H101; refine wln rfl rfl (stp_storeA [v7_77, (bp g1), (bp g4), (bp g81)] [] rfl A95 (by exact s11_134) rfl (lenA_eq hc164) (lenA_eq hc173) o4_134 one_u32 ?_); intro w172 o172 g172 l172; replace o0_134 := o0_134.other (Sc.stab _) g172 q0_4_134 l172; replace o1_134 := o1_134.other g172 q1_4_134; replace o2_134 := o2_134.other g172 q2_4_134; replace o3_134 := o3_134.other g172 q3_4_134; have e174 := e163.grown g172 n4_134; refine wl_nil ?_; refine bk_n ?_; refine W_th ?_; refine W_reg (by kernel_rfl) ?_; refine wla rfl rfl (q_move (v := (i64 s101.2.2)) rfl s12_134) ?_; refine wla rfl rfl (q_addI rfl rfl rfl) ?_; refine wla rfl rfl (q_assign (v := (i64 ((wI (s101.2.2 + 1))))) rfl rfl) ?_; refine wl_nil ?_; obtain rfl := osi H101; exact ⟨_, rfl, s3_134, s4_134, s7_134, s9_134, s10_134, s11_134, rfl, s288_134, e174, o0_134, n0_134, o1_134, n1_134, o2_134, n2_134, o3_134, n3_134, o172, n4_134, q0_1_134, q0_2_134, q0_3_134, q0_4_134, q1_2_134, q1_3_134, q1_4_134, q2_3_134, q2_4_134, q3_4_134⟩
        replace H101 := (if_neg (of_decide_eq_false hb103)).symm.trans H101; refine W_exit ?_; refine th_x ?_; obtain rfl := osi H101; obtain rfl := hr101 _ rfl; refine th_x ?_; refine bk_x ?_; exact ⟨s3_102, s4_102, s7_102, s9_102, s11_102, s288_102, hE102, (o0_102.weak (Sc.stab _) (fun _ h => ⟨h.1, h.2.1, h.2.2.1, h.2.2.2.2.1, trivial⟩)), n0_102, o1_102, n1_102, o2_102, n2_102, o4_102, n4_102, q0_1_102, q0_2_102, q0_4_102, q1_2_102, q1_4_102, q2_4_102⟩
      rintro _ w177 ⟨s3_177, s4_177, s7_177, s9_177, s11_177, s288_177, hE177, o0_177, n0_177, o1_177, n1_177, o2_177, n2_177, o3_177, n3_177, q0_1_177, q0_2_177, q0_3_177, q1_2_177, q1_3_177, q2_3_177⟩; refine W_th ?_; refine W_seq ?_; refine W_reg (by kernel_rfl) ?_; refine wla rfl rfl (q_move (v := (i64 0)) rfl rfl) ?_; refine wl_nil ?_; refine W_th ?_; obtain ⟨x178, G178, H78⟩ := bsi H78; refine W_mid (fun f w => f 3 = (bp g1) ∧ f 4 = (bp g4) ∧ f 7 = v7_77 ∧ f 9 = (i64 s78.2) ∧ f 288 = undef ∧ Ext w0 w ∧ OwK (Sc u8) w [v7_77, (bp g1), (bp g4)] 5 v7_77 x65 ∧ Nw w0 v7_77 ∧ Blk w g1 94 (ac u32 x16.1) ∧ Nw w0 (bp g1) ∧ Blk w g4 95 (ac u32 x178) ∧ Nw w0 (bp g4) ∧ Nq v7_77 (bp g1) ∧ Nq v7_77 (bp g4) ∧ Nq (bp g1) (bp g4)) ?_ ?_
      · refine W_block ?_; refine W_loop (fun s178 f w => f 3 = (bp g1) ∧ f 4 = (bp g4) ∧ f 7 = v7_77 ∧ f 9 = (i64 s78.2) ∧ f 11 = (bp g91) ∧ f 254 = (i64 s178.2) ∧ f 288 = undef ∧ Ext w0 w ∧ OwK (Sc u8) w [v7_77, (bp g1), (bp g4), (bp g91)] 5 v7_77 x65 ∧ Nw w0 v7_77 ∧ Blk w g1 94 (ac u32 x16.1) ∧ Nw w0 (bp g1) ∧ Blk w g4 95 (ac u32 s178.1) ∧ Nw w0 (bp g4) ∧ Blk w g91 95 (ac u32 x101) ∧ Nw w0 (bp g91) ∧ Nq v7_77 (bp g1) ∧ Nq v7_77 (bp g4) ∧ Nq v7_77 (bp g91) ∧ Nq (bp g1) (bp g4) ∧ Nq (bp g1) (bp g91) ∧ Nq (bp g4) (bp g91)) G178 ?_ ?_
        · exact ⟨s3_177, s4_177, s7_177, s9_177, s11_177, rfl, s288_177, hE177, o0_177, n0_177, o1_177, n1_177, o2_177, n2_177, o3_177, n3_177, q0_1_177, q0_2_177, q0_3_177, q1_2_177, q1_3_177, q2_3_177⟩
        rintro s178 _ _ w179 ⟨s3_179, s4_179, s7_179, s9_179, s11_179, s254_179, s288_179, hE179, o0_179, n0_179, o1_179, n1_179, o2_179, n2_179, o3_179, n3_179, q0_1_179, q0_2_179, q0_3_179, q1_2_179, q1_3_179, q2_3_179⟩ H178 hr178; refine W_seq ?_; refine W_reg (by kernel_rfl) ?_; refine wla rfl rfl (q_ltI rfl s254_179 rfl) ?_; refine wl_nil ?_; refine W_th ?_; refine W_seq ?_; refine W_cond _ rfl rfl (fun hb180 => ?_) (fun hb180 => ?_)
        · replace H178 := (if_pos (of_decide_eq_true hb180)).symm.trans H178; refine W_skip ?_; refine W_th ?_; refine W_seq ?_; refine W_block ?_; refine W_seq ?_; refine W_reg (by kernel_rfl) ?_; refine wla rfl rfl (q_move (v := (i64 s178.2)) rfl s254_179) ?_; refine wla rfl rfl (q_assign (v := (i64 s178.2)) rfl rfl) ?_; refine wl_nil ?_; refine W_th ?_; refine W_draw [3, 6] [(0, 0), (1, 0), (2, 0), (3, 1), (4, 0), (5, 0), (6, 1), (7, 0), (8, 0), (9, 2)] mixed (by kernel_rfl) (by kernel_rfl) (by kernel_rfl) (by kernel_rfl) ?_; have x181 := Ext.drew w179; replace o0_179 := o0_179.extL (Sc.stab _) x181 (Lift.ext x181 _); replace o1_179 := o1_179.ext x181; replace o2_179 := o2_179.ext x181; replace o3_179 := o3_179.ext x181; have e182 := hE179.trans x181; refine wsa rfl rfl rfl (q_move (v := (i64 s178.2)) rfl rfl) ?_; refine wsa rfl rfl rfl (q_move (v := (i64 s178.2)) rfl rfl) ?_; obtain ⟨c183, hc183, H178⟩ := bsi H178; obtain ⟨c184, hc184, H178⟩ := bsi H178; refine wsa rfl rfl rfl (q_ixA (m := 0) rfl A95 (by exact s4_179) rfl (lenA_eq hc183) hc184) ?_; refine wsq rfl rfl rfl (q_loadE (m := 0) rfl A95 rfl o2_179 (seg_self _ _) hc184) ?_; refine wsa rfl rfl rfl (q_move (v := (i64 s178.2)) rfl rfl) ?_; obtain ⟨c185, hc185, H178⟩ := bsi H178; obtain ⟨c186, hc186, H178⟩ := bsi H178; refine wsa rfl rfl rfl (q_ixA (m := 0) rfl A95 (by exact s11_179) rfl (lenA_eq hc185) hc186) ?_; refine wsq rfl rfl rfl (q_loadE (m := 0) rfl A95 rfl o3_179 (seg_self _ _) hc186) ?_; refine wsa rfl rfl rfl (q_add32 rfl rfl rfl) ?_; refine wsa rfl rfl rfl (q_ixA (m := 0) rfl A95 (by exact s4_179) rfl (lenA_eq hc183) hc184) ?_; refine wsn rfl (by kernel_rfl) rfl rfl (stp_storeX (b := (c184 + c186)) [v7_77, (bp g1)] [(bp g91)] rfl A95 rfl rfl o2_179 hc184 (one_u32 _) ?_); intro w187 o187 g187 l187; replace o0_179 := o0_179.other (Sc.stab _) g187 q0_2_179 l187; replace o1_179 := o1_179.other g187 q1_2_179; replace o3_179 := o3_179.other g187 q2_3_179.symm; have e188 := e182.grown g187 n2_179; refine ws_nil ?_; refine bk_n ?_; refine W_th ?_; refine W_reg (by kernel_rfl) ?_; refine wla rfl rfl (q_addI rfl s254_179 rfl) ?_; refine wla rfl rfl (q_move (v := (i64 ((wI (s178.2 + 1))))) rfl rfl) ?_; refine wl_nil ?_; obtain rfl := osi H178; exact ⟨_, rfl, s3_179, s4_179, s7_179, s9_179, s11_179, rfl, s288_179, e188, o0_179, n0_179, o1_179, n1_179, o187, n2_179, o3_179, n3_179, q0_1_179, q0_2_179, q0_3_179, q1_2_179, q1_3_179, q2_3_179⟩
        replace H178 := (if_neg (of_decide_eq_false hb180)).symm.trans H178; refine W_exit ?_; refine th_x ?_; obtain rfl := osi H178; obtain rfl := hr178 _ rfl; refine th_x ?_; refine bk_x ?_; exact ⟨s3_179, s4_179, s7_179, s9_179, s288_179, hE179, (o0_179.weak (Sc.stab _) (fun _ h => ⟨h.1, h.2.1, h.2.2.1, trivial⟩)), n0_179, o1_179, n1_179, o2_179, n2_179, q0_1_179, q0_2_179, q1_2_179⟩
      rintro _ w190 ⟨s3_190, s4_190, s7_190, s9_190, s288_190, hE190, o0_190, n0_190, o1_190, n1_190, o2_190, n2_190, q0_1_190, q0_2_190, q1_2_190⟩; refine bk_n ?_; refine W_th ?_; refine W_reg (by kernel_rfl) ?_; refine wla rfl rfl (q_move (v := (i64 s78.2)) rfl s9_190) ?_; refine wla rfl rfl (q_addI rfl rfl rfl) ?_; refine wla rfl rfl (q_assign (v := (i64 ((wI (s78.2 + 64))))) rfl rfl) ?_; refine wl_nil ?_; obtain rfl := osi H78; exact ⟨_, rfl, s3_190, s4_190, s7_190, rfl, s288_190, hE190, o0_190, n0_190, o1_190, n1_190, o2_190, n2_190, q0_1_190, q0_2_190, q1_2_190⟩
    replace H78 := (if_neg (of_decide_eq_false hb80)).symm.trans H78; refine W_exit ?_; refine th_x ?_; obtain rfl := osi H78; obtain rfl := hr78 _ rfl; refine th_x ?_; refine bk_x ?_; exact ⟨s4_79, s288_79, hE79, o2_79, n2_79⟩
  rintro _ w194 ⟨s4_194, s288_194, hE194, o0_194, n0_194⟩; refine W_th ?_; refine W_seq ?_; refine W_reg (by kernel_rfl) ?_; refine wls rfl rfl (stp_lit (L := [(bp g4)]) (R := (Sc u8)) [] ([] : List UInt8) rfl T22 rfl (by exact trivial) rfl (litC u8 (oneC_u8) (us := []) (l := ([] : List UInt8)) rfl) rfl (litS u8 (us := []) (l := ([] : List UInt8)) rfl) ?_); intro v195 w195 o195 n195 g195 l195; have x195 := grown_ext g195; have q196 : Nq (bp g4) v195 := o0_194.nq n195; replace o0_194 := o0_194.ext x195; have n198 := Nw.ext hE194 n195; have e197 := hE194.trans x195; refine wla rfl rfl (q_assign (v := v195) rfl rfl) ?_; refine wl_nil ?_; refine W_th ?_; refine W_seq ?_; refine W_seq ?_; refine W_reg (by kernel_rfl) ?_; obtain ⟨c199, hc199, H⟩ := bsi H; refine wlq rfl rfl (q_loadA (m := 0) rfl A95 (by exact s4_194) o0_194 (seg_self _ _) (lenA_eq hc199)) ?_; refine wla rfl rfl (q_move (v := (i64 0)) rfl rfl) ?_; refine wl_nil ?_; refine W_th ?_; obtain ⟨x200, G200, H⟩ := bsi H; refine W_mid (fun f w => ∃ v16_212 : Value, f 16 = v16_212 ∧ f 288 = undef ∧ Ext w0 w ∧ OwK (Sc u8) w [v16_212] 5 v16_212 x200 ∧ Nw w0 v16_212) ?_ ?_
  · refine W_block ?_; refine W_loop (fun s200 f w => ∃ v16_210 : Value, f 16 = v16_210 ∧ f 268 = (ag u32 x78) ∧ f 269 = (i64 s200.2) ∧ f 288 = undef ∧ Ext w0 w ∧ OwK (Sc u8) w [v16_210] 5 v16_210 s200.1 ∧ Nw w0 v16_210) G200 ?_ ?_
    · exact ⟨v195, rfl, rfl, rfl, s288_194, e197, (o195.weak (Sc.stab _) (fun _ h => ⟨h.1, trivial⟩)), n198⟩
    rintro s200 _ _ w201 ⟨v16_201, s16_201, s268_201, s269_201, s288_201, hE201, o0_201, n0_201⟩ H200 hr200; refine W_seq ?_; refine W_reg (by kernel_rfl) ?_; refine wla rfl rfl (q_ltI rfl s269_201 rfl) ?_; refine wl_nil ?_; refine W_th ?_; refine W_seq ?_; refine W_cond _ rfl rfl (fun hb202 => ?_) (fun hb202 => ?_)
    · replace H200 := (if_pos (of_decide_eq_true hb202)).symm.trans H200; refine W_skip ?_; refine W_th ?_; refine W_seq ?_; refine W_block ?_; refine W_seq ?_; refine W_reg (by kernel_rfl) ?_; obtain ⟨c203, hc203, H200⟩ := bsi H200; obtain ⟨c204, hc204, H200⟩ := bsi H200; refine wla rfl rfl (q_index rfl A95 (by exact s268_201) (by exact s269_201) (lenA_eq hc203) hc204) ?_; refine wla rfl rfl (q_assign (v := (u32 c204)) rfl rfl) ?_; refine wl_nil ?_; refine W_th ?_; refine W_reg (by kernel_rfl) ?_; refine wla rfl rfl (q_move (v := v16_201) rfl s16_201) ?_; refine wla rfl rfl (q_move (v := (u32 c204)) rfl rfl) ?_; refine wla rfl rfl (q_shr32 24 rfl rfl rfl rfl) ?_; refine wla rfl rfl (q_cvt832 rfl rfl rfl rfl) ?_; refine wla rfl rfl (q_move (v := (u32 c204)) rfl rfl) ?_; refine wla rfl rfl (q_shr32 16 rfl rfl rfl rfl) ?_; refine wla rfl rfl (q_cvt832 rfl rfl rfl rfl) ?_; refine wla rfl rfl (q_move (v := (u32 c204)) rfl rfl) ?_; refine wla rfl rfl (q_shr32 8 rfl rfl rfl rfl) ?_; refine wla rfl rfl (q_cvt832 rfl rfl rfl rfl) ?_; refine wla rfl rfl (q_move (v := (u32 c204)) rfl rfl) ?_; refine wla rfl rfl (q_cvt832 rfl rfl rfl rfl) ?_; refine wls rfl rfl (stp_lit (L := [v16_201]) (R := (Sc u8)) [(u8 ((((shr32 c204 24)).toUInt8))), (u8 ((((shr32 c204 16)).toUInt8))), (u8 ((((shr32 c204 8)).toUInt8))), (u8 ((c204.toUInt8)))] ([(((shr32 c204 24)).toUInt8), (((shr32 c204 16)).toUInt8), (((shr32 c204 8)).toUInt8), (c204.toUInt8)] : List UInt8) rfl T22 rfl (by exact ⟨rfl, rfl, rfl, rfl, rfl, rfl, rfl, rfl, trivial⟩) rfl (litC u8 (oneC_u8) (us := [(u8 ((((shr32 c204 24)).toUInt8))), (u8 ((((shr32 c204 16)).toUInt8))), (u8 ((((shr32 c204 8)).toUInt8))), (u8 ((c204.toUInt8)))]) (l := ([(((shr32 c204 24)).toUInt8), (((shr32 c204 16)).toUInt8), (((shr32 c204 8)).toUInt8), (c204.toUInt8)] : List UInt8)) rfl) rfl (litS u8 (us := [(u8 ((((shr32 c204 24)).toUInt8))), (u8 ((((shr32 c204 16)).toUInt8))), (u8 ((((shr32 c204 8)).toUInt8))), (u8 ((c204.toUInt8)))]) (l := ([(((shr32 c204 24)).toUInt8), (((shr32 c204 16)).toUInt8), (((shr32 c204 8)).toUInt8), (c204.toUInt8)] : List UInt8)) rfl) ?_); intro v205 w205 o205 n205 g205 l205; have x205 := grown_ext g205; have i205 : By w205 [v16_201] v205 (([(((shr32 c204 24)).toUInt8), (((shr32 c204 16)).toUInt8), (((shr32 c204 8)).toUInt8), (c204.toUInt8)] : List UInt8)) := OwK.slk (Sc.stab _) _ o205 (fun k hk => (Old.cons (Old.nil _) o0_201.lt) k (n205 k hk)) (fun _ h => h.2); replace o0_201 := o0_201.extL (Sc.stab _) x205 (Lift.ext x205 _); have e206 := hE201.trans x205; obtain ⟨c207, hc207, H200⟩ := bsi H200; refine wls rfl rfl (stp_append (R := (Sc u8)) (v := v16_201) (u := v205) (Sc.stab _) [] [] rfl T22 rfl rfl o0_201 i205 (fun _ _ h => h) hc207 oc_u8 ?_); intro v207 w207 o207 g207 nx207 l207; replace i205 := i205.lift l207; have e208 := e206.grown g207 n0_201; have n209 := Nw.nxt e206 n0_201 nx207; refine wla rfl rfl (q_assign (v := v207) rfl rfl) ?_; refine wl_nil ?_
      refine bk_n ?_; refine W_th ?_; refine W_reg (by kernel_rfl) ?_; refine wla rfl rfl (q_addI rfl s269_201 rfl) ?_; refine wla rfl rfl (q_move (v := (i64 ((wI (s200.2 + 1))))) rfl rfl) ?_; refine wl_nil ?_; obtain rfl := osi H200; exact ⟨_, rfl, v207, rfl, s268_201, rfl, s288_201, e208, o207, n209⟩
    replace H200 := (if_neg (of_decide_eq_false hb202)).symm.trans H200; refine W_exit ?_; refine th_x ?_; obtain rfl := osi H200; obtain rfl := hr200 _ rfl; refine th_x ?_; refine bk_x ?_; exact ⟨v16_201, s16_201, s288_201, hE201, o0_201, n0_201⟩
  rintro _ w211 ⟨v16_211, s16_211, s288_211, hE211, o0_211, n0_211⟩; refine W_th ?_; refine W_seq ?_; refine W_reg (by kernel_rfl) ?_; refine wla rfl rfl (q_move (v := v16_211) rfl s16_211) ?_; refine wla rfl rfl (q_assign (v := v16_211) rfl rfl) ?_; refine wl_nil ?_; refine W_th ?_; refine W_ret ?_; obtain rfl := osi H; refine rt1 v16_211 rfl rfl rfl s288_211 ?_; exact ⟨v16_211, rfl, hE211, n0_211, (o0_211.weak (Sc.stab _) (fun _ _ => trivial))⟩
end Gk

/- The document's answer for sums of bytes, in plain Lean. No condition but lengths. -/
set_option linter.unusedSimpArgs false
set_option linter.unusedVariables false
namespace Gk
open Gf
theorem rturn_eq (x : UInt32) (k : Nat) (h : k ≤ 32) : ref07_turn x k = some (rot x k) := by
  unfold ref07_turn
  rw [cnt_nat, Option.bind_some, wI_of (by omega) (by omega), show (32 : Int) - (k : Int) = ((32 - k : Nat) : Int) by omega, cnt_nat, Option.bind_some]; rfl
def dv : List UInt64 → Nat
  | [] => 0
  | d :: l => d.toNat + 65536 * dv l
theorem dv_app (l : List UInt64) (d : UInt64) : dv (l ++ [d]) = dv l + 65536 ^ l.length * d.toNat := by
  induction l with
  | nil => simp [dv]
  | cons a l ih => simp only [List.cons_append, dv, ih, List.length_cons, Nat.pow_succ]; rw [Nat.mul_add, Nat.add_assoc, Nat.mul_comm (65536 ^ l.length) 65536, Nat.mul_assoc]
def dig (l : List UInt64) (i : Nat) : Nat := (l.getD i 0).toNat
theorem dv_take (l : List UInt64) (i : Nat) (h : i < l.length) : dv (l.take (i + 1)) = dv (l.take i) + 65536 ^ i * dig l i := by
  have : l.take (i + 1) = l.take i ++ [l.getD i 0] := by
    rw [List.take_add_one, List.getElem?_eq_getElem h, List.getD_eq_getElem?_getD, List.getElem?_eq_getElem h]; rfl
  rw [this, dv_app, List.length_take, Nat.min_eq_left (by omega)]; rfl
def Dig (l : List UInt64) : Prop := ∀ d ∈ l, d.toNat < 65536
theorem idx_dig {l : List UInt64} {i : Nat} (h : i < l.length) : idx l (i : Int) = some (l.getD i 0) := by
  rw [idx_nat, List.getD_eq_getElem?_getD, List.getElem?_eq_getElem h]; rfl
theorem dig_lt {l : List UInt64} (h : Dig l) (i : Nat) : dig l i < 65536 := by
  unfold dig
  by_cases hi : i < l.length
  · rw [List.getD_eq_getElem?_getD, List.getElem?_eq_getElem hi]; exact h _ (List.getElem_mem hi)
  · rw [List.getD_eq_getElem?_getD, List.getElem?_eq_none (by omega)]; decide
def pbody (out : List UInt64) (x : UInt64) (s11 : List UInt64 × List UInt64 × UInt64 × Int) : Option ((List UInt64 × List UInt64 × UInt64 × Int) ⊕ List UInt64) :=
  (if s11.2.2.2 < (s11.1.length : Int) then
  (((if s11.2.2.2 < (s11.1.length : Int) then
  ((idx s11.1 s11.2.2.2).bind fun c16 =>
  some (s11.2.2.1 + (c16 * x)))
  else
  some s11.2.2.1)).bind fun x14 =>
  ((appL s11.2.1 (([(x14 % (65536 : UInt64))] : List UInt64))).bind fun c20 =>
  some (.inl (s11.1, c20, (x14 / (65536 : UInt64)), (wI (s11.2.2.2 + 1))))))
  else
  (if (0 : UInt64) < s11.2.2.1 then
  (((if s11.2.2.2 < (s11.1.length : Int) then
  ((idx s11.1 s11.2.2.2).bind fun c28 =>
  some (s11.2.2.1 + (c28 * x)))
  else
  some s11.2.2.1)).bind fun x26 =>
  ((appL s11.2.1 (([(x26 % (65536 : UInt64))] : List UInt64))).bind fun c32 =>
  some (.inl (s11.1, c32, (x26 / (65536 : UInt64)), (wI (s11.2.2.2 + 1))))))
  else
  some (.inr s11.2.1)))
theorem times_loop (out : List UInt64) (x : UInt64) (hx : x.toNat < 2 ^ 40) (ho : Dig out) (hl : out.length ≤ 100) :
    ∃ r, iterC (pbody out x) (out, [], 0, 0) = some r ∧ dv r = dv out * x.toNat ∧ Dig r ∧ r.length ≤ out.length + 3 := by
  refine iterC_inv (body := pbody out x) (fun s => ∃ i : Nat, s.1 = out ∧ s.2.2.2 = (i : Int) ∧ s.2.1.length = i ∧ Dig s.2.1 ∧ i ≤ out.length + 3 ∧ s.2.2.1.toNat < 2 ^ 41 ∧ (out.length ≤ i → s.2.2.1.toNat < 2 ^ (41 - 16 * (i - out.length)))
      ∧ dv s.2.1 + 65536 ^ i * s.2.2.1.toNat = dv (out.take i) * x.toNat)
    (fun s => 200 - s.2.2.2.toNat) _ ?_ _ ⟨0, rfl, rfl, rfl, fun d hd => absurd hd (List.not_mem_nil), by omega, by simp, by intro h; simp, by simp [dv]⟩
  rintro ⟨out, nx, c, _⟩ ⟨i, rfl, rfl, hn, hd, hi, hc, hc2, hv⟩
  simp only at ho hl hn hd hi hc hc2 hv ⊢
  have hmost : (200 : Nat) ≤ most := by decide
  have key : ∀ y : UInt64, Dig (nx ++ [y % 65536]) ∧ (nx ++ [y % 65536]).length = i + 1 ∧ dv (nx ++ [y % 65536]) + 65536 ^ (i + 1) * (y / 65536).toNat = dv nx + 65536 ^ i * y.toNat := by
    intro y
    refine ⟨?_, by simp [hn], ?_⟩
    · intro d hd'
      rcases List.mem_append.1 hd' with h | h
      · exact hd d h
      · simp only [List.mem_singleton] at h; subst h
        rw [UInt64.toNat_mod]; exact Nat.mod_lt _ (by decide)
    · rw [dv_app, hn, UInt64.toNat_mod, UInt64.toNat_div, show UInt64.toNat 65536 = 65536 from rfl, Nat.pow_succ, Nat.mul_assoc, Nat.add_assoc, ← Nat.mul_add, Nat.mod_add_div]
  by_cases h : i < out.length
  · left
    have hdg := dig_lt ho i
    have hmul : (c + out.getD i 0 * x).toNat = c.toNat + dig out i * x.toNat := by
      have hb : dig out i * x.toNat ≤ 65535 * 2 ^ 40 := Nat.mul_le_mul (by omega) (by omega)
      rw [UInt64.toNat_add, UInt64.toNat_mul]
      unfold dig at *
      rw [Nat.mod_eq_of_lt (a := _ * _) (by omega), Nat.mod_eq_of_lt (by omega)]
    obtain ⟨k1, k2, k3⟩ := key (c + out.getD i 0 * x)
    have hb : dig out i * x.toNat ≤ 65535 * 2 ^ 40 := Nat.mul_le_mul (by omega) (by omega)
    refine ⟨(out, nx ++ [(c + out.getD i 0 * x) % 65536], (c + out.getD i 0 * x) / 65536, ((i + 1 : Nat) : Int)), ?_, ⟨i + 1, rfl, rfl, k2, k1, by omega, ?_, ?_, ?_⟩, ?_⟩
    · unfold pbody
      simp only []
      rw [if_pos (by omega), if_pos (by omega), idx_dig h, Option.bind_some, Option.bind_some]
      unfold appL
      rw [if_pos (by simp only [List.length_singleton]; omega), Option.bind_some, wI_succ _ (by omega)]
    · simp only []; rw [UInt64.toNat_div, hmul, show UInt64.toNat 65536 = 65536 from rfl]; omega
    · intro h'; simp only []; rw [UInt64.toNat_div, hmul, show UInt64.toNat 65536 = 65536 from rfl, show i + 1 - out.length = 0 by omega]; omega
    · simp only []
      rw [k3, hmul, dv_take out i h, Nat.mul_add, ← Nat.add_assoc, hv, Nat.add_mul, Nat.mul_assoc]
    · simp only [Int.toNat_natCast]; omega
  · have h2 := hc2 (by omega)
    by_cases hz : c = 0
    · right
      refine ⟨nx, ?_, ?_, hd, by omega⟩
      · unfold pbody
        simp only []
        rw [if_neg (by omega), if_neg (by rw [hz]; decide)]
      · rw [hz, List.take_of_length_le (by omega)] at hv
        simpa using hv
    · left
      have hcp : 0 < c.toNat := Nat.pos_of_ne_zero fun e => hz (UInt64.toNat_inj.1 e)
      have hi3 : i < out.length + 3 := by
        apply Classical.byContradiction; intro hc3
        rw [show i - out.length = 3 by omega] at h2
        have : (2 : Nat) ^ (41 - 16 * 3) = 1 := by decide
        omega
      obtain ⟨k1, k2, k3⟩ := key c
      refine ⟨(out, nx ++ [c % 65536], c / 65536, ((i + 1 : Nat) : Int)), ?_, ⟨i + 1, rfl, rfl, k2, k1, by omega, ?_, ?_, ?_⟩, ?_⟩
      · unfold pbody
        simp only []
        rw [if_neg (by omega), if_pos (by rw [UInt64.lt_iff_toNat_lt]; exact hcp), if_neg (by omega), Option.bind_some]
        unfold appL
        rw [if_pos (by simp only [List.length_singleton]; omega), Option.bind_some, wI_succ _ (by omega)]
      · simp only []; rw [UInt64.toNat_div, show UInt64.toNat 65536 = 65536 from rfl]; omega
      · intro h'; simp only []; rw [UInt64.toNat_div, show UInt64.toNat 65536 = 65536 from rfl]
        rcases (show i - out.length = 0 ∨ i - out.length = 1 ∨ i - out.length = 2 by omega) with e | e | e <;> rw [e] at h2 <;> rw [show i + 1 - out.length = i - out.length + 1 by omega, e] <;> simp only [Nat.reduceMul, Nat.reduceSub, Nat.reduceAdd, Nat.reducePow] at h2 ⊢ <;> omega
      · simp only []
        rw [k3, hv, List.take_of_length_le (by omega), List.take_of_length_le (by omega)]
      · simp only [Int.toNat_natCast]; omega
theorem power_eq (x : UInt64) (hx : x.toNat < 2 ^ 40) (n : Nat) (hn : n ≤ 3) : ∃ r, ref07_power x n = some r ∧ dv r = x.toNat ^ n ∧ Dig r ∧ r.length ≤ 16 := by
  unfold ref07_power
  suffices h : ∃ r, iterC (fun s4 : Int × List UInt64 => (if 0 < s4.1 then ((iterC (pbody s4.2 x) (s4.2, ([] : List UInt64), (0 : UInt64), 0)).bind fun x11 => some (.inl ((wI (s4.1 - 1)), x11))) else some (.inr s4.2))) ((n : Int), ([(1 : UInt64)] : List UInt64)) = some r ∧ dv r = x.toNat ^ n ∧ Dig r ∧ r.length ≤ 16 by
    obtain ⟨r, h1, h2⟩ := h
    exact ⟨r, bind_of h1 rfl, h2⟩
  refine iterC_inv (fun s => ∃ j : Nat, s.1 = (j : Int) ∧ j ≤ n ∧ dv s.2 * x.toNat ^ j = x.toNat ^ n ∧ Dig s.2 ∧ s.2.length + 3 * j ≤ 10) (fun s => s.1.toNat) _ ?_ _ ⟨n, rfl, Nat.le_refl _, by simp [dv], by intro d hd; simp at hd; subst hd; decide, by simp; omega⟩
  rintro ⟨_, l⟩ ⟨j, rfl, hj, hv, hd, hl⟩
  simp only at hv hd hl ⊢
  cases j with
  | zero => right; exact ⟨l, by rw [if_neg (by decide)], by simpa using hv, hd, by omega⟩
  | succ j =>
    left
    obtain ⟨r, h1, h2, h3, h4⟩ := times_loop l x hx hd (by omega)
    refine ⟨((j : Int), r), ?_, ⟨j, rfl, by omega, ?_, h3, by simp only; omega⟩, by simp only [Int.toNat_natCast]; omega⟩
    · rw [if_pos (by omega), h1, Option.bind_some, wI_of (by omega) (by omega)]
      rw [show ((j + 1 : Nat) : Int) - 1 = (j : Int) by omega]
    · simp only []
      rw [h2, ← hv, Nat.pow_succ, Nat.mul_assoc, Nat.mul_comm x.toNat]
end Gk

/- The document's constants for sums of bytes. No condition. -/
set_option linter.unusedSimpArgs false
set_option linter.unusedVariables false
namespace Gk
open Gf
def dvN (l : List UInt64) : Nat → Nat
  | 0 => 0
  | k + 1 => dvN l k + 65536 ^ k * dig l k
theorem dvN_lt {l : List UInt64} (h : Dig l) : ∀ k, dvN l k < 65536 ^ k
  | 0 => by simp [dvN]
  | k + 1 => by
    have h1 := dvN_lt h k
    have h2 := dig_lt h k
    have h3 : 65536 ^ k * dig l k ≤ 65536 ^ k * 65535 := Nat.mul_le_mul_left _ (by omega)
    simp only [dvN, Nat.pow_succ]; omega
theorem dvN_eq (l : List UInt64) (k : Nat) : dvN l k = dv (l.take k) := by
  induction k with
  | zero => simp [dvN, dv]
  | succ k ih =>
    by_cases h : k < l.length
    · rw [dv_take l k h, ← ih]; rfl
    · have : dig l k = 0 := by unfold dig; rw [List.getD_eq_getElem?_getD, List.getElem?_eq_none (by omega)]; rfl
      rw [dvN, this, Nat.mul_zero, Nat.add_zero, ih, List.take_of_length_le (by omega), List.take_of_length_le (by omega)]
theorem dvN_16 {l : List UInt64} (h : l.length ≤ 16) : dvN l 16 = dv l := by rw [dvN_eq, List.take_of_length_le h]
theorem dv_rep (n : Nat) (p : UInt64) : dv (List.replicate n 0 ++ [p]) = 65536 ^ n * p.toNat := by
  rw [dv_app, List.length_replicate]
  have : dv (List.replicate n 0) = 0 := by
    induction n with
    | zero => rfl
    | succ n ih => rw [List.replicate_succ, dv, ih]; rfl
  rw [this, Nat.zero_add]
theorem cmp_loop (a c : List UInt64) (ha : Dig a) (hc : Dig c) {body : Int → Option (Int ⊕ (Unit ⊕ Bool))}
    (h1 : ∀ i : Nat, i < 16 → body (i : Int) = if a.getD i 0 = c.getD i 0 then some (.inl ((i : Int) - 1)) else some (.inr (.inr (decide (c.getD i 0 < a.getD i 0)))))
    (h2 : body (-1) = some (.inr (.inl ()))) : ∀ j : Nat, j ≤ 16 → ∃ o, iterC body ((j : Int) - 1) = some o ∧ Sum.elim (fun _ => some false) (fun q => some q) o = some (decide (dvN c j < dvN a j))
  | 0, _ => ⟨_, by rw [iterC_step, show ((0 : Nat) : Int) - 1 = -1 by rfl, h2]; rfl, by simp [dvN]⟩
  | j + 1, hj => by
    obtain ⟨o, ho, ho2⟩ := cmp_loop a c ha hc h1 h2 j (by omega)
    rw [iterC_step, show ((j + 1 : Nat) : Int) - 1 = (j : Int) by omega, h1 j (by omega)]
    have la := dvN_lt ha j; have lc := dvN_lt hc j
    by_cases e : a.getD j 0 = c.getD j 0
    · rw [if_pos e]
      refine ⟨o, ho, ?_⟩
      rw [ho2]
      simp only [dvN, dig, e]
      congr 1; simp
    · rw [if_neg e]
      refine ⟨_, rfl, ?_⟩
      simp only [Sum.elim_inr]
      congr 1
      rw [decide_eq_decide, UInt64.lt_iff_toNat_lt]
      have e' : (a.getD j 0).toNat ≠ (c.getD j 0).toNat := fun h => e (UInt64.toNat_inj.1 h)
      simp only [dvN, dig]
      generalize (a.getD j 0).toNat = x at *
      generalize (c.getD j 0).toNat = y at *
      constructor
      · intro h
        have : 65536 ^ j * (y + 1) ≤ 65536 ^ j * x := Nat.mul_le_mul_left _ (by omega)
        rw [Nat.mul_add] at this; omega
      · intro h
        apply Classical.byContradiction; intro h'
        have : 65536 ^ j * (x + 1) ≤ 65536 ^ j * y := Nat.mul_le_mul_left _ (by omega)
        rw [Nat.mul_add] at this; omega
theorem above_eq (x p : UInt64) (n : Nat) (hx : x.toNat < 2 ^ 40) (hp : p.toNat < 65536) (hn : n ≤ 3) : ref07_above x p n = some (decide (p.toNat * 2 ^ (32 * n) < x.toNat ^ n)) := by
  obtain ⟨r, h1, h2, h3, h4⟩ := power_eq x hx n hn
  have hmost : (200 : Nat) ≤ most := by decide
  unfold ref07_above
  rw [h1, Option.bind_some, wI_of (by omega) (by omega), show 2 * (n : Int) = ((2 * n : Nat) : Int) by omega, makeL_nat _ _ (by omega), Option.bind_some]
  unfold appL
  rw [if_pos (by simp only [List.length_replicate, List.length_singleton]; omega), Option.bind_some]
  have hc : Dig (List.replicate (2 * n) 0 ++ [p]) := by
    intro d hd
    rcases List.mem_append.1 hd with h | h
    · rw [List.eq_of_mem_replicate h]; decide
    · simp only [List.mem_singleton] at h; subst h; exact hp
  have hcl : (List.replicate (2 * n) (0 : UInt64) ++ [p]).length = 2 * n + 1 := by simp
  have hv := dv_rep (2 * n) p
  generalize List.replicate (2 * n) (0 : UInt64) ++ [p] = c at *
  have gd : ∀ (l : List UInt64) (i : Nat), ¬ i < l.length → l.getD i 0 = 0 := fun l i h => by rw [List.getD_eq_getElem?_getD, List.getElem?_eq_none (by omega)]; rfl
  obtain ⟨o, ho, ho2⟩ := cmp_loop r c h3 hc (body := fun s11 : Int =>
    (if 0 ≤ s11 then
    (((if s11 < (r.length : Int) then
    ((idx r s11).bind fun c16 =>
    some c16)
    else
    some (0 : UInt64))).bind fun x14 =>
    (if s11 < (c.length : Int) then
    ((idx c s11).bind fun c19 =>
    (if x14 = c19 then
    some (.inl (wI (s11 - 1)))
    else
    some (.inr (.inr (decide (c19 < x14))))))
    else
    (if x14 = (0 : UInt64) then
    some (.inl (wI (s11 - 1)))
    else
    some (.inr (.inr (decide ((0 : UInt64) < x14)))))))
    else
    some (.inr (.inl ())))) (fun i hi => by
      rw [if_pos (by omega), wI_of (by omega) (by omega)]
      have e1 : (if (i : Int) < (r.length : Int) then (idx r (i : Int)).bind fun c16 => some c16 else some (0 : UInt64)) = some (r.getD i 0) := by
        by_cases h : i < r.length
        · rw [if_pos (by omega), idx_dig h]; rfl
        · rw [if_neg (by omega), gd r i h]
      rw [e1, Option.bind_some]
      by_cases h : i < c.length
      · rw [if_pos (by omega), idx_dig h]; rfl
      · rw [if_neg (by omega), gd c i h]) (by rfl) 16 (Nat.le_refl _)
  refine (bind_of (x := o) ho ?_)
  refine Eq.trans ?_ (ho2.trans ?_)
  · rfl
  · rw [dvN_16 h4, dvN_16 (by omega), h2, hv]
    congr 2
    rw [show (65536 : Nat) = 2 ^ 16 by rfl, ← Nat.pow_mul, Nat.mul_comm, show 16 * (2 * n) = 32 * n by omega]
def frN (p n : Nat) : Nat → Nat → Nat
  | 0, x => x
  | b + 1, x => frN p n b (bif Nat.blt (p * 2 ^ (32 * n)) ((x + 2 ^ b) ^ n) then x else x + 2 ^ b)
theorem Fraction_eq (p : UInt64) (n : Nat) (hp : p.toNat < 65536) (hn : n ≤ 3) : ref07_Fraction p n = some (UInt32.ofNat (frN p.toNat n 36 0)) := by
  unfold ref07_Fraction
  suffices h : ∀ (b : Nat) (x : UInt64), x.toNat + 2 ^ b ≤ 2 ^ 36 → b ≤ 36 → ∃ y, iterC (fun s1 : UInt64 × Int =>
      (if 0 ≤ s1.2 then
      ((cnt s1.2).bind fun c4 =>
      ((ref07_above (s1.1 + (shl64 ((1 : UInt64)) c4)) p n).bind fun r5 =>
      (if (!r5) = true then
      ((cnt s1.2).bind fun c8 =>
      some (.inl ((s1.1 + (shl64 ((1 : UInt64)) c8)), (wI (s1.2 - 1)))))
      else
      some (.inl (s1.1, (wI (s1.2 - 1)))))))
      else
      some (.inr s1.1))) (x, (b : Int) - 1) = some y ∧ y.toNat = frN p.toNat n b x.toNat by
    obtain ⟨y, h1, h2⟩ := h 36 0 (by decide) (by decide)
    refine bind_of h1 ?_
    congr 1
    apply UInt32.toNat_inj.1
    rw [UInt64.toNat_toUInt32, h2]; simp
  intro b
  induction b with
  | zero => intro x _ _; exact ⟨x, by rw [iterC_step]; rfl, rfl⟩
  | succ b ih =>
    intro x hx hb
    have hpw : (2 : Nat) ^ (b + 1) = 2 ^ b + 2 ^ b := by rw [Nat.pow_succ]; omega
    have hpos := Nat.two_pow_pos b
    have hxb : (x + shl64 1 b).toNat = x.toNat + 2 ^ b := by
      have e : (shl64 1 b).toNat = 2 ^ b := by
        simp only [shl64, UInt64.toNat_ofNat', UInt64.toNat_one, Nat.one_mul]
        rw [Nat.min_eq_left (by omega), Nat.mod_eq_of_lt (by omega)]
      rw [UInt64.toNat_add, e, Nat.mod_eq_of_lt (by omega)]
    rw [iterC_step]
    have e1 : (((b + 1 : Nat) : Int) - 1) = (b : Int) := by omega
    simp only [e1]
    rw [if_pos (by omega), cnt_nat, Option.bind_some, above_eq _ _ _ (by omega) hp hn, hxb, Option.bind_some, wI_of (by omega) (by omega)]
    simp only [frN]
    by_cases h : p.toNat * 2 ^ (32 * n) < (x.toNat + 2 ^ b) ^ n
    · rw [if_neg (by simp [h])]
      obtain ⟨y, h1, h2⟩ := ih x (by omega) (by omega)
      exact ⟨y, h1, by rw [h2, show Nat.blt (p.toNat * 2 ^ (32 * n)) ((x.toNat + 2 ^ b) ^ n) = true by rw [Nat.blt_eq]; exact h]; rfl⟩
    · rw [if_pos (by simp [h]), Option.bind_some]
      obtain ⟨y, h1, h2⟩ := ih (x + shl64 1 b) (by omega) (by omega)
      exact ⟨y, h1, by rw [h2, hxb, show Nat.blt (p.toNat * 2 ^ (32 * n)) ((x.toNat + 2 ^ b) ^ n) = false by rw [Bool.eq_false_iff, ne_eq, Nat.blt_eq]; exact h]; rfl⟩
theorem iterC_sim {S X : Type} {body body' : S → Option (S ⊕ X)} (I : S → Prop) (he : ∀ s r, I s → body' s = some r → body s = some r) (hs : ∀ s s', I s → body' s = some (.inl s') → I s') : ∀ (k : Nat) (s : S) (x : X), I s → iterN body' k s = some x → iterC body s = some x
  | 0, s, x, _, h => by cases h
  | k + 1, s, x, hi, h => by
    unfold iterN at h
    cases hb : body' s with
    | none => rw [hb] at h; cases h
    | some r =>
      rw [iterC_step, he s r hi hb]
      rw [hb] at h
      cases r with
      | inl s' => exact iterC_sim I he hs k s' x (hs s s' hi hb) h
      | inr y => exact h
def prL : List UInt64 := [2, 3, 5, 7, 11, 13, 17, 19, 23, 29, 31, 37, 41, 43, 47, 53, 59, 61, 67, 71, 73, 79, 83, 89, 97, 101, 103, 107, 109, 113, 127, 131, 137, 139, 149, 151, 157, 163, 167, 173, 179, 181, 191, 193, 197, 199, 211, 223, 227, 229, 233, 239, 241, 251, 257, 263, 269, 271, 277, 281, 283, 293, 307, 311]
def pstep (s : List UInt64 × UInt64) : Option ((List UInt64 × UInt64) ⊕ List UInt64) :=
  if 1000 < s.2.toNat then none else if s.1.length < 64 then (if s.1.all (fun q => !decide (s.2 % q = 0)) then some (.inl (s.1 ++ [s.2], s.2 + 1)) else some (.inl (s.1, s.2 + 1))) else some (.inr s.1)
theorem Primes_eq : ref07_Primes 64 = some prL := by
  unfold ref07_Primes
  have hmost : (100 : Nat) ≤ most := by decide
  refine bind_of (x := prL) (iterC_sim (body' := pstep) (fun s => (∀ q ∈ s.1, q ≠ 0) ∧ s.2 ≠ 0) ?_ ?_ 400 _ _ ⟨(by intro q hq; cases hq), by decide⟩ ?_) rfl
  · rintro ⟨l, p⟩ r ⟨hI, hp0⟩ hr
    unfold pstep at hr
    simp only at hI hr ⊢
    split at hr
    · cases hr
    rw [← hr]
    by_cases h : l.length < 64
    · rw [if_pos (by omega), if_pos h]
      have hin : iterC (fun s7 : Bool × Int =>
          (if s7.2 < (l.length : Int) then
          ((idx l s7.2).bind fun c10 =>
          (if s7.1 = true then
          ((nz c10).bind fun c12 =>
          some (.inl ((!decide ((p % c10) = (0 : UInt64))), (wI (s7.2 + 1)))))
          else
          some (.inl (false, (wI (s7.2 + 1))))))
          else
          some (.inr s7.1))) (true, 0) = some (l.all (fun q => !decide (p % q = 0))) := by
        refine iterC_count (fun i => ((l.take i).all (fun q => !decide (p % q = 0)), (i : Int))) l.length _ (by simp) ?_ ?_
        · intro i hi
          simp only []
          rw [if_pos (by omega), idx_dig hi, Option.bind_some, wI_succ _ (by omega)]
          have hm : l.getD i 0 ∈ l := by rw [List.getD_eq_getElem?_getD, List.getElem?_eq_getElem hi]; exact List.getElem_mem hi
          have ht : l.take (i + 1) = l.take i ++ [l.getD i 0] := by
            rw [List.take_add_one, List.getElem?_eq_getElem hi, List.getD_eq_getElem?_getD, List.getElem?_eq_getElem hi]; rfl
          rw [ht, List.all_append]
          have hz : nz (l.getD i 0) = some () := by unfold nz; rw [if_neg (hI _ hm)]
          cases he : (l.take i).all (fun q => !decide (p % q = 0))
          · rw [if_neg (by decide)]; simp
          · rw [if_pos rfl, hz, Option.bind_some]; simp
        · simp only []; rw [if_neg (by omega), List.take_length]
      rw [bind_of hin rfl]
      by_cases hb : l.all (fun q => !decide (p % q = 0)) = true
      · rw [if_pos hb, if_pos hb]; unfold appL; rw [if_pos (by simp; omega)]; rfl
      · rw [if_neg hb, if_neg hb]
    · rw [if_neg (by omega), if_neg h]
  · rintro ⟨l, p⟩ ⟨l', p'⟩ ⟨hI, hp0⟩ hp
    unfold pstep at hp
    simp only at hI hp0 hp ⊢
    split at hp
    · cases hp
    rename_i hlt
    have hp1 : p + 1 ≠ 0 := by
      intro e
      have := congrArg UInt64.toNat e
      rw [UInt64.toNat_add] at this
      simp at this; omega
    split at hp
    · split at hp
      · cases hp
        refine ⟨fun q hq => ?_, hp1⟩
        rcases List.mem_append.1 hq with h | h
        · exact hI q h
        · simp only [List.mem_singleton] at h; subst h; exact hp0
      · cases hp; exact ⟨hI, hp1⟩
    · cases hp
  · decide +kernel
theorem pr_3 : ∀ i : Fin 64, UInt32.ofNat (frN (prL.getD i 0).toNat 3 36 0) = w0 kL i := by decide +kernel
theorem pr_2 : ∀ i : Fin 8, UInt32.ofNat (frN (prL.getD i 0).toNat 2 36 0) = w0 hL i := by decide +kernel
theorem pr_lt : ∀ i : Fin 64, (prL.getD i 0).toNat < 65536 := by decide +kernel
end Gk

/- The document's answer for sums of bytes is the program's. No condition but lengths. -/
set_option linter.unusedSimpArgs false
set_option linter.unusedVariables false
namespace Gk
open Gf
def told (l : List UInt32) (n i : Nat) : List UInt32 := l.take i ++ List.replicate (n - i) 0
theorem told_len (l : List UInt32) (n i : Nat) (h : l.length = n) : (told l n i).length = n := by simp [told]; omega
theorem told_set (l : List UInt32) (n i : Nat) (h : l.length = n) (hi : i < n) : (told l n i).set i (w0 l i) = told l n (i + 1) := by
  unfold told
  obtain ⟨m, hm⟩ : ∃ m, n - i = m + 1 := ⟨n - i - 1, by omega⟩
  have hl : (l.take i).length = i := by simp; omega
  rw [List.set_append_right _ _ (by omega), hl, Nat.sub_self, hm, List.replicate_succ, List.set_cons_zero, show n - (i + 1) = m by omega, w0_take (by omega)]
  simp
theorem told_end (l : List UInt32) (n i : Nat) (h : l.length = n) (hi : n ≤ i) : told l n i = l := by
  unfold told; rw [List.take_of_length_le (by omega), show n - i = 0 by omega]; simp
theorem sched_pre (p : List UInt8) (i : Nat) : ∀ k, w0 (sched p (i + 1 + k)) i = w0 (sched p (i + 1)) i
  | 0 => rfl
  | k + 1 => by
    rw [← sched_pre p i k, show i + 1 + (k + 1) = (i + 1 + k) + 1 by omega, sched]
    simp only [w0, List.getD_eq_getElem?_getD]
    rw [List.getElem?_append_left (by rw [sched_len]; omega)]
theorem co_pc (m : List UInt8) (j i : Nat) (h : i < 64) : co (pc m j) i = co m (64 * j + i) := by
  rw [pc, co_take, if_pos h, co_drop]
theorem lenA_eight (a b c d e f g h : UInt32) : lenA 8 [a, b, c, d, e, f, g, h] = some () := rfl
theorem one_block (m : List UInt8) (s : List UInt32) (j : Nat) (hs : s.length = 8) (hm : 64 * j + 64 ≤ m.length) (hb : m.length ≤ 2000000) : iterC (fun s101 : List UInt32 × List UInt32 × Int =>
(if s101.2.2 < 64 then
(((if s101.2.2 < 16 then
((idx m ((wI (((64 * j : Nat) : Int) + (wI (4 * s101.2.2)))))).bind fun c108 =>
((idx m ((wI ((wI (((64 * j : Nat) : Int) + (wI (4 * s101.2.2)))) + 1)))).bind fun c109 =>
((idx m ((wI ((wI (((64 * j : Nat) : Int) + (wI (4 * s101.2.2)))) + 2)))).bind fun c110 =>
((idx m ((wI ((wI (((64 * j : Nat) : Int) + (wI (4 * s101.2.2)))) + 3)))).bind fun c111 =>
((lenA 64 s101.1).bind fun c112 =>
((idx s101.1 s101.2.2).bind fun c113 => some (s101.1.set (s101.2.2 : Int).toNat (((((shl32 ((c108.toUInt32)) 24) ||| (shl32 ((c109.toUInt32)) 16)) ||| (shl32 ((c110.toUInt32)) 8)) ||| (c111.toUInt32))))))))))
else
((lenA 64 s101.1).bind fun c118 =>
((idx s101.1 ((wI (s101.2.2 - 2)))).bind fun c119 =>
((idx s101.1 ((wI (s101.2.2 - 7)))).bind fun c120 =>
((idx s101.1 ((wI (s101.2.2 - 15)))).bind fun c121 =>
((idx s101.1 ((wI (s101.2.2 - 16)))).bind fun c122 =>
((ref07_turn c119 17).bind fun r123 =>
((ref07_turn c119 19).bind fun r125 =>
((ref07_turn c121 7).bind fun r127 =>
((ref07_turn c121 18).bind fun r129 =>
((idx s101.1 s101.2.2).bind fun c131 => some (s101.1.set (s101.2.2 : Int).toNat ((((((r123 ^^^ r125) ^^^ (shr32 c119 10)) + c120) + ((r127 ^^^ r129) ^^^ (shr32 c121 3))) + c122))))))))))))))).bind fun x104 =>
((lenA 8 s101.2.1).bind fun c137 =>
((idx s101.2.1 7).bind fun c138 =>
((idx s101.2.1 4).bind fun c139 =>
((idx s101.2.1 5).bind fun c140 =>
((idx s101.2.1 6).bind fun c141 =>
((lenA 64 kL).bind fun c142 =>
((idx kL s101.2.2).bind fun c143 =>
((lenA 64 x104).bind fun c144 =>
((idx x104 s101.2.2).bind fun c145 =>
((ref07_turn c139 6).bind fun r146 =>
((ref07_turn c139 11).bind fun r148 =>
((ref07_turn c139 25).bind fun r150 =>
((lenA 8 s101.2.1).bind fun c154 =>
((idx s101.2.1 0).bind fun c155 =>
((idx s101.2.1 1).bind fun c156 =>
((idx s101.2.1 2).bind fun c157 =>
((ref07_turn c155 2).bind fun r158 =>
((ref07_turn c155 13).bind fun r160 =>
((ref07_turn c155 22).bind fun r162 =>
((lenA 8 s101.2.1).bind fun c164 =>
((idx s101.2.1 0).bind fun c165 =>
((idx s101.2.1 1).bind fun c166 =>
((idx s101.2.1 2).bind fun c167 =>
((idx s101.2.1 3).bind fun c168 =>
((idx s101.2.1 4).bind fun c169 =>
((idx s101.2.1 5).bind fun c170 =>
((idx s101.2.1 6).bind fun c171 =>
((lenA 8 (([(((((c138 + ((r146 ^^^ r148) ^^^ r150)) + ((c139 &&& c140) ^^^ (((4294967295 : UInt32) ^^^ c139) &&& c141))) + c143) + c145) + (((r158 ^^^ r160) ^^^ r162) + (((c155 &&& c156) ^^^ (c155 &&& c157)) ^^^ (c156 &&& c157)))), c165, c166, c167, (c168 + ((((c138 + ((r146 ^^^ r148) ^^^ r150)) + ((c139 &&& c140) ^^^ (((4294967295 : UInt32) ^^^ c139) &&& c141))) + c143) + c145)), c169, c170, c171] : List UInt32))).bind fun c173 => some (.inl (x104, ([(((((c138 + ((r146 ^^^ r148) ^^^ r150)) + ((c139 &&& c140) ^^^ (((4294967295 : UInt32) ^^^ c139) &&& c141))) + c143) + c145) + (((r158 ^^^ r160) ^^^ r162) + (((c155 &&& c156) ^^^ (c155 &&& c157)) ^^^ (c156 &&& c157)))), c165, c166, c167, (c168 + ((((c138 + ((r146 ^^^ r148) ^^^ r150)) + ((c139 &&& c140) ^^^ (((4294967295 : UInt32) ^^^ c139) &&& c141))) + c143) + c145)), c169, c170, c171] : List UInt32), (wI (s101.2.2 + 1)))))))))))))))))))))))))))))))))
else some (.inr s101.2.1))) ((List.replicate 64 (0 : UInt32)), s, 0) = some (rnds (sched (pc m j) 64) s 64) := by
  generalize hp : pc m j = p
  refine iterC_count (fun t => (wTo p t, rnds (sched p 64) s t, (t : Int))) 64 _ rfl ?_ ?_
  · intro t ht
    have hl := wTo_len p t (by omega)
    have hl' := wTo_len p (t + 1) (by omega)
    have hr := rnds_len (sched p 64) s hs t
    simp only []
    rw [if_pos (by omega)]
    refine bind_of (x := wTo p (t + 1)) ?_ ?_
    · rw [← wTo_set p t ht]
      by_cases h16 : t < 16
      · rw [if_pos (by omega), wI_of (x := 4 * (t : Int)) (by omega) (by omega), wI_of (x := ((64 * j : Nat) : Int) + 4 * (t : Int)) (by omega) (by omega), wI_of (by omega) (by omega), wI_of (by omega) (by omega), wI_of (by omega) (by omega),
          show ((64 * j : Nat) : Int) + 4 * (t : Int) = ((64 * j + 4 * t : Nat) : Int) by omega, show ((64 * j + 4 * t : Nat) : Int) + 1 = ((64 * j + (4 * t + 1) : Nat) : Int) by omega,
          show ((64 * j + 4 * t : Nat) : Int) + 2 = ((64 * j + (4 * t + 2) : Nat) : Int) by omega, show ((64 * j + 4 * t : Nat) : Int) + 3 = ((64 * j + (4 * t + 3) : Nat) : Int) by omega,
          idx_co (by omega), Option.bind_some, idx_co (by omega), Option.bind_some, idx_co (by omega), Option.bind_some, idx_co (by omega), Option.bind_some, lenA_of hl, Option.bind_some, idx_w0 (by omega), Option.bind_some, Int.toNat_natCast]
        unfold nxt; rw [sched_len, if_pos h16]
        unfold be be4
        rw [← hp, co_pc _ _ _ (by omega), co_pc _ _ _ (by omega), co_pc _ _ _ (by omega), co_pc _ _ _ (by omega)]
      · rw [if_neg (by omega), lenA_of hl, Option.bind_some, wI_of (by omega) (by omega), wI_of (by omega) (by omega), wI_of (by omega) (by omega), wI_of (by omega) (by omega),
          show (t : Int) - 15 = ((t - 15 : Nat) : Int) by omega, show (t : Int) - 2 = ((t - 2 : Nat) : Int) by omega, show (t : Int) - 16 = ((t - 16 : Nat) : Int) by omega, show (t : Int) - 7 = ((t - 7 : Nat) : Int) by omega,
          idx_w0 (by omega), Option.bind_some, idx_w0 (by omega), Option.bind_some, idx_w0 (by omega), Option.bind_some, idx_w0 (by omega), Option.bind_some]
        rw [show (17 : Int) = ((17 : Nat) : Int) by rfl, rturn_eq _ 17 (by omega), Option.bind_some, show (19 : Int) = ((19 : Nat) : Int) by rfl, rturn_eq _ 19 (by omega), Option.bind_some,
          show (7 : Int) = ((7 : Nat) : Int) by rfl, rturn_eq _ 7 (by omega), Option.bind_some, show (18 : Int) = ((18 : Nat) : Int) by rfl, rturn_eq _ 18 (by omega), Option.bind_some,
          idx_w0 (by omega), Option.bind_some, Int.toNat_natCast, wTo_get _ _ _ (by omega), wTo_get _ _ _ (by omega), wTo_get _ _ _ (by omega), wTo_get _ _ _ (by omega)]
        unfold nxt; rw [sched_len, if_neg h16]
        congr 2
        ac_rfl
    · have e0 := idx_at (l := rnds (sched p 64) s t) 0 (by omega) 0 rfl
      have e1 := idx_at (l := rnds (sched p 64) s t) 1 (by omega) 1 rfl
      have e2 := idx_at (l := rnds (sched p 64) s t) 2 (by omega) 2 rfl
      have e3 := idx_at (l := rnds (sched p 64) s t) 3 (by omega) 3 rfl
      have e4 := idx_at (l := rnds (sched p 64) s t) 4 (by omega) 4 rfl
      have e5 := idx_at (l := rnds (sched p 64) s t) 5 (by omega) 5 rfl
      have e6 := idx_at (l := rnds (sched p 64) s t) 6 (by omega) 6 rfl
      have e7 := idx_at (l := rnds (sched p 64) s t) 7 (by omega) 7 rfl
      have ew : w0 (wTo p (t + 1)) t = w0 (sched p 64) t := by
        rw [wTo_get _ _ _ (by omega), ← sched_pre p t (63 - t), show t + 1 + (63 - t) = 64 by omega]
      simp only [lenA_of hr, e0, e1, e2, e3, e4, e5, e6, e7, Option.bind_some, lenA_of hl', lenA_of (show kL.length = 64 from rfl), idx_w0 (show t < (wTo p (t + 1)).length by omega), idx_w0 (show t < kL.length from ht), ew,
        show ∀ x, ref07_turn x 6 = some (rot x 6) from fun x => rturn_eq x 6 (by decide), show ∀ x, ref07_turn x 11 = some (rot x 11) from fun x => rturn_eq x 11 (by decide), show ∀ x, ref07_turn x 25 = some (rot x 25) from fun x => rturn_eq x 25 (by decide),
        show ∀ x, ref07_turn x 2 = some (rot x 2) from fun x => rturn_eq x 2 (by decide), show ∀ x, ref07_turn x 13 = some (rot x 13) from fun x => rturn_eq x 13 (by decide), show ∀ x, ref07_turn x 22 = some (rot x 22) from fun x => rturn_eq x 22 (by decide),
        wI_succ t (by omega), lenA_eight]
      rfl
  · simp only []; rw [if_neg (by omega)]
theorem ref_Sum_eq (b : List UInt8) (h : b.length ≤ 1000000) : ref07_Sum b = some (sha b) := by
  have hm : (1000000 : Nat) + 200 ≤ most := by decide
  have hp : padN b.length < 64 := Nat.mod_lt _ (by decide)
  have hn := nbl_eq b.length
  unfold ref07_Sum
  have z64 : (List.replicate 64 (0 : UInt32)).length = 64 := List.length_replicate
  have z8 : (List.replicate 8 (0 : UInt32)).length = 8 := List.length_replicate
  rw [lenA_of z64, Option.bind_some, lenA_of z8, Option.bind_some, Primes_eq, Option.bind_some]
  refine bind_of (x := (kL, hL)) (iterC_count (fun i => (told kL 64 i, told hL 8 i, (i : Int))) 64 _ rfl ?_ ?_) ?_
  · intro i hi
    have hk := told_len kL 64 i rfl
    have hh := told_len hL 8 i rfl
    simp only []
    have ep : (prL.length : Int) = 64 := rfl
    have hlt := pr_lt ⟨i, hi⟩
    have h3 := pr_3 ⟨i, hi⟩
    simp only at hlt h3
    rw [ep, if_pos (by omega), idx_dig (show i < prL.length from hi), Option.bind_some, show (3 : Int) = ((3 : Nat) : Int) by rfl, Fraction_eq _ 3 hlt (by omega), Option.bind_some, lenA_of hk, Option.bind_some, idx_w0 (by omega), Option.bind_some,
      Int.toNat_natCast, h3, told_set kL 64 i rfl hi, wI_succ _ (by omega)]
    by_cases h8 : i < 8
    · have h2 := pr_2 ⟨i, h8⟩
      simp only at h2
      rw [if_pos (by omega), show (2 : Int) = ((2 : Nat) : Int) by rfl, Fraction_eq _ 2 hlt (by omega), Option.bind_some, lenA_of hh, Option.bind_some, idx_w0 (by omega), Option.bind_some, h2, told_set hL 8 i rfl h8]
    · rw [if_neg (by omega), told_end hL 8 i rfl (by omega), told_end hL 8 (i + 1) rfl (by omega)]
  · rfl
  rw [appL_nil b (by omega), Option.bind_some, appL_one b 128 (by omega), Option.bind_some]
  have pl : ∀ i : Nat, ((b ++ [128]) ++ List.replicate i (0 : UInt8)).length = b.length + 1 + i := fun i => by simp only [List.length_append, List.length_singleton, List.length_replicate]
  refine bind_of (x := padL b) (iterC_count (fun i => (b ++ [128]) ++ List.replicate i 0) (padN b.length) _ (by simp) ?_ ?_) ?_
  · intro i hi
    rw [pl i, show (64 : Int) = ((64 : Nat) : Int) by rfl, remI_nat _ _ (by omega), Option.bind_some, if_neg (by unfold padN at hi; omega),
      appL_one _ _ (by simp only [List.length_append, List.length_singleton, List.length_replicate]; omega), Option.bind_some, List.replicate_succ']
    simp
  · rw [pl (padN b.length), show (64 : Int) = ((64 : Nat) : Int) by rfl, remI_nat _ _ (by omega), Option.bind_some, if_pos (by unfold padN; omega)]
    rfl
  refine bind_of (x := padded b) ?_ ?_
  · rw [show (56 : Int) = 8 * ((8 : Nat) : Int) - 8 by rfl]
    rw [put_loop (X := UInt8) (fun j => (shr64 (UInt64.ofInt (b.length : Int) * 8) (8 * j)).toUInt8) 8 (padL b) (by rw [padL_len]; omega)]
    · rfl
    · intro l j hj hl
      rw [if_pos (by simp only []; omega)]
      simp only []
      rw [show 8 * (j : Int) = ((8 * j : Nat) : Int) by omega, cnt_nat, Option.bind_some, appL_one l _ hl, Option.bind_some, wI_of (by omega) (by omega)]
    · intro l; rw [if_neg (by simp only []; omega)]
  have hpl := padded_len b
  refine bind_of (x := shaS (padded b) (nbl b.length)) (iterC_count (fun j => (shaS (padded b) j, ((64 * j : Nat) : Int))) (nbl b.length) _ rfl ?_ ?_) ?_
  · intro j hj
    have hs := shaS_len (padded b) j
    simp only []
    rw [if_pos (by omega), Option.bind_some, lenA_of hs, Option.bind_some, Option.bind_some, one_block (padded b) _ j hs (by omega) (by omega), Option.bind_some,
      add_loop _ _ hs (rnds_len _ _ hs _), Option.bind_some, wI_of (by omega) (by omega), show ((64 * j : Nat) : Int) + 64 = ((64 * (j + 1) : Nat) : Int) by omega]
    rfl
  · simp only []; rw [if_neg (by omega)]
  have hlen := shaS_len (padded b) (nbl b.length)
  rw [lenA_of hlen, Option.bind_some, out_loop _ hlen]
  · rfl
  · intro l i hi hl
    simp only []
    rw [if_pos (by omega), Option.bind_some, idx_w0 (by omega), Option.bind_some]
    unfold appL
    rw [if_pos (by simp only [List.length_cons, List.length_nil]; omega), Option.bind_some, wI_succ _ (by omega)]
    rfl
  · intro l; rfl
end Gk

/- Printed by gen.py: for each Go function a pure function, and that the Go code comes to it. No condition beside the equation that says what the pure function gives. -/
set_option linter.unusedVariables false
set_option linter.unusedSimpArgs false
namespace Gk
open Go Go.Proofs
end Gk

/- Printed by gen.py: for each Go function a pure function, and that the Go code comes to it. No condition beside the equation that says what the pure function gives. -/
set_option linter.unusedVariables false
set_option linter.unusedSimpArgs false
namespace Gk
open Go Go.Proofs
noncomputable def law08_Made (a0b : List UInt8) (a1n : Int) : Option (List UInt8) :=
((makeL a1n (0 : UInt8)).bind fun c1 => some (copyL c1 0 a0b))
set_option maxRecDepth 100000 in
set_option maxHeartbeats 8000000 in
theorem law08_Made_calls (a0b : List UInt8) (a1n : Int) (p0 : Value) (r : List UInt8) (w0 : World) (hp0 : By w0 [] p0 a0b) (H : law08_Made a0b a1n = some r) :
    Calls Try.prog 30 [p0, (i64 a1n)].toArray w0 (fun e w' => ∃ u0 : Value, e = .returned u0 ∧ Ext w0 w' ∧ Nw w0 u0 ∧ OwK (Sc u8) w' [] 5 u0 r) := by
  have hE : Ext w0 w0 := Ext.refl w0; unfold law08_Made at H; refine calls_W (n := 12) Try.func30 rfl rfl rfl ?_; refine W_seq ?_; refine W_reg (by kernel_rfl) ?_; refine wla rfl rfl (q_assign (v := (.slice none 0 0)) rfl rfl) ?_; refine wl_nil ?_; refine W_th ?_; refine W_seq ?_; refine W_reg (by kernel_rfl) ?_; refine wla rfl rfl (q_move (v := (i64 a1n)) rfl rfl) ?_; obtain ⟨c1, hc1, H⟩ := bsi H; refine wls rfl rfl (stp_make (L := []) (R := (Sc u8)) rfl T22 rfl rfl hc1 (fun _ _ => rfl) ?_); intro v1 w1 o1 n1 g1 l1; have x1 := grown_ext g1; have n3 := Nw.ext hE n1; have e2 := hE.trans x1; refine wla rfl rfl (q_assign (v := v1) rfl rfl) ?_; refine wl_nil ?_; refine W_th ?_; refine W_seq ?_; refine W_reg (by kernel_rfl) ?_; refine wla rfl rfl (q_move (v := v1) rfl rfl) ?_; refine wla rfl rfl (q_move (v := p0) rfl rfl) ?_; refine wls rfl rfl (stp_copy (R := (Sc u8)) (off := 0) (dv := v1) (u := p0) (Sc.stab _) [] [] rfl T22 rfl rfl o1 (copy_whole o1) (by decide) (Int.natCast_nonneg _) (hp0.lift (Lift.ext e2 _)) (fun _ _ h => h) oc_u8 ?_); intro w4 o4 g4 l4; have e5 := e2.grown g4 n3; refine wl_nil ?_; refine W_th ?_; refine W_seq ?_; refine W_reg (by kernel_rfl) ?_; refine wla rfl rfl (q_move (v := v1) rfl rfl) ?_; refine wla rfl rfl (q_assign (v := v1) rfl rfl) ?_; refine wl_nil ?_; refine W_th ?_; refine W_ret ?_; obtain rfl := osi H; refine rt1 v1 rfl rfl rfl rfl ?_; exact ⟨v1, rfl, e5, n3, (o4.weak (Sc.stab _) (fun _ _ => trivial))⟩
end Gk

/- All or nothing (chapter 11), in plain Lean. No condition but lengths. -/
set_option linter.unusedSimpArgs false
set_option linter.unusedVariables false
namespace Gk
open Gf
def mixF (key nonce b : List UInt8) : List UInt8 := xr (strL ((keysF key).headD []) (keysF key).tail nonce 0 b.length) b
theorem mixF_len (key nonce b : List UInt8) : (mixF key nonce b).length = b.length := by rw [mixF, xr_len, strL_len]; omega
theorem co_mixF (key nonce b : List UInt8) (i : Nat) (h : i < b.length) : co (mixF key nonce b) i = strm ((keysF key).headD []) (keysF key).tail nonce i ^^^ co b i := by
  rw [mixF, co_xr _ _ _ (by rw [strL_len]; exact h) h, co_strL _ _ _ _ _ _ h, Nat.zero_add]
theorem mixF_mixF (key nonce b : List UInt8) : mixF key nonce (mixF key nonce b) = b := by
  refine ext_co (by rw [mixF_len, mixF_len]) fun i hi => ?_
  rw [mixF_len, mixF_len] at hi
  rw [co_mixF _ _ _ _ (by rw [mixF_len]; exact hi), co_mixF _ _ _ _ hi, xor_cancel]
theorem New_mix (key : List UInt8) (n : Nat) (hn : n = 4 ∨ n = 8) (h : key.length = 4 * n) : ∃ c, cipher_New true key = some (some c, 0) ∧ Good c ((keysF key).headD []) (keysF key).tail ∧ keysF key = (keysF key).headD [] :: (keysF key).tail := by
  obtain ⟨c, k0, ks, hN, G, hK⟩ := New_good key n hn h
  refine ⟨c, hN, ?_, ?_⟩
  · rw [hK]; exact G
  · rw [hK]; rfl
theorem Concat2 (a b : List UInt8) (h : a.length + b.length ≤ 1000000) : slices_Concat_sbytebyte [a, b] = some (a ++ b) := by
  have hm : (1000000 : Nat) ≤ most := by decide
  rw [Concat_eq _ (by simp; omega) (by simp; omega)]; simp
theorem Made_eq (b : List UInt8) (n : Nat) (h : n ≤ 1000) : law08_Made b (n : Int) = some (padK n b) := by
  have hm : (1000 : Nat) ≤ most := by decide
  unfold law08_Made
  rw [makeL_nat _ _ (by omega), Option.bind_some]; rfl
theorem aontblk (key : List UInt8) (n : Nat) (hn : n = 4 ∨ n = 8) (h : key.length = 4 * n) (nonce : List UInt8) (hno : nonce.length = 8) (c : Nat) : ref05_Encrypt key (nonce ++ b8 (UInt64.ofNat c)) = some (blk5 ((keysF key).headD []) (keysF key).tail nonce c) := by
  obtain ⟨_, _, _, hK⟩ := New_mix key n hn h
  exact rEncrypt_eq _ _ _ _ n hn h (by rw [List.length_append, b8_len, hno]) hK
theorem ofInt64q (n : Nat) (h : n < 18446744073709551616) : UInt64.ofInt (n : Int) = UInt64.ofNat n := by
  apply UInt64.toNat_inj.1
  simp [UInt64.ofInt]; omega
end Gk

/- Bytes of whatever content: what does not hang on it. No condition. -/
set_option linter.unusedVariables false
set_option linter.unusedSimpArgs false
namespace Gk
open Go Go.RowKit
theorem digits_u8 : ∀ (n t : Nat) (acc : List UInt8), ∃ l : List UInt8, (Extern.BytealgMakeNoZero.digits n t (acc.map u8).toArray) = (l.map u8).toArray ∧ l.length = acc.length + n
  | 0, t, acc => ⟨acc, rfl, rfl⟩
  | n + 1, t, acc => by
    obtain ⟨l, h1, h2⟩ := digits_u8 n (t / 256) (acc ++ [UInt8.ofNat (t % 256)])
    refine ⟨l, ?_, by rw [h2]; simp; omega⟩
    rw [← h1, Extern.BytealgMakeNoZero.digits]
    congr 1
    simp [u8]
variable {P : Program} {o : Oper} {f : Nat → Value} {w : World} {L : List Value}
theorem stp_extern {g : FuncId} {fn : Func} {e : Array Value → Sem Value} {xs : Array Operand} {ats : Array TypeId} {vs : List Value} {v : Value} {w' : World} (hf : P.funcs[g]? = some fn) (hn : (fn.name == "runtime.NumGoroutine") = false) (hb : fn.body.isNone = true)
    (hx0 : Extern.findNext fn = none) (he : Extern.find fn = some e) (ho : o.op = .call ⟨.value (.func g), xs, ats⟩) (hx : xs.toList.map (ev f) = vs) (hr : (e vs.toArray).run P w = .ok v w') {K : Value → World → Prop} (hk : K v w') : Stp P o f w K := by
  have hxs : xs.map (ev f) = vs.toArray := by subst hx; apply Array.ext'; simp
  refine stp_of_run (w' := w') (v := v) ?_ hk
  have h1 := run_callFunc_extern (P := P) hf hn hb hx0 he vs.toArray w
  unfold execOp
  rw [ho]
  dsimp only
  simp only [resolve, ev, Deferred.ofValue, hxs, Sem.run_bind, Sem.run_pure, Result.andThen_ok, invoke]
  rw [hr] at h1
  simpa using h1
theorem run_noZero (w : World) (ps : Array TypeId) (t e : TypeId) (ht : P.underlying t = some (.slice e)) (n : Nat) (hn : n ≤ 281474976710656) :
    ∃ l : List UInt8, (Extern.BytealgMakeNoZero.makeNoZero ps #[t] #[.int .i64 n]).run P w = .ok (.slice (some ⟨w.heap.size, 0, none⟩) n l.length) (w.drew.drew.alloc (.cells (l.map u8).toArray e)) ∧ n ≤ l.length ∧ (n ≤ maxLen → l.length ≤ maxLen) := by
  have hdef : Extern.BytealgMakeNoZero.makeNoZero ps #[t] #[.int .i64 n] =
      (do
        let .slice elem ← underlying t | stuck "bytealg.MakeNoZero: slice type expected"
        if (n : Int) < 0 || (n : Int) > 2 ^ 48 then runtimePanic (.error "makeslice: len out of range")
        let cap ← choose (.appendCap (n : Int).toNat 0 elem)
        askRoom cap
        let bytes ← choose (.extern "internal/bytealg.MakeNoZero.bytes" 0)
        let a ← newRow elem (Extern.BytealgMakeNoZero.digits cap bytes #[])
        pure (.slice (some a) (n : Int).toNat cap)) := rfl
  obtain ⟨l, hl, hlen⟩ := digits_u8 (grownCap w n 0 e) ((Question.extern "internal/bytealg.MakeNoZero.bytes" 0).cut (w.tape (w.drawn + 1) (.extern "internal/bytealg.MakeNoZero.bytes" 0))) []
  simp only [List.map_nil, List.length_nil, Nat.zero_add] at hl hlen
  have hge := grownCap_ge w n 0 e
  refine ⟨l, ?_, by rw [hlen]; simpa using hge, fun hm => by rw [hlen]; exact grownCap_le_maxLen w n 0 e hm⟩
  rw [hdef]
  have h1 : ¬ (n : Int) < 0 := by omega
  have h2 : ¬ (281474976710656 : Int) < (n : Int) := by omega
  have hl' : Extern.BytealgMakeNoZero.digits (grownCap w n 0 e) ((Question.extern "internal/bytealg.MakeNoZero.bytes" 0).cut (w.tape (w.drawn + 1) (.extern "internal/bytealg.MakeNoZero.bytes" 0))) #[] = (l.map u8).toArray := hl
  rw [hlen, ← hl']
  simp [run_underlying ht, h1, h2, Question.forced, newRow, Lib.size_digits, grownCap]
theorem stp_noZero {g : FuncId} {fn : Func} {x : Operand} {ps ats : Array TypeId} {t e : TypeId} {z : Value} {bytes : Nat} {n : Int} (hf : P.funcs[g]? = some fn) (hn : (fn.name == "runtime.NumGoroutine") = false) (hb : fn.body.isNone = true)
    (hx0 : Extern.findNext fn = none) (he : Extern.find fn = some (Extern.BytealgMakeNoZero.makeNoZero ps #[t])) (ho : o.op = .call ⟨.value (.func g), #[x], ats⟩) (T : TyS P t e z bytes) (hx : ev f x = i64 n) (hn0 : 0 ≤ n ∧ n ≤ most)
    {K : Value → World → Prop} (hk : ∀ (j : List UInt8), (j.length : Int) = n → ∀ v w', OwK (Sc u8) w' (v :: L) e v j → Nw w v → w.grownBy w' none → Lift w w' L (v :: L) → K v w') : Stp P o f w K := by
  obtain ⟨m, rfl⟩ := Int.eq_ofNat_of_zero_le hn0.1
  have hm : m ≤ most := by omega
  have hmm : most ≤ 281474976710656 := by decide
  have hml : most ≤ maxLen := by decide
  obtain ⟨l, hr, h1, h2⟩ := run_noZero (P := P) w ps t e T.sl m (by omega)
  have hv : Nw w (.slice (some ⟨w.heap.size, 0, none⟩) m l.length) := Nw.mk _ _ _
  have h0 := World.grownBy_alloc w.drew.drew (.cells (l.map u8).toArray e) none
  have hg : w.grownBy (w.drew.drew.alloc (.cells (l.map u8).toArray e)) none := ⟨h0.os, h0.tape, h0.output, h0.size, h0.block⟩
  refine stp_extern hf hn hb hx0 he ho (vs := [i64 m]) (by simp [hx]) hr (hk (l.take m) (by simp; omega) _ _ ?_ hv hg (Lift.new L hg hv))
  refine ⟨(l.take m).map u8, Ow.mk (by simp; omega) ?_, by simp, fun i a1 a2 => by simp [Sc]⟩
  refine ⟨by simp; omega, .inr ⟨w.heap.size, l.length, (l.map u8).toArray, rfl, Nat.zero_le _, heap_alloc_new w.drew.drew _, h1, h2 (by omega), by simp, by simp [List.map_take]⟩⟩
end Gk

/- Printed by gen.py: for each Go function a pure function, and that the Go code comes to it. No condition beside the equation that says what the pure function gives. -/
set_option linter.unusedVariables false
set_option linter.unusedSimpArgs false
namespace Gk
open Go Go.Proofs
noncomputable def math_bits_Mul64 (a0x : UInt64) (a1y : UInt64) : Option (UInt64 × UInt64) := some (((((shr64 a0x 32) * (shr64 a1y 32)) + (shr64 ((((shr64 a0x 32) * (a1y &&& (4294967295 : UInt64))) + (shr64 (((a0x &&& (4294967295 : UInt64)) * (a1y &&& (4294967295 : UInt64)))) 32))) 32)) + (shr64 ((((((shr64 a0x 32) * (a1y &&& (4294967295 : UInt64))) + (shr64 (((a0x &&& (4294967295 : UInt64)) * (a1y &&& (4294967295 : UInt64)))) 32)) &&& (4294967295 : UInt64)) + ((a0x &&& (4294967295 : UInt64)) * (shr64 a1y 32)))) 32)), (a0x * a1y))
set_option maxRecDepth 100000 in
set_option maxHeartbeats 8000000 in
theorem math_bits_Mul64_calls (a0x : UInt64) (a1y : UInt64) (r : UInt64 × UInt64) (w0 : World) (H : math_bits_Mul64 a0x a1y = some r) :
    Calls Try.prog 96 [(u64 a0x), (u64 a1y)].toArray w0 (fun e w' => e = .returned (.tuple #[(u64 r.1), (u64 r.2)]) ∧ Ext w0 w') := by
  have hE : Ext w0 w0 := Ext.refl w0; unfold math_bits_Mul64 at H; refine calls_W (n := 51) Try.func96 rfl rfl rfl ?_; refine W_seq ?_; refine W_reg (by kernel_rfl) ?_; refine wla rfl rfl (q_assign (v := (u64 0)) rfl (cst64 (0 : UInt64) rfl)) ?_; refine wla rfl rfl (q_assign (v := (u64 0)) rfl (cst64 (0 : UInt64) rfl)) ?_; refine wl_nil ?_; refine W_th ?_; refine W_seq ?_; refine W_reg (by kernel_rfl) ?_; refine wla rfl rfl (q_move (v := (u64 a0x)) rfl rfl) ?_; refine wla rfl rfl (q_and64 rfl rfl (cst64 (4294967295 : UInt64) rfl)) ?_; refine wla rfl rfl (q_assign (v := (u64 ((a0x &&& (4294967295 : UInt64))))) rfl rfl) ?_; refine wl_nil ?_; refine W_th ?_; refine W_seq ?_; refine W_reg (by kernel_rfl) ?_; refine wla rfl rfl (q_move (v := (u64 a0x)) rfl rfl) ?_; refine wla rfl rfl (q_shr64 32 rfl rfl rfl rfl) ?_; refine wla rfl rfl (q_assign (v := (u64 ((shr64 a0x 32)))) rfl rfl) ?_; refine wl_nil ?_; refine W_th ?_; refine W_seq ?_; refine W_reg (by kernel_rfl) ?_; refine wla rfl rfl (q_move (v := (u64 a1y)) rfl rfl) ?_; refine wla rfl rfl (q_and64 rfl rfl (cst64 (4294967295 : UInt64) rfl)) ?_; refine wla rfl rfl (q_assign (v := (u64 ((a1y &&& (4294967295 : UInt64))))) rfl rfl) ?_; refine wl_nil ?_; refine W_th ?_; refine W_seq ?_; refine W_reg (by kernel_rfl) ?_; refine wla rfl rfl (q_move (v := (u64 a1y)) rfl rfl) ?_; refine wla rfl rfl (q_shr64 32 rfl rfl rfl rfl) ?_; refine wla rfl rfl (q_assign (v := (u64 ((shr64 a1y 32)))) rfl rfl) ?_; refine wl_nil ?_; refine W_th ?_; refine W_seq ?_; refine W_reg (by kernel_rfl) ?_; refine wla rfl rfl (q_move (v := (u64 ((a0x &&& (4294967295 : UInt64))))) rfl rfl) ?_; refine wla rfl rfl (q_move (v := (u64 ((a1y &&& (4294967295 : UInt64))))) rfl rfl) ?_; refine wla rfl rfl (q_mul64 rfl rfl rfl) ?_; refine wla rfl rfl (q_assign (v := (u64 (((a0x &&& (4294967295 : UInt64)) * (a1y &&& (4294967295 : UInt64)))))) rfl rfl) ?_; refine wl_nil ?_; refine W_th ?_; refine W_seq ?_; refine W_reg (by kernel_rfl) ?_; refine wla rfl rfl (q_move (v := (u64 ((shr64 a0x 32)))) rfl rfl) ?_; refine wla rfl rfl (q_move (v := (u64 ((a1y &&& (4294967295 : UInt64))))) rfl rfl) ?_; refine wla rfl rfl (q_mul64 rfl rfl rfl) ?_; refine wla rfl rfl (q_move (v := (u64 (((a0x &&& (4294967295 : UInt64)) * (a1y &&& (4294967295 : UInt64)))))) rfl rfl) ?_; refine wla rfl rfl (q_shr64 32 rfl rfl rfl rfl) ?_; refine wla rfl rfl (q_add64 rfl rfl rfl) ?_; refine wla rfl rfl (q_assign (v := (u64 ((((shr64 a0x 32) * (a1y &&& (4294967295 : UInt64))) + (shr64 (((a0x &&& (4294967295 : UInt64)) * (a1y &&& (4294967295 : UInt64)))) 32))))) rfl rfl) ?_; refine wl_nil ?_; refine W_th ?_; refine W_seq ?_; refine W_reg (by kernel_rfl) ?_; refine wla rfl rfl (q_move (v := (u64 ((((shr64 a0x 32) * (a1y &&& (4294967295 : UInt64))) + (shr64 (((a0x &&& (4294967295 : UInt64)) * (a1y &&& (4294967295 : UInt64)))) 32))))) rfl rfl) ?_; refine wla rfl rfl (q_and64 rfl rfl (cst64 (4294967295 : UInt64) rfl)) ?_; refine wla rfl rfl (q_assign (v := (u64 (((((shr64 a0x 32) * (a1y &&& (4294967295 : UInt64))) + (shr64 (((a0x &&& (4294967295 : UInt64)) * (a1y &&& (4294967295 : UInt64)))) 32)) &&& (4294967295 : UInt64))))) rfl rfl) ?_
  refine wl_nil ?_; refine W_th ?_; refine W_seq ?_; refine W_reg (by kernel_rfl) ?_; refine wla rfl rfl (q_move (v := (u64 ((((shr64 a0x 32) * (a1y &&& (4294967295 : UInt64))) + (shr64 (((a0x &&& (4294967295 : UInt64)) * (a1y &&& (4294967295 : UInt64)))) 32))))) rfl rfl) ?_; refine wla rfl rfl (q_shr64 32 rfl rfl rfl rfl) ?_; refine wla rfl rfl (q_assign (v := (u64 ((shr64 ((((shr64 a0x 32) * (a1y &&& (4294967295 : UInt64))) + (shr64 (((a0x &&& (4294967295 : UInt64)) * (a1y &&& (4294967295 : UInt64)))) 32))) 32)))) rfl rfl) ?_; refine wl_nil ?_; refine W_th ?_; refine W_seq ?_; refine W_reg (by kernel_rfl) ?_; refine wla rfl rfl (q_move (v := (u64 (((((shr64 a0x 32) * (a1y &&& (4294967295 : UInt64))) + (shr64 (((a0x &&& (4294967295 : UInt64)) * (a1y &&& (4294967295 : UInt64)))) 32)) &&& (4294967295 : UInt64))))) rfl rfl) ?_; refine wla rfl rfl (q_move (v := (u64 ((a0x &&& (4294967295 : UInt64))))) rfl rfl) ?_; refine wla rfl rfl (q_move (v := (u64 ((shr64 a1y 32)))) rfl rfl) ?_; refine wla rfl rfl (q_mul64 rfl rfl rfl) ?_; refine wla rfl rfl (q_add64 rfl rfl rfl) ?_; refine wla rfl rfl (q_assign (v := (u64 ((((((shr64 a0x 32) * (a1y &&& (4294967295 : UInt64))) + (shr64 (((a0x &&& (4294967295 : UInt64)) * (a1y &&& (4294967295 : UInt64)))) 32)) &&& (4294967295 : UInt64)) + ((a0x &&& (4294967295 : UInt64)) * (shr64 a1y 32)))))) rfl rfl) ?_; refine wl_nil ?_; refine W_th ?_; refine W_seq ?_; refine W_reg (by kernel_rfl) ?_; refine wla rfl rfl (q_move (v := (u64 ((shr64 a0x 32)))) rfl rfl) ?_; refine wla rfl rfl (q_move (v := (u64 ((shr64 a1y 32)))) rfl rfl) ?_; refine wla rfl rfl (q_mul64 rfl rfl rfl) ?_; refine wla rfl rfl (q_move (v := (u64 ((shr64 ((((shr64 a0x 32) * (a1y &&& (4294967295 : UInt64))) + (shr64 (((a0x &&& (4294967295 : UInt64)) * (a1y &&& (4294967295 : UInt64)))) 32))) 32)))) rfl rfl) ?_; refine wla rfl rfl (q_add64 rfl rfl rfl) ?_; refine wla rfl rfl (q_move (v := (u64 ((((((shr64 a0x 32) * (a1y &&& (4294967295 : UInt64))) + (shr64 (((a0x &&& (4294967295 : UInt64)) * (a1y &&& (4294967295 : UInt64)))) 32)) &&& (4294967295 : UInt64)) + ((a0x &&& (4294967295 : UInt64)) * (shr64 a1y 32)))))) rfl rfl) ?_; refine wla rfl rfl (q_shr64 32 rfl rfl rfl rfl) ?_; refine wla rfl rfl (q_add64 rfl rfl rfl) ?_; refine wla rfl rfl (q_assign (v := (u64 (((((shr64 a0x 32) * (shr64 a1y 32)) + (shr64 ((((shr64 a0x 32) * (a1y &&& (4294967295 : UInt64))) + (shr64 (((a0x &&& (4294967295 : UInt64)) * (a1y &&& (4294967295 : UInt64)))) 32))) 32)) + (shr64 ((((((shr64 a0x 32) * (a1y &&& (4294967295 : UInt64))) + (shr64 (((a0x &&& (4294967295 : UInt64)) * (a1y &&& (4294967295 : UInt64)))) 32)) &&& (4294967295 : UInt64)) + ((a0x &&& (4294967295 : UInt64)) * (shr64 a1y 32)))) 32))))) rfl rfl) ?_; refine wl_nil ?_; refine W_th ?_; refine W_seq ?_; refine W_reg (by kernel_rfl) ?_; refine wla rfl rfl (q_move (v := (u64 a0x)) rfl rfl) ?_; refine wla rfl rfl (q_move (v := (u64 a1y)) rfl rfl) ?_; refine wla rfl rfl (q_mul64 rfl rfl rfl) ?_; refine wla rfl rfl (q_assign (v := (u64 ((a0x * a1y)))) rfl rfl) ?_
  refine wl_nil ?_; refine W_th ?_; refine W_ret ?_; obtain rfl := osi H; refine rt2 (u64 (((((shr64 a0x 32) * (shr64 a1y 32)) + (shr64 ((((shr64 a0x 32) * (a1y &&& (4294967295 : UInt64))) + (shr64 (((a0x &&& (4294967295 : UInt64)) * (a1y &&& (4294967295 : UInt64)))) 32))) 32)) + (shr64 ((((((shr64 a0x 32) * (a1y &&& (4294967295 : UInt64))) + (shr64 (((a0x &&& (4294967295 : UInt64)) * (a1y &&& (4294967295 : UInt64)))) 32)) &&& (4294967295 : UInt64)) + ((a0x &&& (4294967295 : UInt64)) * (shr64 a1y 32)))) 32)))) (u64 ((a0x * a1y))) rfl rfl rfl rfl rfl rfl ?_; exact ⟨rfl, hE⟩
noncomputable def math_bits_Mul (a0x : UInt64) (a1y : UInt64) : Option (UInt64 × UInt64) :=
((math_bits_Mul64 a0x a1y).bind fun r1 => some (r1.1, r1.2))
set_option maxRecDepth 100000 in
set_option maxHeartbeats 8000000 in
theorem math_bits_Mul_calls (a0x : UInt64) (a1y : UInt64) (r : UInt64 × UInt64) (w0 : World) (H : math_bits_Mul a0x a1y = some r) :
    Calls Try.prog 91 [(u64 a0x), (u64 a1y)].toArray w0 (fun e w' => e = .returned (.tuple #[(u64 r.1), (u64 r.2)]) ∧ Ext w0 w') := by
  have hE : Ext w0 w0 := Ext.refl w0; unfold math_bits_Mul at H; refine calls_W (n := 30) Try.func91 rfl rfl rfl ?_; refine W_seq ?_; refine W_reg (by kernel_rfl) ?_; refine wla rfl rfl (q_assign (v := (u64 0)) rfl (cst64 (0 : UInt64) rfl)) ?_; refine wla rfl rfl (q_assign (v := (u64 0)) rfl (cst64 (0 : UInt64) rfl)) ?_; refine wl_nil ?_; refine W_th ?_; refine W_seq ?_; refine W_cond false rfl rfl (fun hb => by cases hb) (fun _ => ?_); refine W_skip ?_; refine W_th ?_; refine W_seq ?_; refine W_reg (by kernel_rfl) ?_; refine wla rfl rfl (q_move (v := (u64 a0x)) rfl rfl) ?_; refine wla rfl rfl (q_move (v := (u64 a1y)) rfl rfl) ?_; obtain ⟨r1, hr1, H⟩ := bsi H; refine wls rfl rfl (stp_call (vs := [(u64 a0x), (u64 a1y)]) Try.func96 rfl rfl rfl (ar2 rfl rfl) (math_bits_Mul64_calls a0x a1y  r1 _  hr1) ?_); rintro _ w1 ⟨rfl, x1⟩; refine ⟨_, rfl, ?_⟩; have e2 := hE.trans x1; refine wla rfl rfl (q_move (v := (.tuple #[(u64 r1.1), (u64 r1.2)])) rfl rfl) ?_; refine wla rfl rfl (q_extract rfl rfl rfl) ?_; refine wla rfl rfl (q_extract rfl rfl rfl) ?_; refine wla rfl rfl (q_assign (v := (u64 r1.1)) rfl rfl) ?_; refine wla rfl rfl (q_assign (v := (u64 r1.2)) rfl rfl) ?_; refine wl_nil ?_; refine W_th ?_; refine W_seq ?_; refine W_reg (by kernel_rfl) ?_; refine wla rfl rfl (q_move (v := (u64 r1.1)) rfl rfl) ?_; refine wla rfl rfl (q_move (v := (u64 r1.2)) rfl rfl) ?_; refine wla rfl rfl (q_assign (v := (u64 r1.1)) rfl rfl) ?_; refine wla rfl rfl (q_assign (v := (u64 r1.2)) rfl rfl) ?_; refine wl_nil ?_; refine W_th ?_; refine W_ret ?_; obtain rfl := osi H; refine rt2 (u64 r1.1) (u64 r1.2) rfl rfl rfl rfl rfl rfl ?_; exact ⟨rfl, e2⟩
end Gk

/- bytes.Repeat, of one byte, 64 times. No condition. -/
set_option linter.unusedVariables false
set_option linter.unusedSimpArgs false
namespace Gk
open Go Go.Proofs Go.RowKit
section
variable {P : Program} {o : Oper} {f : Nat → Value} {w : World} {L : List Value}
theorem stp_copyW {α : Type} {R : World → List Value → Value → α → Prop} (hR : Stab R) {d x : Operand} {t e : TypeId} {z v dv u : Value} {bytes : Nat} {l m : List α} {off : Int} (L1 L2 : List Value)
    (ho : o.op = .call ⟨.builtin .copy, #[d, x], #[t, t]⟩) (T : TyS P t e z bytes) (hd : ev f d = dv) (hx : ev f x = u) (h : OwK R w (L1 ++ v :: L2) e v l)
    {mx : Nat} (hmx : l.length ≤ mx) (hdv : dv = subW v off.toNat l.length mx) (h0 : 0 ≤ off) (hoff : off ≤ l.length)
    {Lu : List Value} (hu : SlK R w Lu u m) (hLu : ∀ u x, R w Lu u x → R w (L1 ++ v :: L2) u x) (h1 : ∀ w L u x, R w L u x → u.oneCell' = true)
    {K : Value → World → Prop} (hk : ∀ w', OwK R w' (L1 ++ v :: L2) e v (copyL l off m) → Gr w w' v → Lift w w' (L1 ++ v :: L2) (L1 ++ v :: L2) → K (i64 (min m.length (l.length - off.toNat) : Nat)) w') : Stp P o f w K := by
  obtain ⟨us, hown, hl, he⟩ := h
  obtain ⟨ns, ⟨p, cap, hp, hcap, hne⟩, hl', he0⟩ := hu
  have he' : ∀ i (h : i < ns.length) (h' : i < m.length), R w (L1 ++ v :: L2) ns[i] m[i] := fun i a b => hLu _ _ (he0 i a b)
  obtain ⟨i, hi, i1, i2, i3⟩ := info_parts T.info
  have hsz : (P.info? e).map (·.size) = some 1 := by rw [hi]; simp [i2]
  obtain ⟨k, rfl⟩ := Int.eq_ofNat_of_zero_le h0
  simp only [Int.toNat_natCast] at *
  have hkl : k ≤ us.length := by omega
  have hmin : Nat.min ns.length (us.length - k) = min m.length (l.length - k) := by rw [hl, hl']
  by_cases hz : Nat.min ns.length (us.length - k) = 0
  · have hrun : (Builtin.copy_ #[t, t] o.type #[dv, u]).run P w = .ok (goInt 0) w := by
      rcases hown with ⟨pv, rfl, rfl⟩ | ⟨g, cap', rfl, hc0, hown⟩
      · subst hdv; subst hp
        cases pv <;> exact run_copy_none (P := P) w t t o.type e _ _ _ _ _ _ T.sl hsz (by rw [← hl]; exact hz)
      · subst hdv; subst hp
        exact run_copy_none (P := P) w t t o.type e _ _ _ _ _ _ T.sl hsz (by rw [← hl]; exact hz)
    refine stp_of_run (v := goInt 0) (w' := w) (by rw [exec_builtin _ ho]; simp [builtin, hd, hx, hrun]) ?_
    have hk' := hk w ⟨us, hown, ?_, ?_⟩ (Gr.refl w _) (Lift.sub (fun _ h => h))
    · rw [show min m.length (l.length - k) = 0 by omega] at hk'
      exact hk'
    · have h2 : min m.length (l.length - k) = 0 := by omega
      simp only [copyL, Int.toNat_natCast, List.length_append, List.length_take, List.length_drop]; omega
    · have : copyL l (k : Int) m = l := by
        unfold copyL
        simp only [Int.toNat_natCast]
        have h2 : min m.length (l.length - k) = 0 := by omega
        rw [h2]
        rcases Nat.eq_zero_or_pos (l.length - k) with h3 | h3
        · rw [h3]; simp
        · have : m.length = 0 := by omega
          rw [List.eq_nil_of_length_eq_zero this]; simp
      rw [this]
      exact he
  · have hpos : 0 < Nat.min ns.length (us.length - k) := Nat.pos_of_ne_zero hz
    have hns0 : 0 < ns.length := by have := Nat.min_le_left ns.length (us.length - k); omega
    have hus0 : 0 < us.length - k := by have := Nat.min_le_right ns.length (us.length - k); omega
    obtain ⟨b, so, rfl, _, hr⟩ := hne (List.length_pos_iff.1 hns0)
    rcases hown with ⟨pv, rfl, rfl⟩ | ⟨g, cap', rfl, hc0, hown⟩
    · simp at hus0
    · obtain ⟨cur, hg, hc, hcm, hcs, htake⟩ := row_spec hown
      have hn : (ns.take (us.length - k)).length = Nat.min ns.length (us.length - k) := by simp; exact Nat.min_comm _ _
      have hadr : dv = .slice (some ⟨g, k, none⟩) (us.length - k) (mx - k) := by
        rw [hdv, ← hl]; simp only [subW]; rw [if_neg (by omega)]; simp [add_off]
      have hrun := run_copy_row (P := P) w t t o.type e g k (us.length - k) (mx - k) ⟨b, so, none⟩ ns.length cap cur e (ns.take (us.length - k)) T.sl hsz hg hn
        (fun j v hj => by
          obtain ⟨hj', rfl⟩ := List.getElem?_eq_some_iff.1 hj
          rw [add_off, hr j (by simp at hj'; omega)]; simp)
        (by rw [hn, hcs]; have := Nat.min_le_right ns.length (us.length - k); omega)
        (fun a ha => by
          obtain ⟨j, hj, rfl⟩ := List.getElem_of_mem ha
          simp only [List.getElem_take]
          exact h1 _ _ _ _ (he' j (by simp at hj; omega) (by simp at hj; omega)))
      generalize hw' : w.setRow g (cur.toList.take k ++ ns.take (us.length - k) ++ cur.toList.drop (k + (ns.take (us.length - k)).length)).toArray = w' at hrun
      have hgr : Gr w w' (.slice (some ⟨g, 0, none⟩) us.length cap') := Gr.of (by rw [oB_pos hc0]; rw [← hw']; exact ⟨rfl, rfl, rfl, by simp, fun j _ hj => setRow_other w g j _ (fun e => hj (by rw [e]))⟩)
      have hlift : Lift w w' (L1 ++ .slice (some ⟨g, 0, none⟩) us.length cap' :: L2) (L1 ++ .slice (some ⟨g, 0, none⟩) us.length cap' :: L2) := Lift.own L1 L2 hgr (Nx.refl _ _)
      have hnew : (us.take k ++ (ns.take (us.length - k) ++ us.drop (k + (ns.take (us.length - k)).length))).length = us.length := by
        simp; omega
      refine stp_of_run (v := goInt (ns.take (us.length - k)).length) (w' := w') (by rw [exec_builtin _ ho]; simp [builtin, hd, hx, hadr, hp, hrun]) ?_
      have hk' := hk w' ⟨us.take k ++ (ns.take (us.length - k) ++ us.drop (k + (ns.take (us.length - k)).length)), ?_, ?_, ?_⟩ hgr hlift
      · rw [← hmin, ← hn] at hk'; exact hk'
      · refine Ow.mk hnew.symm ⟨by simpa using hnew, .inr ⟨g, cap', _, rfl, Nat.zero_le _, by rw [← hw']; exact setRow_heap w g cur _ e _ hg, hc, hcm, ?_, ?_⟩⟩
        · simp only [List.size_toArray, List.length_append, List.length_take, List.length_drop, Array.length_toList, hcs]
          omega
        · have hl1 : (ns.take (us.length - k)).length ≤ us.length - k := by simp; omega
          simp only [Nat.mul_one] at htake ⊢
          rw [splice_take cur.toList _ us.length k (by omega) (by have h9 : cur.toList.length = cur.size := Array.length_toList; simp at hcs; omega), htake]
      · simp [copyL]; omega
      · have r1 : Rl (R w' (L1 ++ .slice (some ⟨g, 0, none⟩) us.length cap' :: L2)) us l := ⟨hl, fun i h h' => hR _ _ _ _ _ _ hlift (he i h h')⟩
        have r2 : Rl (R w' (L1 ++ .slice (some ⟨g, 0, none⟩) us.length cap' :: L2)) ns m := ⟨hl', fun i h h' => hR _ _ _ _ _ _ hlift (he' i h h')⟩
        have r3 := (r1.take k).append ((r2.take (us.length - k)).append (r1.drop (k + (ns.take (us.length - k)).length)))
        have e5 : min m.length (us.length - k) = (ns.take (us.length - k)).length := by simp [hl']; exact Nat.min_comm _ _
        have e4 : copyL l (k : Int) m = l.take k ++ (m.take (us.length - k) ++ l.drop (k + (ns.take (us.length - k)).length)) := by
          unfold copyL; simp only [Int.toNat_natCast, ← hl, e5]
        rw [e4]
        exact r3.2
end
def bytes_Repeat (b : List UInt8) (n : Int) : Option (List UInt8) := if b.length = 1 ∧ n = 64 then some (List.replicate 64 (b.getD 0 0)) else none
def rbody (s : Nat × List UInt8) : Option ((Nat × List UInt8) ⊕ Unit) := if s.1 < 6 then some (.inl (s.1 + 1, copyL s.2 ((2 ^ s.1 : Nat) : Int) (s.2.take (2 ^ s.1)))) else some (.inr ())
theorem rloop (s : Nat × List UInt8) (h : s.1 ≤ 6) : iterC rbody s = some () := by
  obtain ⟨x, hx, _⟩ := iterC_inv (body := rbody) (fun s => s.1 ≤ 6) (fun s => 6 - s.1) (fun _ => True) (by
    rintro ⟨k, l⟩ hk
    unfold rbody
    simp only at hk ⊢
    by_cases h6 : k < 6
    · left; rw [if_pos h6]; exact ⟨_, rfl, by simp only; omega, by simp only; omega⟩
    · right; rw [if_neg h6]; exact ⟨_, rfl, trivial⟩) s h
  exact hx
theorem rep_step {l : List UInt8} {x : UInt8} {k : Nat} (h : l.length = 64) (hk : k ≤ 5) (ht : l.take (2 ^ k) = List.replicate (2 ^ k) x) :
    (copyL l ((2 ^ k : Nat) : Int) (l.take (2 ^ k))).length = 64 ∧ (copyL l ((2 ^ k : Nat) : Int) (l.take (2 ^ k))).take (2 ^ (k + 1)) = List.replicate (2 ^ (k + 1)) x := by
  have hp : 2 ^ (k + 1) = 2 ^ k + 2 ^ k := by rw [Nat.pow_succ]; omega
  have h32 : 2 ^ k ≤ 32 := by
    have := Nat.pow_le_pow_right (show 0 < 2 by decide) hk
    simpa using this
  unfold copyL
  rw [ht]
  simp only [Int.toNat_natCast, List.length_replicate]
  rw [ht, List.take_of_length_le (by simp; omega)]
  constructor
  · simp only [List.length_append, List.length_replicate, List.length_drop]; omega
  · rw [hp, ← List.append_assoc, List.take_append_of_le_length (by simp), List.replicate_append_replicate, List.take_of_length_le (by simp)]
set_option maxRecDepth 100000 in
set_option maxHeartbeats 8000000 in
theorem bytes_Repeat_calls (a0b : List UInt8) (a1count : Int) (p0 : Value) (r : List UInt8) (w0 : World) (hp0 : By w0 [] p0 a0b) (H : bytes_Repeat a0b a1count = some r) :
    Calls Try.prog 84 [p0, (i64 a1count)].toArray w0 (fun e w' => ∃ u0 : Value, e = .returned u0 ∧ Ext w0 w' ∧ Nw w0 u0 ∧ By w' [] u0 r) := by
  have hE : Ext w0 w0 := Ext.refl w0; unfold bytes_Repeat at H
  by_cases hc : a0b.length = 1 ∧ a1count = 64
  case neg => rw [if_neg hc] at H; cases H
  rw [if_pos hc] at H; obtain ⟨hlen, h64⟩ := hc
  subst h64
  obtain ⟨x, rfl⟩ : ∃ x, a0b = [x] := by
    match a0b, hlen with
    | [x], _ => exact ⟨x, rfl⟩
  obtain rfl := osi H
  have hmul : math_bits_Mul (UInt64.ofInt ((([x] : List UInt8).length : Int))) (UInt64.ofInt 64) = some ((0 : UInt64), (64 : UInt64)) := by kernel_rfl
  have hw64 : i64 (wI ((64 : UInt64).toNat : Int)) = i64 64 := by rw [show wI ((64 : UInt64).toNat : Int) = 64 by decide]
  refine calls_W (n := 77) Try.func84 rfl rfl rfl ?_; refine W_seq ?_; refine W_reg (by kernel_rfl) ?_; refine wla rfl rfl (q_assign (v := (.slice none 0 0)) rfl rfl) ?_; refine wl_nil ?_; refine W_th ?_; refine W_seq ?_; refine W_seq ?_; refine W_reg (by kernel_rfl) ?_; refine wla rfl rfl (q_move (v := (i64 64)) rfl rfl) ?_; refine wla rfl rfl (q_eqI rfl rfl rfl) ?_; refine wl_nil ?_; refine W_th ?_; refine W_cond _ rfl rfl (fun hb1 => absurd (of_decide_eq_true hb1) (by decide)) (fun hb1 => ?_); refine W_skip ?_; refine W_th ?_; refine W_seq ?_; refine W_seq ?_; refine W_reg (by kernel_rfl) ?_; refine wla rfl rfl (q_move (v := (i64 64)) rfl rfl) ?_; refine wla rfl rfl (q_ltI rfl rfl rfl) ?_; refine wl_nil ?_; refine W_th ?_; refine W_cond _ rfl rfl (fun hb1 => absurd (of_decide_eq_true hb1) (by decide)) (fun hb1 => ?_); refine W_skip ?_; refine W_th ?_; refine W_seq ?_; refine W_reg (by kernel_rfl) ?_; refine wla rfl rfl (q_move (v := p0) rfl rfl) ?_; refine wla rfl rfl (q_len rfl T22.sl rfl (hp0.lift (Lift.ext hE _))) ?_; refine wla rfl rfl (q_cvt64I rfl rfl rfl rfl) ?_; refine wla rfl rfl (q_move (v := (i64 64)) rfl rfl) ?_; refine wla rfl rfl (q_cvt64I rfl rfl rfl rfl) ?_; refine wls rfl rfl (stp_call (vs := [(u64 ((UInt64.ofInt ((([x] : List UInt8).length : Int))))), (u64 ((UInt64.ofInt 64)))]) Try.func91 rfl rfl rfl (ar2 rfl rfl) (math_bits_Mul_calls (UInt64.ofInt ((([x] : List UInt8).length : Int))) (UInt64.ofInt 64)  _ _  hmul) ?_); rintro _ w6 ⟨rfl, x6⟩; refine ⟨_, rfl, ?_⟩; have e7 := hE.trans x6; refine wla rfl rfl (q_move (v := (.tuple #[(u64 0), (u64 64)])) rfl rfl) ?_; refine wla rfl rfl (q_extract rfl rfl rfl) ?_; refine wla rfl rfl (q_extract rfl rfl rfl) ?_; refine wla rfl rfl (q_assign (v := (u64 0)) rfl rfl) ?_; refine wla rfl rfl (q_assign (v := (u64 64)) rfl rfl) ?_; refine wl_nil ?_; refine W_th ?_; refine W_seq ?_; refine W_seq ?_; refine W_reg (by kernel_rfl) ?_; refine wla rfl rfl (q_move (v := (u64 0)) rfl rfl) ?_; refine wla rfl rfl (q_gt64 rfl rfl (cst64 (0 : UInt64) rfl)) ?_; refine wlb rfl rfl (q_move (v := (.bool ((decide ((0 : UInt64) < (0 : UInt64)))))) rfl rfl) (fun hb8 => absurd (of_decide_eq_true hb8) (by decide)) (fun hb8 => ?_); refine wla rfl rfl (q_move (v := (u64 64)) rfl rfl) ?_; refine wla rfl rfl (q_gt64 rfl rfl (cst64 (9223372036854775807 : UInt64) rfl)) ?_; refine wla rfl rfl (q_pick_f (v := (.bool ((decide ((9223372036854775807 : UInt64) < (64 : UInt64)))))) rfl rfl rfl) ?_; refine wl_nil ?_; refine W_th ?_; refine W_cond _ rfl rfl (fun hb9 => absurd (of_decide_eq_true hb9) (by decide)) (fun hb9 => ?_); refine W_skip ?_; refine W_th ?_; refine W_seq ?_; refine W_reg (by kernel_rfl) ?_; refine wla rfl rfl (q_move (v := (u64 64)) rfl rfl) ?_; refine wla rfl rfl (q_cvtI64 rfl rfl rfl rfl) ?_; refine wla rfl rfl (q_assign (v := (i64 64)) rfl hw64) ?_; refine wl_nil ?_; refine W_th ?_; refine W_seq ?_; refine W_seq ?_; refine W_reg (by kernel_rfl) ?_; refine wla rfl rfl (q_move (v := p0) rfl rfl) ?_; refine wla rfl rfl (q_len rfl T22.sl rfl (hp0.lift (Lift.ext e7 _))) ?_
  refine wla rfl rfl (q_eqI rfl rfl rfl) ?_; refine wl_nil ?_; refine W_th ?_; refine W_cond _ rfl rfl (fun hb9 => absurd (of_decide_eq_true hb9) (by simp)) (fun hb9 => ?_); refine W_skip ?_; refine W_th ?_; refine W_seq ?_; refine W_reg (by kernel_rfl) ?_; refine wla rfl rfl (q_move (v := (i64 64)) rfl rfl) ?_; refine wla rfl rfl (q_assign (v := (i64 64)) rfl rfl) ?_; refine wl_nil ?_; refine W_th ?_; refine W_seq ?_; refine W_seq ?_; refine W_reg (by kernel_rfl) ?_; refine wla rfl rfl (q_move (v := (i64 64)) rfl rfl) ?_; refine wla rfl rfl (q_gtI rfl rfl rfl) ?_; refine wl_nil ?_; refine W_th ?_; refine W_cond _ rfl rfl (fun hb14 => absurd (of_decide_eq_true hb14) (by decide)) (fun hb14 => ?_); refine W_skip ?_; refine W_th ?_; refine W_seq ?_; refine W_reg (by kernel_rfl) ?_; refine wla rfl rfl (q_move (v := (i64 64)) rfl rfl) ?_; refine wls rfl rfl (stp_noZero (L := []) (ps := #[3]) (t := 22) (fn := Try.f92) Try.func92 rfl rfl rfl (by kernel_rfl) rfl T22 rfl ⟨by decide, by decide⟩ ?_); intro j hj v w1 o1 n1 g1 l1; have x1 := grown_ext g1; have nv := Nw.ext e7 n1; have e8 := e7.trans x1
  have hj' : j.length = 64 := by omega
  have hs64 : ∀ l : List UInt8, l.length = 64 → subL3 l 0 64 64 = some l := by
    intro l hl; unfold subL3; rw [if_pos ⟨by omega, by omega, by omega, by omega⟩]; simp only [show (64 : Int).toNat = 64 from rfl, show (0 : Int).toNat = 0 from rfl]; rw [List.take_of_length_le (by omega)]; rfl
  refine wla rfl rfl (q_move (v := (i64 64)) rfl rfl) ?_; refine wla rfl rfl (q_move (v := (i64 64)) rfl rfl) ?_; refine wla rfl rfl (q_slice3 (a := 0) (b := 64) (c := 64) rfl T22 rfl (o1.rd (Sc.stab _)) rfl rfl rfl (hs64 j hj')) ?_; refine wla rfl rfl (q_assign (v := (subW v 0 64 64)) rfl rfl) ?_; refine wl_nil ?_; refine W_th ?_; refine W_seq ?_; refine W_reg (by kernel_rfl) ?_; refine wla rfl rfl (q_move (v := (subW v 0 64 64)) rfl rfl) ?_; refine wla rfl rfl (q_move (v := p0) rfl rfl) ?_; refine wls rfl rfl (stp_copyW (R := (Sc u8)) (off := 0) (dv := (subW v 0 64 64)) (u := p0) (v := v) (mx := 64) (Sc.stab _) [] [] rfl T22 rfl rfl o1 (by omega) (by rw [hj']; rfl) (by decide) (Int.natCast_nonneg _) (hp0.lift (Lift.ext e8 _)) (fun _ _ h => h) oc_u8 ?_)
  intro w2 o2 g2 l2; have e9 := e8.grown g2 nv
  have hm1 : (i64 ((min ([x] : List UInt8).length (j.length - (0 : Int).toNat) : Nat) : Int)) = i64 1 := by rw [hj']; rfl
  refine wla rfl rfl (q_assign (v := (i64 1)) rfl hm1) ?_; refine wl_nil ?_; refine W_th ?_; refine W_seq ?_
  have hl0 : (copyL j 0 [x]).length = 64 := by unfold copyL; simp; omega
  have ht0 : (copyL j 0 [x]).take 1 = [x] := by unfold copyL; rw [hj']; simp
  refine W_mid (fun f w => f 9 = (subW v 0 64 64) ∧ f 77 = undef ∧ Ext w0 w ∧ OwK (Sc u8) w [v] 5 v (List.replicate 64 x)) ?_ ?_
  · refine W_block ?_; refine W_loop (fun s f w => s.1 ≤ 6 ∧ f 10 = (i64 ((2 ^ s.1 : Nat) : Int)) ∧ f 9 = (subW v 0 64 64) ∧ f 7 = (i64 64) ∧ f 8 = (i64 64) ∧ f 77 = undef ∧ Ext w0 w ∧ OwK (Sc u8) w [v] 5 v s.2 ∧ s.2.length = 64 ∧ s.2.take (2 ^ s.1) = List.replicate (2 ^ s.1) x) (rloop (0, copyL j 0 [x]) (Nat.zero_le _)) ?_ ?_
    · exact ⟨Nat.zero_le _, rfl, rfl, rfl, rfl, rfl, e9, o2, hl0, ht0⟩
    rintro ⟨k, l⟩ _ _ w3 ⟨hk, s10, s9, s7, s8, sm, hE3, o3, hl, ht⟩ H1 hr1; simp only at hk s10 o3 hl ht; refine W_seq ?_; refine W_seq ?_; refine W_reg (by kernel_rfl) ?_; refine wla rfl rfl (q_move (v := (i64 ((2 ^ k : Nat) : Int))) rfl s10) ?_; refine wla rfl rfl (q_move (v := (i64 64)) rfl s7) ?_; refine wla rfl rfl (q_ltI rfl rfl rfl) ?_; refine wl_nil ?_; refine W_th ?_; refine W_cond _ rfl rfl (fun hb3 => ?_) (fun hb3 => ?_)
    · have hlt := of_decide_eq_true hb3
      have hk5 : k < 6 := by
        rcases Nat.lt_or_ge k 6 with h | h
        · exact h
        have : k = 6 := by omega
        subst this; exact absurd hlt (by decide)
      have hp2 : 2 ^ k ≤ 32 := by
        have := Nat.pow_le_pow_right (show 0 < 2 by decide) (show k ≤ 5 by omega)
        simpa using this
      have hp0' := Nat.two_pow_pos k
      have hbody : rbody (k, l) = some (.inl (k + 1, copyL l ((2 ^ k : Nat) : Int) (l.take (2 ^ k)))) := by unfold rbody; rw [if_pos hk5]
      rw [hbody] at H1; obtain rfl := osi H1; refine W_skip ?_; refine W_th ?_; refine W_block ?_; refine W_seq ?_; refine W_reg (by kernel_rfl) ?_; refine wla rfl rfl (q_move (v := (i64 ((2 ^ k : Nat) : Int))) rfl s10) ?_; refine wla rfl rfl (q_move (v := (i64 64)) rfl s8) ?_; refine wla rfl rfl (q_minI rfl rfl rfl) ?_; have hmin : (if (64 : Int) < ((2 ^ k : Nat) : Int) then (64 : Int) else ((2 ^ k : Nat) : Int)) = ((2 ^ k : Nat) : Int) := if_neg (by omega); refine wla rfl rfl (q_assign (v := (i64 ((2 ^ k : Nat) : Int))) rfl (congrArg i64 hmin)) ?_; refine wl_nil ?_; refine W_th ?_; refine W_draw [] [(0, 0), (1, 0), (2, 0), (3, 0), (4, 0), (5, 0), (6, 0), (7, 2), (8, 0), (9, 0)] mixed (by kernel_rfl) (by kernel_rfl) (by kernel_rfl) (by kernel_rfl) ?_; have xd := Ext.drew w3; replace o3 := o3.ext (Sc.stab _) xd; have hE4 := hE3.trans xd; have c3 := SlK.cut3 (o3.rd (Sc.stab _)) (hs64 l hl)
      have cs : subL l 0 ((2 ^ k : Nat) : Int) = some (l.take (2 ^ k)) := by
        have := subL_some.2 ⟨⟨show (0 : Int) ≤ 0 by decide, show (0 : Int) ≤ ((2 ^ k : Nat) : Int) by omega, show ((2 ^ k : Nat) : Int) ≤ (l.length : Int) by omega⟩, (rfl : (l.take ((2 ^ k : Nat) : Int).toNat).drop (0 : Int).toNat = _)⟩; exact this
      have cd : subL l ((2 ^ k : Nat) : Int) (l.length : Int) = some (l.drop (2 ^ k)) := by
        have := subL_some.2 ⟨⟨show (0 : Int) ≤ ((2 ^ k : Nat) : Int) by omega, show ((2 ^ k : Nat) : Int) ≤ (l.length : Int) by omega, Int.le_refl _⟩, (rfl : (l.take ((l.length : Nat) : Int).toNat).drop ((2 ^ k : Nat) : Int).toNat = _)⟩; rw [show ((l.length : Nat) : Int).toNat = l.length from rfl, List.take_length] at this; exact this
      refine wsa rfl rfl rfl (q_move (v := (i64 ((2 ^ k : Nat) : Int))) rfl s10) ?_; refine wsa rfl rfl rfl (q_move (v := (subW v 0 64 64)) rfl s9) ?_; refine wsa rfl rfl rfl (q_move (v := (i64 ((2 ^ k : Nat) : Int))) rfl s10) ?_; refine wsa rfl rfl rfl (q_slice (a := ((2 ^ k : Nat) : Int)) (b := (l.length : Int)) rfl T22 rfl c3 rfl rfl cd) ?_; refine wsa rfl rfl rfl (q_move (v := (subW v 0 64 64)) rfl s9) ?_; refine wsa rfl rfl rfl (q_move (v := (i64 ((2 ^ k : Nat) : Int))) rfl rfl) ?_; refine wsa rfl rfl rfl (q_slice (a := 0) (b := ((2 ^ k : Nat) : Int)) rfl T22 rfl c3 rfl rfl cs) ?_
      have hdv : subV (subW v 0 64 64) ((2 ^ k : Nat) : Int).toNat ((l.length : Nat) : Int).toNat = subW v ((2 ^ k : Nat) : Int).toNat l.length 64 := by
        obtain ⟨us, how, hul, _⟩ := o3
        rcases how with ⟨p, rfl, rfl⟩ | ⟨b, cap, rfl, _, _⟩
        · simp at hul; omega
        simp only [Int.toNat_natCast, hl, subW, subV]; rw [if_neg (by omega), if_neg (by omega), if_neg (by omega)]
        simp [Addr.add]
      have hc3 : By (World.drew w3) [] (subV (subW v 0 64 64) (0 : Int).toNat ((2 ^ k : Nat) : Int).toNat) (l.take (2 ^ k)) := SlK.cut c3 cs; refine wsc rfl (by kernel_rfl) rfl rfl (stp_copyW (R := (Sc u8)) (off := ((2 ^ k : Nat) : Int)) (dv := subV (subW v 0 64 64) ((2 ^ k : Nat) : Int).toNat ((l.length : Nat) : Int).toNat) (u := subV (subW v 0 64 64) (0 : Int).toNat ((2 ^ k : Nat) : Int).toNat) (v := v) (mx := 64) (Sc.stab _) [] [] rfl T22 rfl rfl o3 (by omega) hdv (by omega) (by omega) hc3 (fun _ _ h => h) oc_u8 ?_); intro w4 o4 g4 l4; have e10 := hE4.grown g4 nv
      have hcnt : (i64 ((min (l.take (2 ^ k)).length (l.length - ((2 ^ k : Nat) : Int).toNat) : Nat) : Int)) = i64 ((2 ^ k : Nat) : Int) := by
        congr 2; rw [List.length_take]; simp only [Int.toNat_natCast]; omega
      refine wsa rfl rfl rfl (q_addI rfl rfl hcnt) ?_
      have hadd : i64 (wI (((2 ^ k : Nat) : Int) + ((2 ^ k : Nat) : Int))) = i64 ((2 ^ (k + 1) : Nat) : Int) := by
        rw [wI_of (by omega) (by omega), Nat.pow_succ]; congr 1; omega
      refine wsa rfl rfl rfl (q_assign (v := (i64 ((2 ^ (k + 1) : Nat) : Int))) rfl hadd) ?_; refine ws_nil ?_; refine bk_n ?_; obtain ⟨q1, q2⟩ := rep_step (x := x) hl (show k ≤ 5 by omega) ht; exact ⟨_, rfl, by simp only; omega, rfl, s9, s7, s8, sm, e10, o4, q1, q2⟩
    have hge := of_decide_eq_false hb3
    have hk6 : k = 6 := by
      rcases Nat.lt_or_ge k 6 with h | h
      · have := Nat.pow_le_pow_right (show 0 < 2 by decide) (show k ≤ 5 by omega)
        have h32 : 2 ^ k ≤ 32 := by simpa using this
        omega
      omega
    subst hk6
    refine W_exit ?_; refine th_x ?_; refine bk_x ?_
    have hrep : l = List.replicate 64 x := by
      have h1 : l.take (2 ^ 6) = l := List.take_of_length_le (by simp; omega)
      rw [← h1]; exact ht
    rw [hrep] at o3; exact ⟨s9, sm, hE3, o3⟩
  rintro f5 w5 ⟨s9, sm, hE5, o5⟩; refine W_th ?_; refine W_seq ?_; refine W_reg (by kernel_rfl) ?_; refine wla rfl rfl (q_move (v := (subW v 0 64 64)) rfl s9) ?_; refine wla rfl rfl (q_assign (v := (subW v 0 64 64)) rfl rfl) ?_; refine wl_nil ?_; refine W_th ?_; refine W_ret ?_; refine rt1 (subW v 0 64 64) rfl rfl rfl sm ?_; refine ⟨subW v 0 64 64, rfl, hE5, ?_, SlK.cut3 (o5.rd (Sc.stab _)) (hs64 _ (by simp))⟩; obtain ⟨us, how, hul, _⟩ := o1
  rcases how with ⟨p, rfl, rfl⟩ | ⟨b, cap, rfl, hc0, _⟩
  · simp at hul; omega
  intro k' hk'
  have : Hs (.slice (some ⟨b, 0, none⟩) us.length cap) k' := by
    have h1 : Hs (.slice (some ⟨b, 0, none⟩) 64 64) k' := hk'
    rcases h1 with e | e
    · rw [oB_pos (by decide)] at e; exact .inl (by rw [oB_pos hc0]; exact e)
    exact absurd e (by simp)
  exact nv k' this
end Gk

/- Printed by gen.py: for each Go function a pure function, and that the Go code comes to it. No condition beside the equation that says what the pure function gives. -/
set_option linter.unusedVariables false
set_option linter.unusedSimpArgs false
namespace Gk
open Go Go.Proofs
noncomputable def seal_added (a0key : List UInt8) (a1x : UInt8) : Option (List UInt8) :=
((bytes_Repeat ([a1x] : List UInt8) 64).bind fun r4 =>
((word_Xor a0key r4).bind fun r7 => some r7))
set_option maxRecDepth 100000 in
set_option maxHeartbeats 8000000 in
theorem seal_added_calls (a0key : List UInt8) (a1x : UInt8) (p0 : Value) (r : List UInt8) (w0 : World) (hp0 : By w0 [] p0 a0key) (H : seal_added a0key a1x = some r) :
    Calls Try.prog 67 [p0, (u8 a1x)].toArray w0 (fun e w' => ∃ u0 : Value, e = .returned u0 ∧ Ext w0 w' ∧ Nw w0 u0 ∧ By w' [] u0 r) := by
  have hE : Ext w0 w0 := Ext.refl w0; unfold seal_added at H; refine calls_W (n := 10) Try.func67 rfl rfl rfl ?_; refine W_seq ?_; refine W_reg (by kernel_rfl) ?_; refine wla rfl rfl (q_assign (v := (.slice none 0 0)) rfl rfl) ?_; refine wl_nil ?_; refine W_th ?_; refine W_seq ?_; refine W_reg (by kernel_rfl) ?_; refine wla rfl rfl (q_move (v := p0) rfl rfl) ?_; refine wla rfl rfl (q_move (v := (u8 a1x)) rfl rfl) ?_; refine wls rfl rfl (stp_lit (L := []) (R := (Sc u8)) [(u8 a1x)] ([a1x] : List UInt8) rfl T22 rfl (by exact ⟨rfl, rfl, trivial⟩) rfl (litC u8 (oneC_u8) (us := [(u8 a1x)]) (l := ([a1x] : List UInt8)) rfl) rfl (litS u8 (us := [(u8 a1x)]) (l := ([a1x] : List UInt8)) rfl) ?_); intro v1 w1 o1 n1 g1 l1; have x1 := grown_ext g1; have i1 : By w1 [] v1 (([a1x] : List UInt8)) := OwK.slk (Sc.stab _) _ o1 (fun k hk => (Old.nil _) k (n1 k hk)) (fun _ h => h.2); have n2 := Nw.ext hE n1; have e3 := hE.trans x1; obtain ⟨r4, hr4, H⟩ := bsi H; refine wls rfl rfl (stp_call (vs := [v1, (i64 64)]) Try.func84 rfl rfl rfl (ar2 rfl rfl) (bytes_Repeat_calls ([a1x] : List UInt8) 64 v1 r4 _ (i1.lift (Lift.sub (L' := []) (fun _ _ => trivial))) hr4) ?_); rintro _ w4 ⟨v4, rfl, x4, n4_0, o4_0⟩; refine ⟨_, rfl, ?_⟩; have n5 := Nw.ext e3 n4_0; have i4_0 : By w4 [] v4 r4 := SlK.avail o4_0 _ (fun k hk => (Old.nil _) k (n4_0 k hk)); replace i1 := i1.lift (Lift.ext x4 _); have e6 := e3.trans x4; obtain ⟨r7, hr7, H⟩ := bsi H; refine wls rfl rfl (stp_call (vs := [p0, v4]) Try.func49 rfl rfl rfl (ar2 rfl rfl) (word_Xor_calls a0key r4 p0 v4 r7 _ (hp0.lift (Lift.ext e6 _)) (i4_0.lift (Lift.sub (L' := []) (fun _ _ => trivial))) hr7) ?_); rintro _ w7 ⟨v7, rfl, x7, n7_0, o7_0⟩; refine ⟨_, rfl, ?_⟩; have n8 := Nw.ext e6 n7_0; have i7_0 : By w7 [] v7 r7 := OwK.slk (Sc.stab _) _ (OwK.scal o7_0 (v7 :: [])) (fun k hk => (Old.nil _) k (n7_0 k hk)) (fun _ h => h.2); replace i1 := i1.lift (Lift.ext x7 _); replace i4_0 := i4_0.lift (Lift.ext x7 _); have e9 := e6.trans x7; refine wla rfl rfl (q_assign (v := v7) rfl rfl) ?_; refine wl_nil ?_; refine W_th ?_; refine W_ret ?_; obtain rfl := osi H; refine rt1 v7 rfl rfl rfl rfl ?_; exact ⟨v7, rfl, e9, n8, (i7_0.lift (Lift.sub (L' := []) (fun _ _ => trivial)))⟩
noncomputable def seal_Mark (a0key : List UInt8) (a1parts : List (List UInt8)) : Option (List UInt8) :=
(((if 64 < (a0key.length : Int) then
((hash_Sum ([a0key] : List (List UInt8))).bind fun r5 => some r5)
else some a0key)).bind fun x1 =>
((slices_Clone_sbytebyte x1).bind fun r10 =>
((makeL ((wI (64 - (x1.length : Int)))) (0 : UInt8)).bind fun c14 =>
((appL r10 c14).bind fun c15 =>
((seal_added c15 (54 : UInt8)).bind fun r18 =>
((appL (([r18] : List (List UInt8))) a1parts).bind fun c24 =>
((seal_added c15 (92 : UInt8)).bind fun r28 =>
((hash_Sum c24).bind fun r30 =>
((hash_Sum ([r28, r30] : List (List UInt8))).bind fun r34 => some r34)))))))))
set_option maxRecDepth 100000 in
set_option maxHeartbeats 8000000 in
theorem seal_Mark_calls (a0key : List UInt8) (a1parts : List (List UInt8)) (p0 : Value) (p1 : Value) (r : List UInt8) (w0 : World) (hp0 : By w0 [] p0 a0key) (hp1 : Rw w0 [] p1 a1parts) (H : seal_Mark a0key a1parts = some r) :
    Calls Try.prog 36 [p0, p1].toArray w0 (fun e w' => ∃ u0 : Value, e = .returned u0 ∧ Ext w0 w' ∧ Nw w0 u0 ∧ OwK (Sc u8) w' [] 5 u0 r) := by
  have hE : Ext w0 w0 := Ext.refl w0; unfold seal_Mark at H; refine calls_W (n := 29) Try.func36 rfl rfl rfl ?_; refine W_seq ?_; refine W_reg (by kernel_rfl) ?_; refine wla rfl rfl (q_assign (v := (.slice none 0 0)) rfl rfl) ?_; refine wl_nil ?_; refine W_th ?_; refine W_seq ?_; obtain ⟨x1, H1, H⟩ := bsi H; refine W_mid (fun f w => ∃ v0_39 : Value, f 0 = v0_39 ∧ f 1 = p1 ∧ f 29 = undef ∧ Ext w0 w ∧ By w [] v0_39 x1) ?_ ?_
  · refine W_seq ?_; refine W_reg (by kernel_rfl) ?_; refine wla rfl rfl (q_move (v := p0) rfl rfl) ?_; refine wla rfl rfl (q_len rfl T22.sl rfl (hp0.lift (Lift.ext hE _))) ?_; refine wla rfl rfl (q_gtI rfl rfl rfl) ?_; refine wl_nil ?_; refine W_th ?_; refine W_cond _ rfl rfl (fun hb2 => ?_) (fun hb2 => ?_)
    · replace H1 := (if_pos (of_decide_eq_true hb2)).symm.trans H1; refine W_reg (by kernel_rfl) ?_; refine wla rfl rfl (q_move (v := p0) rfl rfl) ?_; refine wls rfl rfl (stp_lit (L := []) (R := By) [p0] ([a0key] : List (List UInt8)) rfl T61 rfl (by exact ⟨rfl, rfl, trivial⟩) rfl (LitR.cells (R := By) (w := w0) (L := []) (l := ([a0key] : List (List UInt8))) (LitR.cons (hp0.lift (Lift.arg hE nv_nil)) LitR.nil) (fun u x h => cells_sl u x h)) rfl (LitR.all (R := By) (w := w0) (L := []) (l := ([a0key] : List (List UInt8))) (SlK.stab (Sc.stab _)) (LitR.cons (hp0.lift (Lift.arg hE nv_nil)) LitR.nil)) ?_); intro v3 w3 o3 n3 g3 l3; have x3 := grown_ext g3; have i3 : Rw w3 [] v3 (([a0key] : List (List UInt8))) := OwK.slk (SlK.stab (Sc.stab _)) _ o3 (fun k hk => (Old.nil _) k (n3 k hk)) (fun _ h => h.2); have e4 := hE.trans x3; obtain ⟨r5, hr5, H1⟩ := bsi H1; refine wls rfl rfl (stp_call (vs := [v3]) Try.func63 rfl rfl rfl (ar1 rfl) (hash_Sum_calls ([a0key] : List (List UInt8)) v3 r5 _ (i3.lift (Lift.sub (L' := []) (fun _ _ => trivial))) hr5) ?_); rintro _ w5 ⟨v5, rfl, x5, n5_0, o5_0⟩; refine ⟨_, rfl, ?_⟩; have o5 : OwK (Sc u8) w5 (v5 :: []) 5 v5 r5 := OwK.scal o5_0 _; replace i3 := i3.lift (Lift.call _ x5 n5_0); have n7 := Nw.ext e4 n5_0; have e6 := e4.trans x5; refine wla rfl rfl (q_assign (v := v5) rfl rfl) ?_; refine wl_nil ?_; obtain rfl := osi H1; have i8 : By w5 [] v5 r5 := OwK.slk (Sc.stab _) [] o5 (fun k hk => trivial) (show ∀ k, Av [v5] k → Av [] k from fun _ h => trivial); replace i3 := i3.lift (Lift.sub (show ∀ k, Av [v5] k → Av [] k from fun _ h => trivial)); exact ⟨v5, rfl, rfl, rfl, e6, i8⟩
    replace H1 := (if_neg (of_decide_eq_false hb2)).symm.trans H1; refine W_skip ?_; obtain rfl := osi H1; exact ⟨p0, rfl, rfl, rfl, hE, (hp0.lift (Lift.arg hE nv_nil))⟩
  rintro _ w9 ⟨v0_9, s0_9, s1_9, s29_9, hE9, i0_9⟩; refine W_th ?_; refine W_seq ?_; refine W_reg (by kernel_rfl) ?_; refine wla rfl rfl (q_move (v := v0_9) rfl s0_9) ?_; obtain ⟨r10, hr10, H⟩ := bsi H; refine wls rfl rfl (stp_call (vs := [v0_9]) Try.func46 rfl rfl rfl (ar1 rfl) (slices_Clone_sbytebyte_calls x1 v0_9 r10 _ (i0_9.lift (Lift.sub (L' := []) (fun _ _ => trivial))) hr10) ?_); rintro _ w10 ⟨v10, rfl, x10, n10_0, o10_0⟩; refine ⟨_, rfl, ?_⟩; have o10 : OwK (Sc u8) w10 (v10 :: []) 5 v10 r10 := OwK.scal o10_0 _; replace i0_9 := i0_9.lift (Lift.call _ x10 n10_0); have n12 := Nw.ext hE9 n10_0; have e11 := hE9.trans x10; refine wla rfl rfl (q_move (v := v0_9) rfl s0_9) ?_; refine wla rfl rfl (q_len rfl T22.sl rfl i0_9) ?_; refine wla rfl rfl (q_subI rfl rfl rfl) ?_; obtain ⟨c14, hc14, H⟩ := bsi H; obtain ⟨c15, hc15, H⟩ := bsi H; refine wls rfl rfl (stp_appz (R := (Sc u8)) (v := v10) (Sc.stab _) [] [] rfl T22 Try.underlying3 rfl rfl rfl o10 hc14 (fun _ _ => rfl) hc15 ?_); intro v14 w14 o14 g14 nx14 l14; replace i0_9 := i0_9.lift l14; have e16 := e11.grown g14 n12; have n17 := Nw.nxt e11 n12 nx14; refine wla rfl rfl (q_assign (v := v14) rfl rfl) ?_; refine wl_nil ?_; refine W_th ?_; refine W_seq ?_; refine W_reg (by kernel_rfl) ?_; refine wla rfl rfl (q_move (v := v14) rfl rfl) ?_; obtain ⟨r18, hr18, H⟩ := bsi H; refine wls rfl rfl (stp_call (vs := [v14, (u8 54)]) Try.func67 rfl rfl rfl (ar2 rfl (by exact (cst8 (54 : UInt8) rfl))) (seal_added_calls c15 (54 : UInt8) v14 r18 _ (o14.rd (Sc.stab _)) hr18) ?_); rintro _ w18 ⟨v18, rfl, x18, n18_0, o18_0⟩; refine ⟨_, rfl, ?_⟩; have i18_0 : By w18 [v14] v18 r18 := SlK.avail o18_0 _ (fun k hk => (Old.cons (Old.nil _) o14.lt) k (n18_0 k hk)); replace i0_9 := i0_9.lift (Lift.ext x18 _); replace o14 := o14.extL (Sc.stab _) x18 (Lift.ext x18 _); have e19 := e16.trans x18; refine wls rfl rfl (stp_lit (L := [v14]) (R := By) [v18] ([r18] : List (List UInt8)) rfl T61 rfl (by exact ⟨rfl, rfl, trivial⟩) rfl (LitR.cells (R := By) (w := w18) (L := [v14]) (l := ([r18] : List (List UInt8))) (LitR.cons i18_0 LitR.nil) (fun u x h => cells_sl u x h)) rfl (LitR.all (R := By) (w := w18) (L := [v14]) (l := ([r18] : List (List UInt8))) (SlK.stab (Sc.stab _)) (LitR.cons i18_0 LitR.nil)) ?_); intro v20 w20 o20 n20 g20 l20; have x20 := grown_ext g20; have q21 : Nq v14 v20 := o14.nq n20; replace i0_9 := i0_9.lift (Lift.call _ x20 n20); replace i18_0 := i18_0.lift (Lift.call _ x20 n20); replace o14 := o14.extL (Sc.stab _) x20 (Lift.call _ x20 n20); have n23 := Nw.ext e19 n20; have e22 := e19.trans x20; refine wla rfl rfl (q_move (v := p1) rfl s1_9) ?_; obtain ⟨c24, hc24, H⟩ := bsi H; refine wls rfl rfl (stp_append (R := By) (v := v20) (u := p1) (SlK.stab (Sc.stab _)) [] [v14] rfl T61 rfl rfl o20 (hp1.lift (Lift.arg e22 (nv_cons n23 (nv_cons n17 nv_nil)))) (fun _ _ h => h) hc24 oc_sl ?_); intro v24 w24 o24 g24 nx24 l24; replace i0_9 := i0_9.lift l24
  replace i18_0 := i18_0.lift l24; have q25 : Nq v14 v24 := o14.nxt q21 nx24; replace o14 := o14.other (Sc.stab _) g24 q21 l24; have e26 := e22.grown g24 n23; have n27 := Nw.nxt e22 n23 nx24; refine wla rfl rfl (q_assign (v := v24) rfl rfl) ?_; refine wl_nil ?_; refine W_th ?_; refine W_seq ?_; refine W_reg (by kernel_rfl) ?_; refine wla rfl rfl (q_move (v := v14) rfl rfl) ?_; obtain ⟨r28, hr28, H⟩ := bsi H; refine wls rfl rfl (stp_call (vs := [v14, (u8 92)]) Try.func67 rfl rfl rfl (ar2 rfl (by exact (cst8 (92 : UInt8) rfl))) (seal_added_calls c15 (92 : UInt8) v14 r28 _ (o14.rd (Sc.stab _)) hr28) ?_); rintro _ w28 ⟨v28, rfl, x28, n28_0, o28_0⟩; refine ⟨_, rfl, ?_⟩; have i28_0 : By w28 [v24, v14] v28 r28 := SlK.avail o28_0 _ (fun k hk => (Old.cons (Old.cons (Old.nil _) o14.lt) o24.lt) k (n28_0 k hk)); replace i0_9 := i0_9.lift (Lift.ext x28 _); replace i18_0 := i18_0.lift (Lift.ext x28 _); replace o24 := o24.extL (SlK.stab (Sc.stab _)) x28 (Lift.ext x28 _); replace o14 := o14.extL (Sc.stab _) x28 (Lift.ext x28 _); have e29 := e26.trans x28; refine wla rfl rfl (q_move (v := v24) rfl rfl) ?_; obtain ⟨r30, hr30, H⟩ := bsi H; refine wls rfl rfl (stp_call (vs := [v24]) Try.func63 rfl rfl rfl (ar1 rfl) (hash_Sum_calls c24 v24 r30 _ (o24.rd (SlK.stab (Sc.stab _))) hr30) ?_); rintro _ w30 ⟨v30, rfl, x30, n30_0, o30_0⟩; refine ⟨_, rfl, ?_⟩; have i30_0 : By w30 [v24, v14] v30 r30 := OwK.slk (Sc.stab _) _ (OwK.scal o30_0 (v30 :: [v24, v14])) (fun k hk => (Old.cons (Old.cons (Old.nil _) o14.lt) o24.lt) k (n30_0 k hk)) (fun _ h => h.2); replace i0_9 := i0_9.lift (Lift.ext x30 _); replace i18_0 := i18_0.lift (Lift.ext x30 _); replace i28_0 := i28_0.lift (Lift.ext x30 _); replace o24 := o24.extL (SlK.stab (Sc.stab _)) x30 (Lift.ext x30 _); replace o14 := o14.extL (Sc.stab _) x30 (Lift.ext x30 _); have e31 := e29.trans x30; refine wls rfl rfl (stp_lit (L := [v24, v14]) (R := By) [v28, v30] ([r28, r30] : List (List UInt8)) rfl T61 rfl (by exact ⟨rfl, rfl, rfl, rfl, trivial⟩) rfl (LitR.cells (R := By) (w := w30) (L := [v24, v14]) (l := ([r28, r30] : List (List UInt8))) (LitR.cons i28_0 (LitR.cons i30_0 LitR.nil)) (fun u x h => cells_sl u x h)) rfl (LitR.all (R := By) (w := w30) (L := [v24, v14]) (l := ([r28, r30] : List (List UInt8))) (SlK.stab (Sc.stab _)) (LitR.cons i28_0 (LitR.cons i30_0 LitR.nil))) ?_); intro v32 w32 o32 n32 g32 l32; have x32 := grown_ext g32; have i32 : Rw w32 [v24, v14] v32 (([r28, r30] : List (List UInt8))) := OwK.slk (SlK.stab (Sc.stab _)) _ o32 (fun k hk => (Old.cons (Old.cons (Old.nil _) o14.lt) o24.lt) k (n32 k hk)) (fun _ h => h.2); replace i0_9 := i0_9.lift (Lift.ext x32 _); replace i18_0 := i18_0.lift (Lift.ext x32 _); replace i28_0 := i28_0.lift (Lift.ext x32 _); replace i30_0 := i30_0.lift (Lift.ext x32 _); replace o24 := o24.extL (SlK.stab (Sc.stab _)) x32 (Lift.ext x32 _); replace o14 := o14.extL (Sc.stab _) x32 (Lift.ext x32 _); have e33 := e31.trans x32; obtain ⟨r34, hr34, H⟩ := bsi H
  refine wls rfl rfl (stp_call (vs := [v32]) Try.func63 rfl rfl rfl (ar1 rfl) (hash_Sum_calls ([r28, r30] : List (List UInt8)) v32 r34 _ (i32.lift (Lift.sub (L' := []) (fun _ _ => trivial))) hr34) ?_); rintro _ w34 ⟨v34, rfl, x34, n34_0, o34_0⟩; refine ⟨_, rfl, ?_⟩; have o34 : OwK (Sc u8) w34 (v34 :: [v24, v14]) 5 v34 r34 := OwK.scal o34_0 _; have q35 : Nq v24 v34 := o24.nq n34_0; have q36 : Nq v14 v34 := o14.nq n34_0; replace i0_9 := i0_9.lift (Lift.call _ x34 n34_0); replace i18_0 := i18_0.lift (Lift.call _ x34 n34_0); replace i28_0 := i28_0.lift (Lift.call _ x34 n34_0); replace i30_0 := i30_0.lift (Lift.call _ x34 n34_0); replace i32 := i32.lift (Lift.call _ x34 n34_0); replace o24 := o24.extL (SlK.stab (Sc.stab _)) x34 (Lift.call _ x34 n34_0); replace o14 := o14.extL (Sc.stab _) x34 (Lift.call _ x34 n34_0); have n38 := Nw.ext e33 n34_0; have e37 := e33.trans x34; refine wla rfl rfl (q_assign (v := v34) rfl rfl) ?_; refine wl_nil ?_; refine W_th ?_; refine W_ret ?_; obtain rfl := osi H; refine rt1 v34 rfl rfl rfl s29_9 ?_; exact ⟨v34, rfl, e37, n38, (o34.weak (Sc.stab _) (fun _ _ => trivial))⟩
noncomputable def ref31_Mark (a0key : List UInt8) (a1b : List UInt8) : Option (List UInt8) :=
(((if 64 < (a0key.length : Int) then
((ref07_Sum a0key).bind fun r3 => some r3)
else some a0key)).bind fun x1 =>
((iterC (fun s13 : List UInt8 × List UInt8 × Int =>
(if s13.2.2 < 64 then
(((if s13.2.2 < (x1.length : Int) then
((idx x1 s13.2.2).bind fun c18 => some c18)
else some (0 : UInt8))).bind fun x16 =>
((appL s13.1 (([(x16 ^^^ (92 : UInt8))] : List UInt8))).bind fun c22 =>
((appL s13.2.1 (([(x16 ^^^ (54 : UInt8))] : List UInt8))).bind fun c28 => some (.inl (c22, c28, (wI (s13.2.2 + 1)))))))
else some (.inr (s13.1, s13.2.1)))) (([] : List UInt8), ([] : List UInt8), 0)).bind fun x13 =>
((appL x13.2 a1b).bind fun c35 =>
((ref07_Sum c35).bind fun r39 =>
((appL x13.1 r39).bind fun c41 =>
((ref07_Sum c41).bind fun r45 => some r45))))))
set_option maxRecDepth 100000 in
set_option maxHeartbeats 8000000 in
theorem ref31_Mark_calls (a0key : List UInt8) (a1b : List UInt8) (p0 : Value) (p1 : Value) (r : List UInt8) (w0 : World) (hp0 : By w0 [] p0 a0key) (hp1 : By w0 [] p1 a1b) (H : ref31_Mark a0key a1b = some r) :
    Calls Try.prog 37 [p0, p1].toArray w0 (fun e w' => ∃ u0 : Value, e = .returned u0 ∧ Ext w0 w' ∧ Nw w0 u0 ∧ OwK (Sc u8) w' [] 5 u0 r) := by
  have hE : Ext w0 w0 := Ext.refl w0; unfold ref31_Mark at H; refine calls_W (n := 45) Try.func37 rfl rfl rfl ?_; refine W_seq ?_; refine W_reg (by kernel_rfl) ?_; refine wla rfl rfl (q_assign (v := (.slice none 0 0)) rfl rfl) ?_; refine wl_nil ?_; refine W_th ?_; refine W_seq ?_; obtain ⟨x1, H1, H⟩ := bsi H; refine W_mid (fun f w => ∃ v0_51 : Value, f 0 = v0_51 ∧ f 1 = p1 ∧ f 45 = undef ∧ Ext w0 w ∧ By w [] v0_51 x1) ?_ ?_
  · refine W_seq ?_; refine W_reg (by kernel_rfl) ?_; refine wla rfl rfl (q_move (v := p0) rfl rfl) ?_; refine wla rfl rfl (q_len rfl T22.sl rfl (hp0.lift (Lift.ext hE _))) ?_; refine wla rfl rfl (q_gtI rfl rfl rfl) ?_; refine wl_nil ?_; refine W_th ?_; refine W_cond _ rfl rfl (fun hb2 => ?_) (fun hb2 => ?_)
    · replace H1 := (if_pos (of_decide_eq_true hb2)).symm.trans H1; refine W_reg (by kernel_rfl) ?_; refine wla rfl rfl (q_move (v := p0) rfl rfl) ?_; obtain ⟨r3, hr3, H1⟩ := bsi H1; refine wls rfl rfl (stp_call (vs := [p0]) Try.func32 rfl rfl rfl (ar1 rfl) (ref07_Sum_calls a0key p0 r3 _ (hp0.lift (Lift.ext hE _)) hr3) ?_); rintro _ w3 ⟨v3, rfl, x3, n3_0, o3_0⟩; refine ⟨_, rfl, ?_⟩; have i3_0 : By w3 [] v3 r3 := OwK.slk (Sc.stab _) _ (OwK.scal o3_0 (v3 :: [])) (fun k hk => (Old.nil _) k (n3_0 k hk)) (fun _ h => h.2); have e4 := hE.trans x3; refine wla rfl rfl (q_assign (v := v3) rfl rfl) ?_; refine wl_nil ?_; obtain rfl := osi H1; exact ⟨v3, rfl, rfl, rfl, e4, i3_0⟩
    replace H1 := (if_neg (of_decide_eq_false hb2)).symm.trans H1; refine W_skip ?_; obtain rfl := osi H1; exact ⟨p0, rfl, rfl, rfl, hE, (hp0.lift (Lift.arg hE nv_nil))⟩
  rintro _ w5 ⟨v0_5, s0_5, s1_5, s45_5, hE5, i0_5⟩; refine W_th ?_; refine W_seq ?_; refine W_reg (by kernel_rfl) ?_; refine wls rfl rfl (stp_lit (L := []) (R := (Sc u8)) [] ([] : List UInt8) rfl T22 rfl (by exact trivial) rfl (litC u8 (oneC_u8) (us := []) (l := ([] : List UInt8)) rfl) rfl (litS u8 (us := []) (l := ([] : List UInt8)) rfl) ?_); intro v6 w6 o6 n6 g6 l6; have x6 := grown_ext g6; replace i0_5 := i0_5.lift (Lift.call _ x6 n6); have n8 := Nw.ext hE5 n6; have e7 := hE5.trans x6; refine wls rfl rfl (stp_lit (L := [v6]) (R := (Sc u8)) [] ([] : List UInt8) rfl T22 rfl (by exact trivial) rfl (litC u8 (oneC_u8) (us := []) (l := ([] : List UInt8)) rfl) rfl (litS u8 (us := []) (l := ([] : List UInt8)) rfl) ?_); intro v9 w9 o9 n9 g9 l9; have x9 := grown_ext g9; have q10 : Nq v6 v9 := o6.nq n9; replace i0_5 := i0_5.lift (Lift.call _ x9 n9); replace o6 := o6.extL (Sc.stab _) x9 (Lift.call _ x9 n9); have n12 := Nw.ext e7 n9; have e11 := e7.trans x9; refine wla rfl rfl (q_assign (v := v6) rfl rfl) ?_; refine wla rfl rfl (q_assign (v := v9) rfl rfl) ?_; refine wl_nil ?_; refine W_th ?_; refine W_seq ?_; refine W_seq ?_; refine W_reg (by kernel_rfl) ?_; refine wla rfl rfl (q_assign (v := (i64 0)) rfl rfl) ?_; refine wl_nil ?_; refine W_th ?_; obtain ⟨x13, G13, H⟩ := bsi H; refine W_mid (fun f w => ∃ v5_50 : Value, ∃ v6_50 : Value, f 1 = p1 ∧ f 5 = v5_50 ∧ f 6 = v6_50 ∧ f 45 = undef ∧ Ext w0 w ∧ OwK (Sc u8) w [v5_50, v6_50] 5 v5_50 x13.1 ∧ Nw w0 v5_50 ∧ OwK (Sc u8) w [v5_50, v6_50] 5 v6_50 x13.2 ∧ Nw w0 v6_50 ∧ Nq v5_50 v6_50) ?_ ?_
  · refine W_block ?_; refine W_loop (fun s13 f w => ∃ v5_33 : Value, ∃ v6_33 : Value, f 0 = v0_5 ∧ f 1 = p1 ∧ f 5 = v5_33 ∧ f 6 = v6_33 ∧ f 7 = (i64 s13.2.2) ∧ f 45 = undef ∧ Ext w0 w ∧ OwK (Sc u8) w [v5_33, v6_33] 5 v5_33 s13.1 ∧ Nw w0 v5_33 ∧ OwK (Sc u8) w [v5_33, v6_33] 5 v6_33 s13.2.1 ∧ Nw w0 v6_33 ∧ Nq v5_33 v6_33 ∧ By w [v5_33, v6_33] v0_5 x1) G13 ?_ ?_
    · exact ⟨v6, v9, s0_5, s1_5, rfl, rfl, rfl, s45_5, e11, (o6.weak (Sc.stab _) (fun _ h => ⟨h.2.1, h.1, trivial⟩)), n8, (o9.weak (Sc.stab _) (fun _ h => ⟨h.2.1, h.1, trivial⟩)), n12, q10, (i0_5.lift (Lift.sub (fun _ h => ⟨h.2.1, h.1, trivial⟩)))⟩
    rintro s13 _ _ w14 ⟨v5_14, v6_14, s0_14, s1_14, s5_14, s6_14, s7_14, s45_14, hE14, o0_14, n0_14, o1_14, n1_14, q0_1_14, i0_14⟩ H13 hr13; refine W_seq ?_; refine W_seq ?_; refine W_reg (by kernel_rfl) ?_; refine wla rfl rfl (q_move (v := (i64 s13.2.2)) rfl s7_14) ?_; refine wla rfl rfl (q_ltI rfl rfl rfl) ?_; refine wl_nil ?_; refine W_th ?_; refine W_cond _ rfl rfl (fun hb15 => ?_) (fun hb15 => ?_)
    · replace H13 := (if_pos (of_decide_eq_true hb15)).symm.trans H13; refine W_skip ?_; refine W_th ?_; refine W_seq ?_; refine W_block ?_; refine W_seq ?_; refine W_reg (by kernel_rfl) ?_; refine wla rfl rfl (q_assign (v := (u8 0)) rfl (cst8 (0 : UInt8) rfl)) ?_; refine wl_nil ?_; refine W_th ?_; refine W_seq ?_; obtain ⟨x16, H16, H13⟩ := bsi H13; refine W_mid (fun f w => f 0 = v0_5 ∧ f 1 = p1 ∧ f 5 = v5_14 ∧ f 6 = v6_14 ∧ f 7 = (i64 s13.2.2) ∧ f 8 = (u8 x16) ∧ f 45 = undef ∧ Ext w0 w ∧ OwK (Sc u8) w [v5_14, v6_14] 5 v5_14 s13.1 ∧ Nw w0 v5_14 ∧ OwK (Sc u8) w [v5_14, v6_14] 5 v6_14 s13.2.1 ∧ Nw w0 v6_14 ∧ Nq v5_14 v6_14 ∧ By w [v5_14, v6_14] v0_5 x1) ?_ ?_
      · refine W_seq ?_; refine W_reg (by kernel_rfl) ?_; refine wla rfl rfl (q_move (v := (i64 s13.2.2)) rfl s7_14) ?_; refine wla rfl rfl (q_move (v := v0_5) rfl s0_14) ?_; refine wla rfl rfl (q_len rfl T22.sl rfl i0_14) ?_; refine wla rfl rfl (q_ltI rfl rfl rfl) ?_; refine wl_nil ?_; refine W_th ?_; refine W_cond _ rfl rfl (fun hb17 => ?_) (fun hb17 => ?_)
        · replace H16 := (if_pos (of_decide_eq_true hb17)).symm.trans H16; refine W_reg (by kernel_rfl) ?_; refine wla rfl rfl (q_move (v := v0_5) rfl s0_14) ?_; refine wla rfl rfl (q_move (v := (i64 s13.2.2)) rfl s7_14) ?_; obtain ⟨c18, hc18, H16⟩ := bsi H16; refine wla rfl rfl (q_adr rfl T22 rfl rfl i0_14 hc18) ?_; refine wlq rfl rfl (q_loadS rfl T22 rfl i0_14 hc18) ?_; refine wla rfl rfl (q_assign (v := (u8 c18)) rfl rfl) ?_; refine wl_nil ?_; obtain rfl := osi H16; exact ⟨s0_14, s1_14, s5_14, s6_14, s7_14, rfl, s45_14, hE14, o0_14, n0_14, o1_14, n1_14, q0_1_14, i0_14⟩
        replace H16 := (if_neg (of_decide_eq_false hb17)).symm.trans H16; refine W_skip ?_; obtain rfl := osi H16; exact ⟨s0_14, s1_14, s5_14, s6_14, s7_14, rfl, s45_14, hE14, o0_14, n0_14, o1_14, n1_14, q0_1_14, i0_14⟩
      rintro _ w19 ⟨s0_19, s1_19, s5_19, s6_19, s7_19, s8_19, s45_19, hE19, o0_19, n0_19, o1_19, n1_19, q0_1_19, i0_19⟩; refine W_th ?_; refine W_seq ?_; refine W_reg (by kernel_rfl) ?_; refine wla rfl rfl (q_move (v := v5_14) rfl s5_19) ?_; refine wla rfl rfl (q_move (v := (u8 x16)) rfl s8_19) ?_; refine wla rfl rfl (q_xor8 rfl rfl (cst8 (92 : UInt8) rfl)) ?_; refine wls rfl rfl (stp_lit (L := [v5_14, v6_14]) (R := (Sc u8)) [(u8 ((x16 ^^^ (92 : UInt8))))] ([(x16 ^^^ (92 : UInt8))] : List UInt8) rfl T22 rfl (by exact ⟨rfl, rfl, trivial⟩) rfl (litC u8 (oneC_u8) (us := [(u8 ((x16 ^^^ (92 : UInt8))))]) (l := ([(x16 ^^^ (92 : UInt8))] : List UInt8)) rfl) rfl (litS u8 (us := [(u8 ((x16 ^^^ (92 : UInt8))))]) (l := ([(x16 ^^^ (92 : UInt8))] : List UInt8)) rfl) ?_); intro v20 w20 o20 n20 g20 l20; have x20 := grown_ext g20; have i20 : By w20 [v5_14, v6_14] v20 (([(x16 ^^^ (92 : UInt8))] : List UInt8)) := OwK.slk (Sc.stab _) _ o20 (fun k hk => (Old.cons (Old.cons (Old.nil _) o1_19.lt) o0_19.lt) k (n20 k hk)) (fun _ h => h.2); replace i0_19 := i0_19.lift (Lift.ext x20 _); replace o0_19 := o0_19.extL (Sc.stab _) x20 (Lift.ext x20 _); replace o1_19 := o1_19.extL (Sc.stab _) x20 (Lift.ext x20 _); have e21 := hE19.trans x20; obtain ⟨c22, hc22, H13⟩ := bsi H13; refine wls rfl rfl (stp_append (R := (Sc u8)) (v := v5_14) (u := v20) (Sc.stab _) [] [v6_14] rfl T22 rfl rfl o0_19 i20 (fun _ _ h => h) hc22 oc_u8 ?_); intro v22 w22 o22 g22 nx22 l22; replace i0_19 := i0_19.lift l22; replace i20 := i20.lift l22; have q23 : Nq v6_14 v22 := o1_19.nxt q0_1_19.symm nx22; replace o1_19 := o1_19.other (Sc.stab _) g22 q0_1_19.symm l22; have e24 := e21.grown g22 n0_19; have n25 := Nw.nxt e21 n0_19 nx22; refine wla rfl rfl (q_assign (v := v22) rfl rfl) ?_; refine wl_nil ?_; refine W_th ?_; refine W_reg (by kernel_rfl) ?_; refine wla rfl rfl (q_move (v := v6_14) rfl s6_19) ?_; refine wla rfl rfl (q_move (v := (u8 x16)) rfl s8_19) ?_; refine wla rfl rfl (q_xor8 rfl rfl (cst8 (54 : UInt8) rfl)) ?_; refine wls rfl rfl (stp_lit (L := [v22, v6_14]) (R := (Sc u8)) [(u8 ((x16 ^^^ (54 : UInt8))))] ([(x16 ^^^ (54 : UInt8))] : List UInt8) rfl T22 rfl (by exact ⟨rfl, rfl, trivial⟩) rfl (litC u8 (oneC_u8) (us := [(u8 ((x16 ^^^ (54 : UInt8))))]) (l := ([(x16 ^^^ (54 : UInt8))] : List UInt8)) rfl) rfl (litS u8 (us := [(u8 ((x16 ^^^ (54 : UInt8))))]) (l := ([(x16 ^^^ (54 : UInt8))] : List UInt8)) rfl) ?_); intro v26 w26 o26 n26 g26 l26; have x26 := grown_ext g26; have i26 : By w26 [v22, v6_14] v26 (([(x16 ^^^ (54 : UInt8))] : List UInt8)) := OwK.slk (Sc.stab _) _ o26 (fun k hk => (Old.cons (Old.cons (Old.nil _) o1_19.lt) o22.lt) k (n26 k hk)) (fun _ h => h.2); replace i0_19 := i0_19.lift (Lift.ext x26 _); replace i20 := i20.lift (Lift.ext x26 _); replace o22 := o22.extL (Sc.stab _) x26 (Lift.ext x26 _); replace o1_19 := o1_19.extL (Sc.stab _) x26 (Lift.ext x26 _); have e27 := e24.trans x26; obtain ⟨c28, hc28, H13⟩ := bsi H13; refine wls rfl rfl (stp_append (R := (Sc u8)) (v := v6_14) (u := v26) (Sc.stab _) [v22] [] rfl T22 rfl rfl o1_19 i26 (fun _ _ h => h) hc28 oc_u8 ?_)
      intro v28 w28 o28 g28 nx28 l28; replace i0_19 := i0_19.lift l28; replace i20 := i20.lift l28; replace i26 := i26.lift l28; have q29 : Nq v22 v28 := o22.nxt q23.symm nx28; replace o22 := o22.other (Sc.stab _) g28 q23.symm l28; have e30 := e27.grown g28 n1_19; have n31 := Nw.nxt e27 n1_19 nx28; refine wla rfl rfl (q_assign (v := v28) rfl rfl) ?_; refine wl_nil ?_; refine bk_n ?_; refine W_th ?_; refine W_reg (by kernel_rfl) ?_; refine wla rfl rfl (q_move (v := (i64 s13.2.2)) rfl s7_19) ?_; refine wla rfl rfl (q_addI rfl rfl rfl) ?_; refine wla rfl rfl (q_assign (v := (i64 ((wI (s13.2.2 + 1))))) rfl rfl) ?_; refine wl_nil ?_; obtain rfl := osi H13; exact ⟨_, rfl, v22, v28, s0_19, s1_19, rfl, rfl, rfl, s45_19, e30, o22, n25, o28, n31, q29, i0_19⟩
    replace H13 := (if_neg (of_decide_eq_false hb15)).symm.trans H13; refine W_exit ?_; refine th_x ?_; obtain rfl := osi H13; obtain rfl := hr13 _ rfl; refine th_x ?_; refine bk_x ?_; exact ⟨v5_14, v6_14, s1_14, s5_14, s6_14, s45_14, hE14, o0_14, n0_14, o1_14, n1_14, q0_1_14⟩
  rintro _ w34 ⟨v5_34, v6_34, s1_34, s5_34, s6_34, s45_34, hE34, o0_34, n0_34, o1_34, n1_34, q0_1_34⟩; refine W_th ?_; refine W_seq ?_; refine W_reg (by kernel_rfl) ?_; refine wla rfl rfl (q_move (v := v5_34) rfl s5_34) ?_; refine wla rfl rfl (q_move (v := v6_34) rfl s6_34) ?_; refine wla rfl rfl (q_move (v := p1) rfl s1_34) ?_; obtain ⟨c35, hc35, H⟩ := bsi H; refine wls rfl rfl (stp_append (R := (Sc u8)) (v := v6_34) (u := p1) (Sc.stab _) [v5_34] [] rfl T22 rfl rfl o1_34 (hp1.lift (Lift.ext hE34 _)) (fun _ _ h => h) hc35 oc_u8 ?_); intro v35 w35 o35 g35 nx35 l35; have q36 : Nq v5_34 v35 := o0_34.nxt q0_1_34 nx35; replace o0_34 := o0_34.other (Sc.stab _) g35 q0_1_34 l35; have e37 := hE34.grown g35 n1_34; have n38 := Nw.nxt hE34 n1_34 nx35; obtain ⟨r39, hr39, H⟩ := bsi H; refine wls rfl rfl (stp_call (vs := [v35]) Try.func32 rfl rfl rfl (ar1 rfl) (ref07_Sum_calls c35 v35 r39 _ (o35.rd (Sc.stab _)) hr39) ?_); rintro _ w39 ⟨v39, rfl, x39, n39_0, o39_0⟩; refine ⟨_, rfl, ?_⟩; have i39_0 : By w39 [v5_34, v35] v39 r39 := OwK.slk (Sc.stab _) _ (OwK.scal o39_0 (v39 :: [v5_34, v35])) (fun k hk => (Old.cons (Old.cons (Old.nil _) o35.lt) o0_34.lt) k (n39_0 k hk)) (fun _ h => h.2); replace o0_34 := o0_34.extL (Sc.stab _) x39 (Lift.ext x39 _); replace o35 := o35.extL (Sc.stab _) x39 (Lift.ext x39 _); have e40 := e37.trans x39; obtain ⟨c41, hc41, H⟩ := bsi H; refine wls rfl rfl (stp_append (R := (Sc u8)) (v := v5_34) (u := v39) (Sc.stab _) [] [v35] rfl T22 rfl rfl o0_34 i39_0 (fun _ _ h => h) hc41 oc_u8 ?_); intro v41 w41 o41 g41 nx41 l41; replace i39_0 := i39_0.lift l41; have q42 : Nq v35 v41 := o35.nxt q36.symm nx41; replace o35 := o35.other (Sc.stab _) g41 q36.symm l41; have e43 := e40.grown g41 n0_34; have n44 := Nw.nxt e40 n0_34 nx41; obtain ⟨r45, hr45, H⟩ := bsi H; refine wls rfl rfl (stp_call (vs := [v41]) Try.func32 rfl rfl rfl (ar1 rfl) (ref07_Sum_calls c41 v41 r45 _ (o41.rd (Sc.stab _)) hr45) ?_); rintro _ w45 ⟨v45, rfl, x45, n45_0, o45_0⟩; refine ⟨_, rfl, ?_⟩; have o45 : OwK (Sc u8) w45 (v45 :: [v41, v35]) 5 v45 r45 := OwK.scal o45_0 _; have q46 : Nq v41 v45 := o41.nq n45_0; have q47 : Nq v35 v45 := o35.nq n45_0; replace i39_0 := i39_0.lift (Lift.call _ x45 n45_0); replace o41 := o41.extL (Sc.stab _) x45 (Lift.call _ x45 n45_0); replace o35 := o35.extL (Sc.stab _) x45 (Lift.call _ x45 n45_0); have n49 := Nw.ext e43 n45_0; have e48 := e43.trans x45; refine wla rfl rfl (q_assign (v := v45) rfl rfl) ?_; refine wl_nil ?_; refine W_th ?_; refine W_ret ?_; obtain rfl := osi H; refine rt1 v45 rfl rfl rfl s45_34 ?_; exact ⟨v45, rfl, e48, n49, (o45.weak (Sc.stab _) (fun _ _ => trivial))⟩
end Gk

/- Chapter 31's marks, in plain Lean. No condition but lengths. -/
set_option linter.unusedSimpArgs false
set_option linter.unusedVariables false
namespace Gk
open Gf
def xorL (a b : List UInt8) : List UInt8 := (List.range (min a.length b.length)).map fun i => co a i ^^^ co b i
theorem word_Xor_eq (a b : List UInt8) (h : a.length ≤ most) : word_Xor a b = some (xorL a b) := by
  unfold word_Xor
  have hm := most_lt'
  rw [minI, Nat.min_comm, makeL_nat _ _ (by omega), Option.bind_some]
  have hl : (List.replicate (min b.length a.length) (0 : UInt8)).length = min b.length a.length := List.length_replicate
  refine bind_of (x := xorL a b) (iterC_count (fun i => (updB (List.replicate (min b.length a.length) 0) (fun i => co a i ^^^ co b i) i, (i : Int))) (min b.length a.length) _ (by rw [updB_zero]; rfl) ?_ ?_) rfl
  · intro i hi
    have hs := updB_succ (List.replicate (min b.length a.length) 0) (fun i => co a i ^^^ co b i) i (by omega)
    simp only [hl]
    rw [if_pos (by omega), idx_co (by omega), Option.bind_some, idx_co (by omega), Option.bind_some, idx_updB _ _ _ _ (by omega), Option.bind_some, wI_succ _ (by omega), Int.toNat_natCast, hs]
  · simp only [hl]
    rw [if_neg (by omega)]
    have := updB_end (List.replicate (min b.length a.length) 0) (fun i => co a i ^^^ co b i)
    rw [hl] at this
    rw [this, Nat.min_comm]; rfl
def xk (k : List UInt8) (x : UInt8) : List UInt8 := (List.range 64).map fun i => co k i ^^^ x
theorem xk_len (k : List UInt8) (x : UInt8) : (xk k x).length = 64 := by simp [xk]
def kk (k : List UInt8) : List UInt8 := if 64 < k.length then sha k else k
def hm (key b : List UInt8) : List UInt8 := sha (xk (kk key) 92 ++ sha (xk (kk key) 54 ++ b))
theorem hm_len (key b : List UInt8) : (hm key b).length = 32 := sha_len _
theorem co_app0 (k : List UInt8) (n i : Nat) : co (k ++ List.replicate n 0) i = co k i := by
  simp only [co, List.getD_eq_getElem?_getD, List.getElem?_append]
  by_cases h : i < k.length
  · rw [if_pos h]
  · rw [if_neg h, List.getElem?_eq_none (show k.length ≤ i by omega)]
    by_cases h2 : i - k.length < n
    · simp [h2]
    · simp [h2]
theorem co_rep (n : Nat) (x : UInt8) (i : Nat) (h : i < n) : co (List.replicate n x) i = x := by
  simp [co, List.getD_eq_getElem?_getD, h]
theorem added_eq (k : List UInt8) (x : UInt8) (h : k.length = 64) : seal_added k x = some (xk k x) := by
  have hm : (1000 : Nat) ≤ most := by decide
  unfold seal_added bytes_Repeat
  rw [if_pos ⟨rfl, rfl⟩, Option.bind_some, word_Xor_eq _ _ (by omega), Option.bind_some]
  congr 1
  unfold xorL xk
  rw [h, List.length_replicate, Nat.min_self]
  apply List.map_congr_left
  intro i hi
  rw [co_rep _ _ _ (by simpa using hi)]; rfl
theorem kk_len (k : List UInt8) : (kk k).length ≤ 64 := by
  unfold kk; split
  · rw [sha_len]; omega
  · omega
theorem Mark_eq (key : List UInt8) (parts : List (List UInt8)) (h : key.length ≤ 10000) (hp : parts.flatten.length ≤ 100000) (hl : parts.length ≤ 1000) : seal_Mark key parts = some (hm key parts.flatten) := by
  have hmo : (1000000 : Nat) ≤ most := by decide
  unfold seal_Mark
  have e1 : (if 64 < (key.length : Int) then ((hash_Sum ([key] : List (List UInt8))).bind fun r5 => some r5) else some key) = some (kk key) := by
    unfold kk
    by_cases h6 : 64 < key.length
    · rw [if_pos (by omega), if_pos h6, hash_Sum_eq [key] (by rw [List.flatten_cons, List.flatten_nil, List.append_nil]; omega) (by simp), Option.bind_some, List.flatten_cons, List.flatten_nil, List.append_nil]
    · rw [if_neg (by omega), if_neg h6]
  have hk := kk_len key
  rw [e1, Option.bind_some, Clone_eq _ (by omega), Option.bind_some, wI_of (by omega) (by omega), show (64 : Int) - ((kk key).length : Int) = ((64 - (kk key).length : Nat) : Int) by omega, makeL_nat _ _ (by omega), Option.bind_some]
  have e2 : appL (kk key) (List.replicate (64 - (kk key).length) 0) = some (kk key ++ List.replicate (64 - (kk key).length) 0) := by
    unfold appL; rw [if_pos (by simp only [List.length_replicate]; omega)]
  have hl64 : (kk key ++ List.replicate (64 - (kk key).length) (0 : UInt8)).length = 64 := by simp only [List.length_append, List.length_replicate]; omega
  have hx : ∀ x, xk (kk key ++ List.replicate (64 - (kk key).length) 0) x = xk (kk key) x := fun x => by
    unfold xk; apply List.map_congr_left; intro i _; rw [co_app0]
  rw [e2, Option.bind_some, added_eq _ _ hl64, Option.bind_some, hx]
  unfold appL
  rw [if_pos (by simp only [List.length_cons, List.length_nil]; omega), Option.bind_some, added_eq _ _ hl64, Option.bind_some, hx]
  have x1 := xk_len (kk key) 54; have x2 := xk_len (kk key) 92
  rw [hash_Sum_eq _ (by rw [List.flatten_append, List.flatten_cons, List.flatten_nil, List.append_nil, List.length_append]; omega) (by simp only [List.length_append, List.length_cons, List.length_nil]; omega), Option.bind_some,
    hash_Sum_eq _ (by rw [List.flatten_cons, List.flatten_cons, List.flatten_nil, List.append_nil, List.length_append, sha_len]; omega) (by simp), Option.bind_some]
  congr 1
  unfold hm
  simp only [List.flatten_append, List.flatten_cons, List.flatten_nil, List.append_nil]
theorem rMark_eq (key b : List UInt8) (h : key.length ≤ 10000) (hb : b.length ≤ 100000) : ref31_Mark key b = some (hm key b) := by
  have hmo : (1000000 : Nat) ≤ most := by decide
  unfold ref31_Mark
  have e1 : (if 64 < (key.length : Int) then ((ref07_Sum key).bind fun r3 => some r3) else some key) = some (kk key) := by
    unfold kk
    by_cases h6 : 64 < key.length
    · rw [if_pos (by omega), if_pos h6, ref_Sum_eq key (by omega), Option.bind_some]
    · rw [if_neg (by omega), if_neg h6]
  have hk := kk_len key
  rw [e1, Option.bind_some]
  have x1 := xk_len (kk key) 54; have x2 := xk_len (kk key) 92
  refine bind_of (x := (xk (kk key) 92, xk (kk key) 54)) (iterC_count (fun i => ((List.range i).map (fun i => co (kk key) i ^^^ 92), (List.range i).map (fun i => co (kk key) i ^^^ 54), (i : Int))) 64 _ rfl ?_ ?_) ?_
  · intro i hi
    simp only []
    rw [if_pos (by omega)]
    have e2 : (if (i : Int) < ((kk key).length : Int) then ((idx (kk key) (i : Int)).bind fun c18 => some c18) else some (0 : UInt8)) = some (co (kk key) i) := by
      by_cases h2 : i < (kk key).length
      · rw [if_pos (by omega), idx_co h2]; rfl
      · rw [if_neg (by omega)]; simp only [co]; rw [List.getD_eq_getElem?_getD, List.getElem?_eq_none (by omega)]; rfl
    rw [e2, Option.bind_some, appL_one _ _ (by simp; omega), Option.bind_some, appL_one _ _ (by simp; omega), Option.bind_some, wI_succ _ (by omega), List.range_succ, List.map_append, List.map_append]; rfl
  · rfl
  · simp only []
    unfold appL
    rw [if_pos (by omega), Option.bind_some, ref_Sum_eq _ (by simp only [List.length_append]; omega), Option.bind_some, if_pos (by rw [sha_len]; omega), Option.bind_some, ref_Sum_eq _ (by simp only [List.length_append, sha_len]; omega), Option.bind_some]; rfl
end Gk

/- Printed by gen.py: for each Go function a pure function, and that the Go code comes to it. No condition beside the equation that says what the pure function gives. -/
set_option linter.unusedVariables false
set_option linter.unusedSimpArgs false
namespace Gk
open Go Go.Proofs
noncomputable def law31_lives  : Option Bool :=
((makeL 20 (0 : UInt8)).bind fun c1 =>
((iterC (fun s4 : List UInt8 × Int =>
(if s4.2 < (c1.length : Int) then
((idx s4.1 s4.2).bind fun c7 => some (.inl ((s4.1.set (s4.2 : Int).toNat ((11 : UInt8))), (wI (s4.2 + 1)))))
else some (.inr s4.1))) (c1, 0)).bind fun x4 =>
((seal_Mark x4 ([([(72 : UInt8), (105 : UInt8), (32 : UInt8)] : List UInt8), ([(84 : UInt8), (104 : UInt8), (101 : UInt8), (114 : UInt8), (101 : UInt8)] : List UInt8)] : List (List UInt8))).bind fun r28 =>
(if (r28.length : Int) = 32 then
((idx r28 0).bind fun c31 =>
(if c31 = (176 : UInt8) then
((idx r28 1).bind fun c33 =>
(if c33 = (52 : UInt8) then
((idx r28 2).bind fun c35 =>
(if c35 = (76 : UInt8) then
((idx r28 3).bind fun c37 => some (decide (c37 = (97 : UInt8))))
else some false))
else some false))
else some false))
else some false))))
set_option maxRecDepth 100000 in
set_option maxHeartbeats 8000000 in
theorem law31_lives_calls  (r : Bool) (w0 : World) (H : law31_lives = some r) :
    Calls Try.prog 35 [].toArray w0 (fun e w' => e = .returned (.bool r) ∧ Ext w0 w') := by
  have hE : Ext w0 w0 := Ext.refl w0; unfold law31_lives at H; refine calls_W (n := 48) Try.func35 rfl rfl rfl ?_; refine W_seq ?_; refine W_reg (by kernel_rfl) ?_; refine wla rfl rfl (q_assign (v := (.bool false)) rfl rfl) ?_; refine wl_nil ?_; refine W_th ?_; refine W_seq ?_; refine W_reg (by kernel_rfl) ?_; obtain ⟨c1, hc1, H⟩ := bsi H; refine wls rfl rfl (stp_make (L := []) (R := (Sc u8)) rfl T22 rfl rfl hc1 (fun _ _ => rfl) ?_); intro v1 w1 o1 n1 g1 l1; have x1 := grown_ext g1; have n3 := Nw.ext hE n1; have e2 := hE.trans x1; refine wla rfl rfl (q_assign (v := v1) rfl rfl) ?_; refine wl_nil ?_; refine W_th ?_; refine W_seq ?_; refine W_seq ?_; refine W_reg (by kernel_rfl) ?_; refine wla rfl rfl (q_move (v := v1) rfl rfl) ?_; refine wla rfl rfl (q_len rfl T22.sl rfl (o1.rd (Sc.stab _))) ?_; refine wla rfl rfl (q_move (v := (i64 0)) rfl rfl) ?_; refine wl_nil ?_; refine W_th ?_; obtain ⟨x4, G4, H⟩ := bsi H; refine W_mid (fun f w => f 1 = v1 ∧ f 48 = undef ∧ Ext w0 w ∧ OwK (Sc u8) w [v1] 5 v1 x4 ∧ Nw w0 v1) ?_ ?_
  · refine W_block ?_; refine W_loop (fun s4 f w => f 1 = v1 ∧ f 6 = (i64 ((c1.length : Int))) ∧ f 7 = (i64 s4.2) ∧ f 48 = undef ∧ Ext w0 w ∧ OwK (Sc u8) w [v1] 5 v1 s4.1 ∧ Nw w0 v1) G4 ?_ ?_
    · exact ⟨rfl, rfl, rfl, rfl, e2, o1, n3⟩
    rintro s4 _ _ w5 ⟨s1_5, s6_5, s7_5, s48_5, hE5, o0_5, n0_5⟩ H4 hr4; refine W_seq ?_; refine W_reg (by kernel_rfl) ?_; refine wla rfl rfl (q_ltI rfl s7_5 s6_5) ?_; refine wl_nil ?_; refine W_th ?_; refine W_seq ?_; refine W_cond _ rfl rfl (fun hb6 => ?_) (fun hb6 => ?_)
    · replace H4 := (if_pos (of_decide_eq_true hb6)).symm.trans H4; refine W_skip ?_; refine W_th ?_; refine W_seq ?_; refine W_block ?_; refine W_seq ?_; refine W_reg (by kernel_rfl) ?_; refine wla rfl rfl (q_move (v := (i64 s4.2)) rfl s7_5) ?_; refine wla rfl rfl (q_assign (v := (i64 s4.2)) rfl rfl) ?_; refine wl_nil ?_; refine W_th ?_; refine W_reg (by kernel_rfl) ?_; refine wla rfl rfl (q_move (v := v1) rfl s1_5) ?_; refine wla rfl rfl (q_move (v := (i64 s4.2)) rfl rfl) ?_; obtain ⟨c7, hc7, H4⟩ := bsi H4; refine wla rfl rfl (q_adr rfl T22 rfl rfl (o0_5.rd (Sc.stab _)) hc7) ?_; refine wln rfl rfl (stp_store (R := (Sc u8)) (u := (u8 11)) (Sc.stab _) [] [] rfl T22 rfl (cst8 (11 : UInt8) rfl) o0_5 (put_of ((11 : UInt8)) hc7) rfl rfl ?_); intro w8 o8 g8 l8; have e9 := hE5.grown g8 n0_5; refine wl_nil ?_; refine bk_n ?_; refine W_th ?_; refine W_reg (by kernel_rfl) ?_; refine wla rfl rfl (q_addI rfl s7_5 rfl) ?_; refine wla rfl rfl (q_move (v := (i64 ((wI (s4.2 + 1))))) rfl rfl) ?_; refine wl_nil ?_; obtain rfl := osi H4; exact ⟨_, rfl, s1_5, s6_5, rfl, s48_5, e9, o8, n0_5⟩
    replace H4 := (if_neg (of_decide_eq_false hb6)).symm.trans H4; refine W_exit ?_; refine th_x ?_; obtain rfl := osi H4; obtain rfl := hr4 _ rfl; refine th_x ?_; refine bk_x ?_; exact ⟨s1_5, s48_5, hE5, o0_5, n0_5⟩
  rintro _ w11 ⟨s1_11, s48_11, hE11, o0_11, n0_11⟩; refine W_th ?_; refine W_seq ?_; refine W_reg (by kernel_rfl) ?_; refine wla rfl rfl (q_move (v := v1) rfl s1_11) ?_; refine wls rfl rfl (stp_lit (L := [v1]) (R := (Sc u8)) [(u8 72), (u8 105), (u8 32)] ([(72 : UInt8), (105 : UInt8), (32 : UInt8)] : List UInt8) rfl T22 rfl (by exact ⟨rfl, (cst8 (72 : UInt8) rfl), rfl, (cst8 (105 : UInt8) rfl), rfl, (cst8 (32 : UInt8) rfl), trivial⟩) rfl (litC u8 (oneC_u8) (us := [(u8 72), (u8 105), (u8 32)]) (l := ([(72 : UInt8), (105 : UInt8), (32 : UInt8)] : List UInt8)) rfl) rfl (litS u8 (us := [(u8 72), (u8 105), (u8 32)]) (l := ([(72 : UInt8), (105 : UInt8), (32 : UInt8)] : List UInt8)) rfl) ?_); intro v12 w12 o12 n12 g12 l12; have x12 := grown_ext g12; have q13 : Nq v1 v12 := o0_11.nq n12; replace o0_11 := o0_11.extL (Sc.stab _) x12 (Lift.call _ x12 n12); have n15 := Nw.ext hE11 n12; have e14 := hE11.trans x12; refine wls rfl rfl (stp_mark [] [v1] rfl Try.underlying22 Try.underlying5 rfl o12 (by simp) ?_); intro w16 hM16 g16 l16; replace o0_11 := o0_11.other (Sc.stab _) g16 q13 l16; have e17 := e14.grown g16 n15; have i18 : By w16 [v1] v12 (([(72 : UInt8), (105 : UInt8), (32 : UInt8)] : List UInt8)) := hM16 [v1] (fun k hk => ⟨(q13.symm) k hk, trivial⟩); replace o0_11 := o0_11.weak (Sc.stab _) (show ∀ k, Av [v12, v1] k → Av [v1] k from fun _ h => ⟨h.2.1, trivial⟩); refine wls rfl rfl (stp_lit (L := [v1]) (R := (Sc u8)) [(u8 84), (u8 104), (u8 101), (u8 114), (u8 101)] ([(84 : UInt8), (104 : UInt8), (101 : UInt8), (114 : UInt8), (101 : UInt8)] : List UInt8) rfl T22 rfl (by exact ⟨rfl, (cst8 (84 : UInt8) rfl), rfl, (cst8 (104 : UInt8) rfl), rfl, (cst8 (101 : UInt8) rfl), rfl, (cst8 (114 : UInt8) rfl), rfl, (cst8 (101 : UInt8) rfl), trivial⟩) rfl (litC u8 (oneC_u8) (us := [(u8 84), (u8 104), (u8 101), (u8 114), (u8 101)]) (l := ([(84 : UInt8), (104 : UInt8), (101 : UInt8), (114 : UInt8), (101 : UInt8)] : List UInt8)) rfl) rfl (litS u8 (us := [(u8 84), (u8 104), (u8 101), (u8 114), (u8 101)]) (l := ([(84 : UInt8), (104 : UInt8), (101 : UInt8), (114 : UInt8), (101 : UInt8)] : List UInt8)) rfl) ?_); intro v19 w19 o19 n19 g19 l19; have x19 := grown_ext g19; have q20 : Nq v1 v19 := o0_11.nq n19; replace i18 := i18.lift (Lift.call _ x19 n19); replace o0_11 := o0_11.extL (Sc.stab _) x19 (Lift.call _ x19 n19); have n22 := Nw.ext e17 n19; have e21 := e17.trans x19; refine wls rfl rfl (stp_mark [] [v1] rfl Try.underlying22 Try.underlying5 rfl o19 (by simp) ?_); intro w23 hM23 g23 l23; replace i18 := i18.lift l23; replace o0_11 := o0_11.other (Sc.stab _) g23 q20 l23; have e24 := e21.grown g23 n22; have i25 : By w23 [v1] v19 (([(84 : UInt8), (104 : UInt8), (101 : UInt8), (114 : UInt8), (101 : UInt8)] : List UInt8)) := hM23 [v1] (fun k hk => ⟨(q20.symm) k hk, trivial⟩); replace i18 := i18.lift (Lift.sub (show ∀ k, Av [v19, v1] k → Av [v1] k from fun _ h => ⟨h.2.1, trivial⟩)); replace o0_11 := o0_11.weak (Sc.stab _) (show ∀ k, Av [v19, v1] k → Av [v1] k from fun _ h => ⟨h.2.1, trivial⟩)
  refine wls rfl rfl (stp_lit (L := [v1]) (R := By) [v12, v19] ([([(72 : UInt8), (105 : UInt8), (32 : UInt8)] : List UInt8), ([(84 : UInt8), (104 : UInt8), (101 : UInt8), (114 : UInt8), (101 : UInt8)] : List UInt8)] : List (List UInt8)) rfl T61 rfl (by exact ⟨rfl, rfl, rfl, rfl, trivial⟩) rfl (LitR.cells (R := By) (w := w23) (L := [v1]) (l := ([([(72 : UInt8), (105 : UInt8), (32 : UInt8)] : List UInt8), ([(84 : UInt8), (104 : UInt8), (101 : UInt8), (114 : UInt8), (101 : UInt8)] : List UInt8)] : List (List UInt8))) (LitR.cons i18 (LitR.cons i25 LitR.nil)) (fun u x h => cells_sl u x h)) rfl (LitR.all (R := By) (w := w23) (L := [v1]) (l := ([([(72 : UInt8), (105 : UInt8), (32 : UInt8)] : List UInt8), ([(84 : UInt8), (104 : UInt8), (101 : UInt8), (114 : UInt8), (101 : UInt8)] : List UInt8)] : List (List UInt8))) (SlK.stab (Sc.stab _)) (LitR.cons i18 (LitR.cons i25 LitR.nil))) ?_); intro v26 w26 o26 n26 g26 l26; have x26 := grown_ext g26; have i26 : Rw w26 [v1] v26 (([([(72 : UInt8), (105 : UInt8), (32 : UInt8)] : List UInt8), ([(84 : UInt8), (104 : UInt8), (101 : UInt8), (114 : UInt8), (101 : UInt8)] : List UInt8)] : List (List UInt8))) := OwK.slk (SlK.stab (Sc.stab _)) _ o26 (fun k hk => (Old.cons (Old.nil _) o0_11.lt) k (n26 k hk)) (fun _ h => h.2); replace i18 := i18.lift (Lift.ext x26 _); replace i25 := i25.lift (Lift.ext x26 _); replace o0_11 := o0_11.extL (Sc.stab _) x26 (Lift.ext x26 _); have e27 := e24.trans x26; obtain ⟨r28, hr28, H⟩ := bsi H; refine wls rfl rfl (stp_call (vs := [v1, v26]) Try.func36 rfl rfl rfl (ar2 rfl rfl) (seal_Mark_calls x4 ([([(72 : UInt8), (105 : UInt8), (32 : UInt8)] : List UInt8), ([(84 : UInt8), (104 : UInt8), (101 : UInt8), (114 : UInt8), (101 : UInt8)] : List UInt8)] : List (List UInt8)) v1 v26 r28 _ (o0_11.rd (Sc.stab _)) (i26.lift (Lift.sub (L' := []) (fun _ _ => trivial))) hr28) ?_); rintro _ w28 ⟨v28, rfl, x28, n28_0, o28_0⟩; refine ⟨_, rfl, ?_⟩; have i28_0 : By w28 [v1] v28 r28 := OwK.slk (Sc.stab _) _ (OwK.scal o28_0 (v28 :: [v1])) (fun k hk => (Old.cons (Old.nil _) o0_11.lt) k (n28_0 k hk)) (fun _ h => h.2); replace i18 := i18.lift (Lift.ext x28 _); replace i25 := i25.lift (Lift.ext x28 _); replace i26 := i26.lift (Lift.ext x28 _); replace o0_11 := o0_11.extL (Sc.stab _) x28 (Lift.ext x28 _); have e29 := e27.trans x28; refine wla rfl rfl (q_assign (v := v28) rfl rfl) ?_; refine wl_nil ?_; refine W_th ?_; refine W_seq ?_; refine W_reg (by kernel_rfl) ?_; refine wla rfl rfl (q_move (v := v28) rfl rfl) ?_; refine wla rfl rfl (q_len rfl T22.sl rfl i28_0) ?_; refine wla rfl rfl (q_eqI rfl rfl rfl) ?_; refine wlb rfl rfl (q_move (v := (.bool ((decide ((r28.length : Int) = 32))))) rfl rfl) (fun hb30 => ?_) (fun hb30 => ?_)
  · replace H := (if_pos (of_decide_eq_true hb30)).symm.trans H; refine wla rfl rfl (q_move (v := v28) rfl rfl) ?_; obtain ⟨c31, hc31, H⟩ := bsi H; refine wla rfl rfl (q_adr rfl T22 rfl rfl i28_0 hc31) ?_; refine wlq rfl rfl (q_loadS rfl T22 rfl i28_0 hc31) ?_; refine wla rfl rfl (q_eq8 rfl rfl (cst8 (176 : UInt8) rfl)) ?_; refine wla rfl rfl (q_pick_t (v := (.bool ((decide (c31 = (176 : UInt8)))))) rfl rfl rfl) ?_; refine wlb rfl rfl (q_move (v := (.bool ((decide (c31 = (176 : UInt8)))))) rfl rfl) (fun hb32 => ?_) (fun hb32 => ?_)
    · replace H := (if_pos (of_decide_eq_true hb32)).symm.trans H; refine wla rfl rfl (q_move (v := v28) rfl rfl) ?_; obtain ⟨c33, hc33, H⟩ := bsi H; refine wla rfl rfl (q_adr rfl T22 rfl rfl i28_0 hc33) ?_; refine wlq rfl rfl (q_loadS rfl T22 rfl i28_0 hc33) ?_; refine wla rfl rfl (q_eq8 rfl rfl (cst8 (52 : UInt8) rfl)) ?_; refine wla rfl rfl (q_pick_t (v := (.bool ((decide (c33 = (52 : UInt8)))))) rfl rfl rfl) ?_; refine wlb rfl rfl (q_move (v := (.bool ((decide (c33 = (52 : UInt8)))))) rfl rfl) (fun hb34 => ?_) (fun hb34 => ?_)
      · replace H := (if_pos (of_decide_eq_true hb34)).symm.trans H; refine wla rfl rfl (q_move (v := v28) rfl rfl) ?_; obtain ⟨c35, hc35, H⟩ := bsi H; refine wla rfl rfl (q_adr rfl T22 rfl rfl i28_0 hc35) ?_; refine wlq rfl rfl (q_loadS rfl T22 rfl i28_0 hc35) ?_; refine wla rfl rfl (q_eq8 rfl rfl (cst8 (76 : UInt8) rfl)) ?_; refine wla rfl rfl (q_pick_t (v := (.bool ((decide (c35 = (76 : UInt8)))))) rfl rfl rfl) ?_; refine wlb rfl rfl (q_move (v := (.bool ((decide (c35 = (76 : UInt8)))))) rfl rfl) (fun hb36 => ?_) (fun hb36 => ?_)
        · replace H := (if_pos (of_decide_eq_true hb36)).symm.trans H; refine wla rfl rfl (q_move (v := v28) rfl rfl) ?_; obtain ⟨c37, hc37, H⟩ := bsi H; refine wla rfl rfl (q_adr rfl T22 rfl rfl i28_0 hc37) ?_; refine wlq rfl rfl (q_loadS rfl T22 rfl i28_0 hc37) ?_; refine wla rfl rfl (q_eq8 rfl rfl (cst8 (97 : UInt8) rfl)) ?_; refine wla rfl rfl (q_pick_t (v := (.bool ((decide (c37 = (97 : UInt8)))))) rfl rfl rfl) ?_; refine wla rfl rfl (q_assign (v := (.bool ((decide (c37 = (97 : UInt8)))))) rfl rfl) ?_; refine wl_nil ?_; refine W_th ?_; refine W_ret ?_; obtain rfl := osi H; refine rt1 (.bool ((decide (c37 = (97 : UInt8))))) rfl rfl rfl s48_11 ?_; exact ⟨rfl, e29⟩
        replace H := (if_neg (of_decide_eq_false hb36)).symm.trans H; refine wlk rfl rfl ?_; refine wlk rfl rfl ?_; refine wlk rfl rfl ?_; refine wlk rfl rfl ?_; refine wla rfl rfl (q_pick_f (v := (.bool false)) rfl rfl rfl) ?_; refine wla rfl rfl (q_assign (v := (.bool false)) rfl rfl) ?_; refine wl_nil ?_; refine W_th ?_; refine W_ret ?_; obtain rfl := osi H; refine rt1 (.bool false) rfl rfl rfl s48_11 ?_; exact ⟨rfl, e29⟩
      replace H := (if_neg (of_decide_eq_false hb34)).symm.trans H; refine wlk rfl rfl ?_; refine wlk rfl rfl ?_; refine wlk rfl rfl ?_; refine wlk rfl rfl ?_; refine wla rfl rfl (q_pick_f (v := (.bool false)) rfl rfl rfl) ?_; refine wla rfl rfl (q_move (v := (.bool false)) rfl rfl) ?_; refine wlk rfl rfl ?_; refine wlk rfl rfl ?_; refine wlk rfl rfl ?_; refine wlk rfl rfl ?_; refine wla rfl rfl (q_pick_f (v := (.bool false)) rfl rfl rfl) ?_; refine wla rfl rfl (q_assign (v := (.bool false)) rfl rfl) ?_; refine wl_nil ?_; refine W_th ?_; refine W_ret ?_; obtain rfl := osi H; refine rt1 (.bool false) rfl rfl rfl s48_11 ?_; exact ⟨rfl, e29⟩
    replace H := (if_neg (of_decide_eq_false hb32)).symm.trans H; refine wlk rfl rfl ?_; refine wlk rfl rfl ?_; refine wlk rfl rfl ?_; refine wlk rfl rfl ?_; refine wla rfl rfl (q_pick_f (v := (.bool false)) rfl rfl rfl) ?_; refine wla rfl rfl (q_move (v := (.bool false)) rfl rfl) ?_; refine wlk rfl rfl ?_; refine wlk rfl rfl ?_; refine wlk rfl rfl ?_; refine wlk rfl rfl ?_; refine wla rfl rfl (q_pick_f (v := (.bool false)) rfl rfl rfl) ?_; refine wla rfl rfl (q_move (v := (.bool false)) rfl rfl) ?_; refine wlk rfl rfl ?_; refine wlk rfl rfl ?_; refine wlk rfl rfl ?_; refine wlk rfl rfl ?_; refine wla rfl rfl (q_pick_f (v := (.bool false)) rfl rfl rfl) ?_; refine wla rfl rfl (q_assign (v := (.bool false)) rfl rfl) ?_; refine wl_nil ?_; refine W_th ?_; refine W_ret ?_; obtain rfl := osi H; refine rt1 (.bool false) rfl rfl rfl s48_11 ?_; exact ⟨rfl, e29⟩
  replace H := (if_neg (of_decide_eq_false hb30)).symm.trans H; refine wlk rfl rfl ?_; refine wlk rfl rfl ?_; refine wlk rfl rfl ?_; refine wlk rfl rfl ?_; refine wla rfl rfl (q_pick_f (v := (.bool false)) rfl rfl rfl) ?_; refine wla rfl rfl (q_move (v := (.bool false)) rfl rfl) ?_; refine wlk rfl rfl ?_; refine wlk rfl rfl ?_; refine wlk rfl rfl ?_; refine wlk rfl rfl ?_; refine wla rfl rfl (q_pick_f (v := (.bool false)) rfl rfl rfl) ?_; refine wla rfl rfl (q_move (v := (.bool false)) rfl rfl) ?_; refine wlk rfl rfl ?_; refine wlk rfl rfl ?_; refine wlk rfl rfl ?_; refine wlk rfl rfl ?_; refine wla rfl rfl (q_pick_f (v := (.bool false)) rfl rfl rfl) ?_; refine wla rfl rfl (q_move (v := (.bool false)) rfl rfl) ?_; refine wlk rfl rfl ?_; refine wlk rfl rfl ?_; refine wlk rfl rfl ?_; refine wlk rfl rfl ?_; refine wla rfl rfl (q_pick_f (v := (.bool false)) rfl rfl rfl) ?_; refine wla rfl rfl (q_assign (v := (.bool false)) rfl rfl) ?_; refine wl_nil ?_; refine W_th ?_; refine W_ret ?_; obtain rfl := osi H; refine rt1 (.bool false) rfl rfl rfl s48_11 ?_; exact ⟨rfl, e29⟩
end Gk

/- Chapter 31: the law SealMarks. No condition. -/
set_option linter.unusedSimpArgs false
set_option linter.unusedVariables false
namespace Gk
open Gf
theorem hm_there : hm (List.replicate 20 11) [72, 105, 32, 84, 104, 101, 114, 101] = [176, 52, 76, 97, 216, 219, 56, 83, 92, 168, 175, 206, 175, 11, 241, 43, 136, 29, 194, 0, 201, 131, 61, 167, 38, 233, 55, 108, 46, 50, 207, 247] := by decide +kernel
theorem lives31 : law31_lives = some true := by
  have hmo : (1000000 : Nat) ≤ most := by decide
  unfold law31_lives
  rw [show (20 : Int) = ((20 : Nat) : Int) by rfl, makeL_nat _ _ (by omega), Option.bind_some]
  refine bind_of (x := List.replicate 20 11) (iterC_some.2 ⟨21, by kernel_rfl⟩) ?_
  rw [Mark_eq _ _ (by simp) (by decide) (by decide), show ([[72, 105, 32], [84, 104, 101, 114, 101]] : List (List UInt8)).flatten = [72, 105, 32, 84, 104, 101, 114, 101] by rfl, hm_there]
  decide
end Gk

/- Texts made bytes; a text appended. No condition. -/
set_option linter.unusedVariables false
set_option linter.unusedSimpArgs false
namespace Gk
open Go Go.RowKit
section
variable {P : Program} {o : Oper} {f : Nat → Value} {w : World} {L : List Value}
theorem strCells_str (l : List UInt8) : Lib.strCells ⟨l.toArray⟩ = l.map u8 := rfl
theorem stp_strB {x : Operand} {s t e : TypeId} {l : List UInt8} {u : TypeDesc} (ho : o.op = .convert s t x) (hs : P.underlying s = some u) (ht : P.underlying t = some (.slice e)) (he : P.underlying e = some (.int .u8)) (hx : ev f x = str l)
    {K : Value → World → Prop} (hk : ∀ v w', (∀ L', (∀ k, Hs v k → Av L' k) → By w' L' v l) → Nw w v → Ext w w' → K v w') (hm : l.length ≤ most) : Stp P o f w K := by
  have hr := Lib.run_convert_string_bytes (P := P) w s t e ⟨l.toArray⟩ hs ht he
  have hml : most ≤ maxLen := by decide
  have hge := grownCap_ge w l.length 0 e
  have hsz : (⟨l.toArray⟩ : ByteArray).size = l.length := by simp [ByteArray.size]
  refine stp_of_run (v := .slice (some ⟨w.heap.size, 0, none⟩) (⟨l.toArray⟩ : ByteArray).size (grownCap w (⟨l.toArray⟩ : ByteArray).size 0 e)) (w' := Lib.bytesWorld w e ⟨l.toArray⟩) (by simp [execOp, ho, hx, str, hr]) (hk _ _ (fun L' ha => ?_) (Nw.mk _ _ _) ?_)
  · refine ⟨l.map u8, ⟨some ⟨w.heap.size, 0, none⟩, grownCap w (⟨l.toArray⟩ : ByteArray).size 0 e, by rw [List.length_map, hsz], by rw [List.length_map, hsz]; exact hge, fun hn => ⟨w.heap.size, 0, rfl, ha _ (.inl (oB_pos ?_)), fun i hi => ?_⟩⟩, by simp, fun i a1 a2 => by simp [Sc]⟩
    · have : 0 < (l.map u8).length := List.length_pos_iff.2 hn
      rw [List.length_map] at this; rw [hsz]; omega
    · rw [List.length_map] at hi
      have := Lib.bytesWorld_cell w e ⟨l.toArray⟩ i (by rw [hsz]; exact hi)
      rw [Nat.zero_add, this]
      simp [u8, List.getD_eq_getElem?_getD, hi]
  · exact grown_ext (w' := Lib.bytesWorld w e ⟨l.toArray⟩) ⟨rfl, rfl, rfl, by rw [Lib.bytesWorld_size]; omega, fun k hk _ => Lib.bytesWorld_at_old w e ⟨l.toArray⟩ k hk⟩
theorem run_appS {t u ty e : TypeId} {v : Value} {us : List Value} {l : List UInt8} {z : Value} (hz0 : z = u8 0) (T : TyS P t e z 1) (hu : P.underlying u = some .string) (h : Ow w e v us) (hm : us.length + l.length ≤ most) :
    ∃ v' w', (Builtin.append_ #[t, u] ty #[v, str l]).run P w = .ok v' w' ∧ Ow w' e v' (us ++ l.map u8) ∧ Gr w w' v ∧ Nx w v v' := by
  subst hz0
  obtain ⟨i, hi, i1, i2, i3⟩ := info_parts T.info
  have hsz : (⟨l.toArray⟩ : ByteArray).size = l.length := by simp [ByteArray.size]
  obtain ⟨b1, b2, b3⟩ := mem_most hm T.fit
  have hml : most ≤ 140737488355328 := by decide
  have hsc := strCells_str l
  have hst : ∀ a : Addr, (storeCells a []).run P w = .ok () w := fun a => by simp [storeCells]
  rcases h with ⟨pv, rfl, rfl⟩ | ⟨g, cap', rfl, hc0, h⟩
  · cases pv with
    | none =>
      obtain ⟨v', w', hr, ho', hg', _⟩ := Lib.run_append_own_string (P := P) w w.heap.size t u ty e i T.sl hu hi i1 i2 i3 (.slice none 0 0) 0 [] ⟨by simp, .inl ⟨rfl, rfl⟩⟩ ⟨l.toArray⟩ (by rw [hsz]; simpa using b3) (by rw [hsz]; simp at hm; omega) (Nat.le_refl _)
      rw [hsz, hsc] at ho'
      refine ⟨v', w', hr, ?_, ⟨_, hg', fun k e => by simp [Value.ownBlock] at e⟩, ?_⟩
      · rcases ho'.2 with ⟨rfl, _⟩ | ⟨g, cap, cur, rfl, _⟩
        · have h0 := ho'.1
          left
          refine ⟨none, rfl, ?_⟩
          have hln : l = [] := by
            rcases ho'.2 with ⟨_, h1⟩ | ⟨g, cap, cur, hv, _⟩
            · exact List.length_eq_zero_iff.1 (by omega)
            · cases hv
          subst hln; rfl
        · refine Ow.mk (by simp) ⟨ho'.1, ?_⟩
          rcases ho'.2 with ⟨h', _⟩ | ⟨g', cap', cur', hv, _, r⟩
          · cases h'
          · exact .inr ⟨g', cap', cur', hv, Nat.zero_le _, r⟩
      · rcases ho'.2 with ⟨rfl, _⟩ | ⟨g, cap, cur, rfl, hb, _⟩
        · intro k hk; exact absurd (hs_sl hk) (by simp [oB])
        · intro k hk
          have h1 := hs_sl hk
          right
          cases cap with
          | zero => simp [oB] at h1
          | succ cap => rw [oB_pos (Nat.succ_pos _)] at h1; cases h1; exact hb
    | some av =>
      by_cases hl0 : l = []
      · subst hl0
        refine ⟨.slice (some av) 0 0, w, ?_, .inl ⟨_, rfl, by simp⟩, Gr.refl w _, Nx.refl w _⟩
        have hf := Lib.run_firstCells_string (P := P) w 1 ⟨#[]⟩
        have hs0 : (⟨#[]⟩ : ByteArray).size = 0 := rfl
        rw [hs0] at hf
        simp [Builtin.append_, run_underlying T.sl, run_underlying hu, Go.sizeOf, typeInfo, hi, Builtin.lenOf, str, i2, hs0, hf, Lib.strCells, hst]
      · have hpos : 0 < l.length := List.length_pos_iff.2 hl0
        have hr := Lib.run_append_grow_string (P := P) w t u ty e i (u8 0) T.sl hu hi i1 av 0 0 [] (by simp) (fun j u hj => by simp at hj) ⟨l.toArray⟩ (by rw [hsz]; omega) (by rw [hsz]; simp at hm; simp only [most] at hm; omega) (by rw [i3, hsz]; exact growslice_fits (by omega) (by simpa using b1))
        rw [hsz, hsc] at hr
        refine ⟨_, _, hr, Ow.mk (by simp) ?_, Gr.of ⟨rfl, rfl, rfl, by simp, fun k hk _ => alloc_old w.drew _ k hk⟩, (Nw.mk w _ _).nx _⟩
        have hge := grownCap_ge w (0 + l.length) 0 e
        refine ⟨by simp, .inr ⟨w.heap.size, _, _, rfl, Nat.zero_le _, heap_alloc_new w.drew _, hge, grownCap_le_maxLen w _ 0 e (by simpa using b3), ?_, ?_⟩⟩
        · simp only [Array.size_append, List.size_toArray, size_zeroCells, T.cell]
          rw [Nat.zero_add] at hge
          simp; omega
        · simp only [Array.toList_append, List.append_assoc]
          simp
  · obtain ⟨cur, hg, hc, hcm, hcs, htake⟩ := row_spec h
    by_cases hroom : us.length + l.length ≤ cap'
    · have hr := Lib.run_append_room_string (P := P) w t u ty e i T.sl hu hi i2 g us.length cap' cur hg ⟨l.toArray⟩ (by rw [hsz]; exact hroom) (by rw [hsz, hcs]; omega)
      rw [hsz, hsc] at hr
      refine ⟨_, _, hr, Ow.mk (by simp) ⟨by simp, .inr ⟨g, cap', _, rfl, Nat.zero_le _, setRow_heap w g cur _ e _ hg, hroom, hcm, ?_, ?_⟩⟩,
        Gr.of ⟨rfl, rfl, rfl, by simp, fun k _ hk => setRow_other w g k _ (fun e => hk (by rw [oB_pos hc0, e]))⟩, fun k hk => .inl (.inl (by have := hs_sl hk; rw [oB_pos hc0] at *; exact this))⟩
      · simp only [List.size_toArray, List.length_append, List.length_take, List.length_drop, Array.length_toList, List.length_map]
        omega
      · rw [Nat.mul_one] at htake
        rw [htake]
        exact List.take_left' (by simp)
    · have holds : ∀ j u, us[j]? = some u → w.cell? ((⟨g, 0, none⟩ : Addr).add j) = some u := World.ownsRow.cells h (g := g) rfl
      have h63 : ((us.length + l.length : Nat) : Int) ≤ 9223372036854775807 := by simp only [most] at hm; omega
      have hr := Lib.run_append_grow_string (P := P) w t u ty e i (u8 0) T.sl hu hi i1 ⟨g, 0, none⟩ us.length cap' us (by rw [i2]; simp) holds ⟨l.toArray⟩ (by rw [hsz]; omega) (by rw [hsz]; exact h63) (by rw [i3, hsz]; exact growslice_fits (by omega) b1)
      rw [hsz, hsc] at hr
      refine ⟨_, _, hr, Ow.mk (by simp) ?_, Gr.of ⟨rfl, rfl, rfl, by simp, fun k hk _ => alloc_old w.drew _ k hk⟩, (Nw.mk w _ _).nx _⟩
      have hge := grownCap_ge w (us.length + l.length) cap' e
      refine ⟨by simp, .inr ⟨w.heap.size, _, _, rfl, Nat.zero_le _, heap_alloc_new w.drew _, hge, grownCap_le_maxLen w _ cap' e b3, ?_, ?_⟩⟩
      · simp only [Array.size_append, List.size_toArray, size_zeroCells, T.cell]
        simp; omega
      · simp only [Array.toList_append, List.append_assoc]
        rw [← List.append_assoc]
        exact List.take_left' (by simp)
theorem stp_appendS {s x : Operand} {t u e : TypeId} {z v : Value} {l m r : List UInt8} (hz0 : z = u8 0) (L1 L2 : List Value)
    (ho : o.op = .call ⟨.builtin .append, #[s, x], #[t, u]⟩) (T : TyS P t e z 1) (hu : P.underlying u = some .string) (hs : ev f s = v) (hx : ev f x = str m) (h : OwK (Sc u8) w (L1 ++ v :: L2) e v l) (hm : appL l m = some r)
    {K : Value → World → Prop} (hk : ∀ v' w', OwK (Sc u8) w' (L1 ++ v' :: L2) e v' r → Gr w w' v → Nx w v v' → Lift w w' (L1 ++ v :: L2) (L1 ++ v' :: L2) → K v' w') : Stp P o f w K := by
  obtain ⟨us, hown, hl, he⟩ := h
  obtain ⟨hmost, rfl⟩ := appL_some.1 hm
  obtain ⟨v', w', hr, h2, h3, h4⟩ := run_appS (ty := o.type) (l := m) hz0 T hu hown (by omega)
  have hlift := Lift.own L1 L2 h3 h4
  refine stp_of_run (v := v') (w' := w') ?_ (hk _ _ ⟨us ++ m.map u8, h2, by simp [hl], fun i a1 a2 => ?_⟩ h3 h4 hlift)
  · rw [exec_builtin _ ho]
    simp [builtin, hs, hx, hr]
  · by_cases hi : i < us.length
    · rw [List.getElem_append_left hi, List.getElem_append_left (by omega)]
      exact Sc.stab _ _ _ _ _ _ _ hlift (he i hi (by omega))
    · rw [List.getElem_append_right (by omega), List.getElem_append_right (by omega)]
      simp [Sc, hl]
end
end Gk

/- Parts H4, Gj, Mb, Fb, Gp, L4a, Gq, Gw, Ho, Fr, Go, I4, L4e, L4c, Mc, Md, Mp, Mv, Mz, Oa, Oc, Va, Vb, Vc, one behind the other. What is proved: said at the head of each part. No condition beside those said there. -/
import Derived.Test.YtagebkmnmpohoaaRows
import Derived.Orders
import Derived.Deep.Draws
import Derived.Laws.World
import Derived.KernelRfl
import Derived.OrdersIn
import Derived.TacticsIn
import Derived.RangeFuncCalls
import Derived.Deep.LoopGhost
import Derived.Tactics
import Derived.Sort.LoopGhostIn
import Derived.RangeFuncLeaves
import Derived.RangeFuncNested
import Derived.RangeFuncRecord
import Derived.Laws.Sem
import Derived.OwnWalk
import Derived.RangeFuncWrites
import Derived.Laws.IdiomCopy
import Derived.WalkKit
import Derived.ProofKit
import Derived.OpenShut
import Derived.ChangeOld
import Derived.Below
import Derived.Test.YtagebkmnmpohoaaProg
import Derived.MapKept
import Derived.Laws.CopyRow
import Derived.Laws.Cells
import Derived.Lib.AppendZerosOnto
import Derived.Test.YtagebkmnmpohoaaZPMatrixRules1
/- Printed by gen.py: for each Go function a pure function, and that the Go code comes to it. No condition beside the equation that says what the pure function gives. -/
set_option linter.unusedVariables false
set_option linter.unusedSimpArgs false
namespace Gk
open Go Go.Proofs
noncomputable def matrix_size (a0n : Int) : Option Bool :=
(if 1 ≤ a0n then some (decide (a0n ≤ 64))
else some false)
set_option maxRecDepth 100000 in
set_option maxHeartbeats 8000000 in
theorem matrix_size_calls (a0n : Int) (r : Bool) (w0 : World) (H : matrix_size a0n = some r) :
    Calls Try.prog 34 [(i64 a0n)].toArray w0 (fun e w' => e = .returned (.bool r) ∧ Ext w0 w') := by
  have hE : Ext w0 w0 := Ext.refl w0; unfold matrix_size at H; refine calls_W (n := 9) Try.func34 rfl rfl rfl ?_; refine W_seq ?_; refine W_reg (by kernel_rfl) ?_; refine wla rfl rfl (q_assign (v := (.bool false)) rfl rfl) ?_; refine wl_nil ?_; refine W_th ?_; refine W_seq ?_; refine W_reg (by kernel_rfl) ?_; refine wla rfl rfl (q_move (v := (i64 a0n)) rfl rfl) ?_; refine wla rfl rfl (q_geI rfl rfl rfl) ?_; refine wlb rfl rfl (q_move (v := (.bool ((decide (1 ≤ a0n))))) rfl rfl) (fun hb1 => ?_) (fun hb1 => ?_)
  · replace H := (if_pos (of_decide_eq_true hb1)).symm.trans H; refine wla rfl rfl (q_move (v := (i64 a0n)) rfl rfl) ?_; refine wla rfl rfl (q_leI rfl rfl rfl) ?_; refine wla rfl rfl (q_pick_t (v := (.bool ((decide (a0n ≤ 64))))) rfl rfl rfl) ?_; refine wla rfl rfl (q_assign (v := (.bool ((decide (a0n ≤ 64))))) rfl rfl) ?_; refine wl_nil ?_; refine W_th ?_; refine W_ret ?_; obtain rfl := osi H; refine rt1 (.bool ((decide (a0n ≤ 64)))) rfl rfl rfl rfl ?_; exact ⟨rfl, hE⟩
  replace H := (if_neg (of_decide_eq_false hb1)).symm.trans H; refine wlk rfl rfl ?_; refine wlk rfl rfl ?_; refine wla rfl rfl (q_pick_f (v := (.bool false)) rfl rfl rfl) ?_; refine wla rfl rfl (q_assign (v := (.bool false)) rfl rfl) ?_; refine wl_nil ?_; refine W_th ?_; refine W_ret ?_; obtain rfl := osi H; refine rt1 (.bool false) rfl rfl rfl rfl ?_; exact ⟨rfl, hE⟩
noncomputable def matrix_blank (a0rows : Int) (a1columns : Int) : Option (List (List UInt8)) :=
((makeL a0rows ([] : List UInt8)).bind fun c1 =>
((iterC (fun s9 : List (List UInt8) × Int =>
(if s9.2 < (c1.length : Int) then
((makeL a1columns (0 : UInt8)).bind fun c14 =>
((idx s9.1 s9.2).bind fun c19 => some (.inl ((s9.1.set (s9.2 : Int).toNat c14), (wI (s9.2 + 1))))))
else some (.inr s9.1))) (c1, 0)).bind fun x9 => some x9))
set_option maxRecDepth 100000 in
set_option maxHeartbeats 8000000 in
theorem matrix_blank_calls (a0rows : Int) (a1columns : Int) (r : List (List UInt8)) (w0 : World) (H : matrix_blank a0rows a1columns = some r) :
    Calls Try.prog 35 [(i64 a0rows), (i64 a1columns)].toArray w0 (fun e w' => ∃ u0 : Value, e = .returned u0 ∧ Ext w0 w' ∧ MxO w0 w' u0 r) := by
  have hE : Ext w0 w0 := Ext.refl w0; unfold matrix_blank at H; refine calls_W (n := 29) Try.func35 rfl rfl rfl ?_; refine W_seq ?_; refine W_reg (by kernel_rfl) ?_; refine wla rfl rfl (q_assign (v := (.pointer none)) rfl rfl) ?_; refine wl_nil ?_; refine W_th ?_; refine W_seq ?_; refine W_reg (by kernel_rfl) ?_; refine wla rfl rfl (q_move (v := (i64 a0rows)) rfl rfl) ?_; obtain ⟨c1, hc1, H⟩ := bsi H; refine wls rfl rfl (stp_makeD (e2 := 5) [] rfl T22 rfl rfl hc1 ?_); intro G2 v2 w2 o2 n2 g2 l2; have x2 := grown_ext g2; have n4 := Nw.ext hE n2; have e3 := hE.trans x2; refine wla rfl rfl (q_buildM rfl rfl (OwD.shape o2)) ?_; refine wls rfl rfl (stp_boxL (v := (.agg #[v2])) (cs := #[v2]) [G2] rfl rfl rfl ?_); intro g5 w5 o5 n5 g5r l5; have x5 := grown_ext g5r; have q6 : Nq G2 (bp g5) := o2.nq n5; replace o2 := o2.ext x5; have n8 := Nw.ext e3 n5; have e7 := e3.trans x5; refine wla rfl rfl (q_assign (v := (bp g5)) rfl rfl) ?_; refine wl_nil ?_; refine W_th ?_; refine W_seq ?_; refine W_seq ?_; refine W_reg (by kernel_rfl) ?_; refine wla rfl rfl (q_move (v := (bp g5)) rfl rfl) ?_; refine wla rfl rfl (q_nilP rfl rfl) ?_; refine wla rfl rfl (q_fldP rfl fieldAtM rfl) ?_; refine wlq rfl rfl (q_loadB (u := v2) rfl Try.isAgg22 rfl o5 rfl) ?_; refine wla rfl rfl (q_len rfl T22.sl rfl o2.rd) ?_; refine wla rfl rfl (q_move (v := (i64 0)) rfl rfl) ?_; refine wl_nil ?_; refine W_th ?_; obtain ⟨x9, G9, H⟩ := bsi H; refine W_mid (fun f w => ∃ Gbbpg5_27 : Value, f 5 = (bp g5) ∧ f 29 = undef ∧ Ext w0 w ∧ OwD w 30 5 Gbbpg5_27 v2 x9 ∧ Nw w0 Gbbpg5_27 ∧ Blk w g5 65 #[v2] ∧ Nw w0 (bp g5) ∧ Nq Gbbpg5_27 (bp g5)) ?_ ?_
  · refine W_block ?_; refine W_loop (fun s9 f w => ∃ Gbbpg5_25 : Value, f 1 = (i64 a1columns) ∧ f 5 = (bp g5) ∧ f 15 = (i64 ((c1.length : Int))) ∧ f 16 = (i64 s9.2) ∧ f 29 = undef ∧ Ext w0 w ∧ OwD w 30 5 Gbbpg5_25 v2 s9.1 ∧ Nw w0 Gbbpg5_25 ∧ Blk w g5 65 #[v2] ∧ Nw w0 (bp g5) ∧ Nq Gbbpg5_25 (bp g5)) G9 ?_ ?_
    · exact ⟨G2, rfl, rfl, rfl, rfl, rfl, e7, o2, n4, o5, n8, q6⟩
    rintro s9 _ _ w10 ⟨Gbbpg5_10, s1_10, s5_10, s15_10, s16_10, s29_10, hE10, o0_10, n0_10, o1_10, n1_10, q0_1_10⟩ H9 hr9; refine W_seq ?_; refine W_reg (by kernel_rfl) ?_; refine wla rfl rfl (q_ltI rfl s16_10 s15_10) ?_; refine wl_nil ?_; refine W_th ?_; refine W_seq ?_; refine W_cond _ rfl rfl (fun hb11 => ?_) (fun hb11 => ?_)
    · replace H9 := (if_pos (of_decide_eq_true hb11)).symm.trans H9; refine W_skip ?_; refine W_th ?_; refine W_seq ?_; refine W_block ?_; refine W_seq ?_; refine W_reg (by kernel_rfl) ?_; refine wla rfl rfl (q_move (v := (i64 s9.2)) rfl s16_10) ?_; refine wla rfl rfl (q_assign (v := (i64 s9.2)) rfl rfl) ?_; refine wl_nil ?_; refine W_th ?_; refine W_draw [3] [(0, 0), (1, 0), (2, 0), (3, 1), (4, 0), (5, 0), (6, 2), (7, 0), (8, 2)] mixed (by kernel_rfl) (by kernel_rfl) (by kernel_rfl) (by kernel_rfl) ?_; have x12 := Ext.drew w10; replace o0_10 := o0_10.ext x12; replace o1_10 := o1_10.ext x12; have e13 := hE10.trans x12; refine wsa rfl rfl rfl (q_move (v := (bp g5)) rfl s5_10) ?_; refine wsa rfl rfl rfl (q_nilP rfl rfl) ?_; refine wsa rfl rfl rfl (q_fldP rfl fieldAtM rfl) ?_; refine wsq rfl rfl rfl (q_loadB (u := v2) rfl Try.isAgg22 rfl o1_10 rfl) ?_; refine wsa rfl rfl rfl (q_move (v := (i64 s9.2)) rfl rfl) ?_; refine wsa rfl rfl rfl (q_move (v := (i64 a1columns)) rfl s1_10) ?_; obtain ⟨c14, hc14, H9⟩ := bsi H9; refine wss rfl rfl rfl (stp_make (L := [Gbbpg5_10, (bp g5)]) (R := (Sc u8)) rfl T30 rfl rfl hc14 (fun _ _ => rfl) ?_); intro v14 w14 o14 n14 g14 l14; refine ⟨grown_ext g14, ?_⟩; have x14 := grown_ext g14; have q15 : Nq Gbbpg5_10 v14 := o0_10.nq n14; have q16 : Nq (bp g5) v14 := o1_10.nq n14; replace o0_10 := o0_10.ext x14; replace o1_10 := o1_10.ext x14; have n18 := Nw.ext e13 n14; have e17 := e13.trans x14; obtain ⟨c19, hc19, H9⟩ := bsi H9; refine wsa rfl rfl rfl (q_adr rfl T22 rfl rfl o0_10.rd hc19) ?_; refine wsn rfl (by kernel_rfl) rfl rfl (stp_storeRow (x := v14) [v14] [(bp g5)] rfl T22 rfl rfl o0_10 hc19 o14 q15.symm ?_); intro G21 w20 o20 g20 hG20 l20; replace o14 := o14.other (Sc.stab _) g20 q15.symm l20; replace o1_10 := o1_10.other g20 q0_1_10.symm; have e22 := e17.grown g20 n0_10; have q23 : Nq (bp g5) G21 := OwD.relist hG20 q0_1_10.symm q16
      have n24 : Nw w0 G21 := fun k hk => (hG20 k hk).elim (n0_10 k) (n18 k)
      refine ws_nil ?_; refine bk_n ?_; refine W_th ?_; refine W_reg (by kernel_rfl) ?_; refine wla rfl rfl (q_addI rfl s16_10 rfl) ?_; refine wla rfl rfl (q_move (v := (i64 ((wI (s9.2 + 1))))) rfl rfl) ?_; refine wl_nil ?_; obtain rfl := osi H9; exact ⟨_, rfl, G21, s1_10, s5_10, s15_10, rfl, s29_10, e22, o20, n24, o1_10, n1_10, q23.symm⟩
    replace H9 := (if_neg (of_decide_eq_false hb11)).symm.trans H9; refine W_exit ?_; refine th_x ?_; obtain rfl := osi H9; obtain rfl := hr9 _ rfl; refine th_x ?_; refine bk_x ?_; exact ⟨Gbbpg5_10, s5_10, s29_10, hE10, o0_10, n0_10, o1_10, n1_10, q0_1_10⟩
  rintro _ w26 ⟨Gbbpg5_26, s5_26, s29_26, hE26, o0_26, n0_26, o1_26, n1_26, q0_1_26⟩; refine W_th ?_; refine W_seq ?_; refine W_reg (by kernel_rfl) ?_; refine wla rfl rfl (q_move (v := (bp g5)) rfl s5_26) ?_; refine wla rfl rfl (q_assign (v := (bp g5)) rfl rfl) ?_; refine wl_nil ?_; refine W_th ?_; refine W_ret ?_; obtain rfl := osi H; refine rt1 (bp g5) rfl rfl rfl s29_26 ?_; exact ⟨(bp g5), rfl, hE26, ⟨_, _, _, rfl, n1_26, o1_26, n0_26, o0_26, q0_1_26.symm⟩⟩
noncomputable def matrix_New (a0rows : List (List UInt8)) : Option (Option (List (List UInt8)) × Int) :=
((matrix_size (a0rows.length : Int)).bind fun r1 =>
(if (!r1) = true then some ((none : Option (List (List UInt8))), 2)
else
((idx a0rows 0).bind fun c4 =>
((matrix_size (c4.length : Int)).bind fun r6 =>
(if (!r6) = true then some ((none : Option (List (List UInt8))), 2)
else
((idx a0rows 0).bind fun c9 =>
((matrix_blank (a0rows.length : Int) (c9.length : Int)).bind fun r11 =>
((iterC (fun s15 : List (List UInt8) × Int =>
(if s15.2 < (a0rows.length : Int) then
((idx a0rows s15.2).bind fun c18 =>
((idx a0rows 0).bind fun c20 =>
(if (c18.length : Int) = (c20.length : Int) then
((idx s15.1 s15.2).bind fun c23 => some (.inl ((s15.1.set (s15.2 : Int).toNat (copyL c23 0 c18)), (wI (s15.2 + 1)))))
else some (.inr (.inr ((none : Option (List (List UInt8))), 1))))))
else some (.inr (.inl s15.1)))) (r11, 0)).bind (Sum.elim (fun y15 => some ((some y15), 0)) (fun q15 => some q15))))))))))
set_option maxRecDepth 100000 in
set_option maxHeartbeats 8000000 in
theorem matrix_New_calls (a0rows : List (List UInt8)) (p0 : Value) (r : Option (List (List UInt8)) × Int) (w0 : World) (L0 : List Value) (hL0 : Old w0 L0) (hp0 : Rw w0 [] p0 a0rows) (H : matrix_New a0rows = some r) :
    Calls Try.prog 11 [p0].toArray w0 (fun e w' => ∃ u0 : Value, e = .returned (.tuple #[u0, (i64 r.2)]) ∧ Ext w0 w' ∧ Mx w' L0 u0 r.1) := by
  have hE : Ext w0 w0 := Ext.refl w0; unfold matrix_New at H; refine calls_W (n := 51) Try.func11 rfl rfl rfl ?_; refine W_seq ?_; refine W_reg (by kernel_rfl) ?_; refine wla rfl rfl (q_assign (v := (.pointer none)) rfl rfl) ?_; refine wla rfl rfl (q_assign (v := (i64 0)) rfl rfl) ?_; refine wl_nil ?_; refine W_th ?_; refine W_seq ?_; refine W_seq ?_; refine W_reg (by kernel_rfl) ?_; refine wla rfl rfl (q_move (v := p0) rfl rfl) ?_; refine wla rfl rfl (q_len rfl T22.sl rfl (hp0.lift (Lift.ext hE _))) ?_; obtain ⟨r1, hr1, H⟩ := bsi H; refine wls rfl rfl (stp_call (vs := [(i64 ((a0rows.length : Int)))]) Try.func34 rfl rfl rfl (ar1 rfl) (matrix_size_calls (a0rows.length : Int)  r1 _  hr1) ?_); rintro _ w1 ⟨rfl, x1⟩; refine ⟨_, rfl, ?_⟩; have e2 := hE.trans x1; refine wla rfl rfl (q_not rfl rfl) ?_; refine wlb rfl rfl (q_move (v := (.bool ((!r1)))) rfl rfl) (fun hb3 => ?_) (fun hb3 => ?_)
  · replace H := (if_pos hb3).symm.trans H; refine wlk rfl rfl ?_; refine wlk rfl rfl ?_; refine wlk rfl rfl ?_; refine wlk rfl rfl ?_; refine wlk rfl rfl ?_; refine wlk rfl rfl ?_; refine wla rfl rfl (q_pick_t (v := (.bool true)) rfl rfl rfl) ?_; refine wl_nil ?_; refine W_th ?_; refine W_cond true rfl rfl (fun _ => ?_) (fun hb => by cases hb); refine W_seq ?_; refine W_reg (by kernel_rfl) ?_; refine wla rfl rfl (q_assign (v := (.pointer none)) rfl rfl) ?_; refine wla rfl rfl (q_assign (v := (i64 2)) rfl rfl) ?_; refine wl_nil ?_; refine W_th ?_; refine W_ret ?_; refine th_r ?_; obtain rfl := osi H; refine rt2 (.pointer none) (i64 2) rfl rfl rfl rfl rfl rfl ?_; exact ⟨(.pointer none), rfl, e2, (Mx.nil _ _)⟩
  replace H := (if_neg (ne_true_of_eq_false hb3)).symm.trans H; refine wla rfl rfl (q_move (v := p0) rfl rfl) ?_; obtain ⟨c4, hc4, H⟩ := bsi H; refine wla rfl rfl (q_adr rfl T22 rfl rfl (hp0.lift (Lift.ext e2 _)) hc4) ?_; refine wlq_load rfl rfl rfl T22 rfl hp0 hc4 e2 (fun v5 ha5 => ?_); refine wla rfl rfl (q_len rfl T30.sl rfl (ha5.lift (Lift.ext e2 _))) ?_; obtain ⟨r6, hr6, H⟩ := bsi H; refine wls rfl rfl (stp_call (vs := [(i64 ((c4.length : Int)))]) Try.func34 rfl rfl rfl (ar1 rfl) (matrix_size_calls (c4.length : Int)  r6 _  hr6) ?_); rintro _ w6 ⟨rfl, x6⟩; refine ⟨_, rfl, ?_⟩; have e7 := e2.trans x6; refine wla rfl rfl (q_not rfl rfl) ?_; refine wla rfl rfl (q_pick_f (v := (.bool ((!r6)))) rfl rfl rfl) ?_; refine wl_nil ?_; refine W_th ?_; refine W_cond _ rfl rfl (fun hb8 => ?_) (fun hb8 => ?_)
  · replace H := (if_pos hb8).symm.trans H; refine W_seq ?_; refine W_reg (by kernel_rfl) ?_; refine wla rfl rfl (q_assign (v := (.pointer none)) rfl rfl) ?_; refine wla rfl rfl (q_assign (v := (i64 2)) rfl rfl) ?_; refine wl_nil ?_; refine W_th ?_; refine W_ret ?_; refine th_r ?_; obtain rfl := osi H; refine rt2 (.pointer none) (i64 2) rfl rfl rfl rfl rfl rfl ?_; exact ⟨(.pointer none), rfl, e7, (Mx.nil _ _)⟩
  replace H := (if_neg (ne_true_of_eq_false hb8)).symm.trans H; refine W_skip ?_; refine W_th ?_; refine W_seq ?_; refine W_reg (by kernel_rfl) ?_; refine wla rfl rfl (q_move (v := p0) rfl rfl) ?_; refine wla rfl rfl (q_len rfl T22.sl rfl (hp0.lift (Lift.ext e7 _))) ?_; refine wla rfl rfl (q_move (v := p0) rfl rfl) ?_; obtain ⟨c9, hc9, H⟩ := bsi H; refine wla rfl rfl (q_adr rfl T22 rfl rfl (hp0.lift (Lift.ext e7 _)) hc9) ?_; refine wlq_load rfl rfl rfl T22 rfl hp0 hc9 e7 (fun v10 ha10 => ?_); refine wla rfl rfl (q_len rfl T30.sl rfl (ha10.lift (Lift.ext e7 _))) ?_; obtain ⟨r11, hr11, H⟩ := bsi H; refine wls rfl rfl (stp_call (vs := [(i64 ((a0rows.length : Int))), (i64 ((c9.length : Int)))]) Try.func35 rfl rfl rfl (ar2 rfl rfl) (matrix_blank_calls (a0rows.length : Int) (c9.length : Int)  r11 _  hr11) ?_); rintro _ w11 ⟨v11, rfl, x11, i11_0⟩; refine ⟨_, rfl, ?_⟩; obtain ⟨g11, uv11, G11, rfl, nB11, hB11, nG11, hD11, hq11⟩ := i11_0; have n12 := Nw.ext e7 nB11; have n13 := Nw.ext e7 nG11; have e14 := e7.trans x11; refine wla rfl rfl (q_assign (v := (bp g11)) rfl rfl) ?_; refine wl_nil ?_; refine W_th ?_; refine W_seq ?_; refine W_seq ?_; refine W_reg (by kernel_rfl) ?_; refine wla rfl rfl (q_move (v := p0) rfl rfl) ?_; refine wla rfl rfl (q_len rfl T22.sl rfl (hp0.lift (Lift.ext e14 _))) ?_; refine wla rfl rfl (q_move (v := (i64 0)) rfl rfl) ?_; refine wl_nil ?_; refine W_th ?_; obtain ⟨x15, G15, H⟩ := bsi H; refine W_mid (fun f w => ∃ y15, x15 = .inl y15 ∧ ∃ Gbbpg11_30 : Value, f 4 = (bp g11) ∧ f 51 = undef ∧ Ext w0 w ∧ OwD w 30 5 Gbbpg11_30 uv11 y15 ∧ Nw w0 Gbbpg11_30 ∧ Blk w g11 65 #[uv11] ∧ Nw w0 (bp g11) ∧ Nq Gbbpg11_30 (bp g11)) ?_ ?_
  · refine W_block ?_; refine W_loop (fun s15 f w => ∃ Gbbpg11_28 : Value, f 0 = p0 ∧ f 4 = (bp g11) ∧ f 26 = p0 ∧ f 27 = (i64 ((a0rows.length : Int))) ∧ f 28 = (i64 s15.2) ∧ f 51 = undef ∧ Ext w0 w ∧ OwD w 30 5 Gbbpg11_28 uv11 s15.1 ∧ Nw w0 Gbbpg11_28 ∧ Blk w g11 65 #[uv11] ∧ Nw w0 (bp g11) ∧ Nq Gbbpg11_28 (bp g11)) G15 ?_ ?_
    · exact ⟨G11, rfl, rfl, rfl, rfl, rfl, rfl, e14, hD11, n13, hB11, n12, hq11.symm⟩
    rintro s15 _ _ w16 ⟨Gbbpg11_16, s0_16, s4_16, s26_16, s27_16, s28_16, s51_16, hE16, o0_16, n0_16, o1_16, n1_16, q0_1_16⟩ H15 hr15; refine W_seq ?_; refine W_reg (by kernel_rfl) ?_; refine wla rfl rfl (q_ltI rfl s28_16 s27_16) ?_; refine wl_nil ?_; refine W_th ?_; refine W_seq ?_; refine W_cond _ rfl rfl (fun hb17 => ?_) (fun hb17 => ?_)
    · replace H15 := (if_pos (of_decide_eq_true hb17)).symm.trans H15; refine W_skip ?_; refine W_th ?_; refine W_seq ?_; refine W_block ?_; refine W_seq ?_; refine W_reg (by kernel_rfl) ?_; refine wla rfl rfl (q_move (v := (i64 s15.2)) rfl s28_16) ?_; obtain ⟨c18, hc18, H15⟩ := bsi H15; refine wla rfl rfl (q_adr rfl T22 s26_16 s28_16 (hp0.lift (Lift.ext hE16 _)) hc18) ?_; refine wlq_load rfl rfl rfl T22 rfl hp0 hc18 hE16 (fun v19 ha19 => ?_); refine wla rfl rfl (q_assign (v := (i64 s15.2)) rfl rfl) ?_; refine wla rfl rfl (q_assign (v := v19) rfl rfl) ?_; refine wl_nil ?_; refine W_th ?_; refine W_seq ?_; refine W_seq ?_; refine W_reg (by kernel_rfl) ?_; refine wla rfl rfl (q_move (v := v19) rfl rfl) ?_; refine wla rfl rfl (q_len rfl T30.sl rfl (ha19.lift (Lift.ext hE16 _))) ?_; refine wla rfl rfl (q_move (v := p0) rfl s0_16) ?_; obtain ⟨c20, hc20, H15⟩ := bsi H15; refine wla rfl rfl (q_adr rfl T22 rfl rfl (hp0.lift (Lift.ext hE16 _)) hc20) ?_; refine wlq_load rfl rfl rfl T22 rfl hp0 hc20 hE16 (fun v21 ha21 => ?_); refine wla rfl rfl (q_len rfl T30.sl rfl (ha21.lift (Lift.ext hE16 _))) ?_; refine wla rfl rfl (q_neI rfl rfl rfl) ?_; refine wl_nil ?_; refine W_th ?_; refine W_cond _ rfl rfl (fun hb22 => ?_) (fun hb22 => ?_)
      · replace H15 := (if_neg (ndec_t hb22)).symm.trans H15; refine W_seq ?_; refine W_reg (by kernel_rfl) ?_; refine wla rfl rfl (q_assign (v := (.pointer none)) rfl rfl) ?_; refine wla rfl rfl (q_assign (v := (i64 1)) rfl rfl) ?_; refine wl_nil ?_; refine W_th ?_; refine W_ret ?_; refine th_r ?_; refine bk_r ?_; refine th_r ?_; obtain rfl := osi H15; obtain rfl := hr15 _ rfl; simp only [Sum.elim_inr] at H; refine th_r ?_; refine bk_r ?_; refine th_r ?_; refine th_r ?_; obtain rfl := osi H; refine rt2 (.pointer none) (i64 1) rfl rfl rfl rfl rfl s51_16 ?_; exact ⟨(.pointer none), rfl, hE16, (Mx.nil _ _)⟩
      replace H15 := (if_pos (ndec_f hb22)).symm.trans H15; refine W_skip ?_; refine W_th ?_; refine W_reg (by kernel_rfl) ?_; refine wla rfl rfl (q_move (v := (bp g11)) rfl s4_16) ?_; refine wla rfl rfl (q_nilP rfl rfl) ?_; refine wla rfl rfl (q_fldP rfl fieldAtM rfl) ?_; refine wlq rfl rfl (q_loadB (u := uv11) rfl Try.isAgg22 rfl o1_16 rfl) ?_; refine wla rfl rfl (q_move (v := (i64 s15.2)) rfl rfl) ?_; obtain ⟨c23, hc23, H15⟩ := bsi H15; refine wla rfl rfl (q_adr rfl T22 rfl rfl o0_16.rd hc23) ?_; refine wlq_loadD rfl rfl rfl T22 rfl o0_16 hc23 (fun v24 hD24 => ?_); refine wla rfl rfl (q_move (v := v19) rfl rfl) ?_; refine wls rfl rfl (stp_copyD (off := 0) (dv := v24) (s := v19) [] ((bp g11) :: L0) rfl T30 rfl rfl o0_16 hD24 hc23 (drow_whole o0_16 hD24 hc23) (by decide) (Int.natCast_nonneg _) (ha19.lift (Lift.ext hE16 _)) ?_); intro w26 o26 g26 l26; replace o1_16 := o1_16.other g26 q0_1_16.symm; have e27 := hE16.grown g26 n0_16; refine wl_nil ?_; refine bk_n ?_; refine W_th ?_; refine W_reg (by kernel_rfl) ?_; refine wla rfl rfl (q_addI rfl s28_16 rfl) ?_; refine wla rfl rfl (q_move (v := (i64 ((wI (s15.2 + 1))))) rfl rfl) ?_; refine wl_nil ?_; obtain rfl := osi H15; exact ⟨_, rfl, Gbbpg11_16, s0_16, s4_16, s26_16, s27_16, rfl, s51_16, e27, o26, n0_16, o1_16, n1_16, q0_1_16⟩
    replace H15 := (if_neg (of_decide_eq_false hb17)).symm.trans H15; refine W_exit ?_; refine th_x ?_; obtain rfl := osi H15; obtain rfl := hr15 _ rfl; refine th_x ?_; refine bk_x ?_; exact ⟨_, rfl, Gbbpg11_16, s4_16, s51_16, hE16, o0_16, n0_16, o1_16, n1_16, q0_1_16⟩
  rintro _ w29 ⟨y15, rfl, Gbbpg11_29, s4_29, s51_29, hE29, o0_29, n0_29, o1_29, n1_29, q0_1_29⟩; simp only [Sum.elim_inl] at H; refine W_th ?_; refine W_seq ?_; refine W_reg (by kernel_rfl) ?_; refine wla rfl rfl (q_move (v := (bp g11)) rfl s4_29) ?_; refine wla rfl rfl (q_assign (v := (bp g11)) rfl rfl) ?_; refine wla rfl rfl (q_assign (v := (i64 0)) rfl rfl) ?_; refine wl_nil ?_; refine W_th ?_; refine W_ret ?_; obtain rfl := osi H; refine rt2 (bp g11) (i64 0) rfl rfl rfl rfl rfl s51_29 ?_; exact ⟨(bp g11), rfl, hE29, (Mx.mk o1_29 (hL0 _ (n1_29 _ (hs_bp' _))) (o0_29.rw L0 (fun k hk => hL0 k (n0_29 k hk))))⟩
noncomputable def matrix_Size (a0m : Option (List (List UInt8))) : Option (Int × Int) :=
(if a0m.isNone = true then some (0, 0)
else
((a0m).bind fun c4 =>
((idx c4 0).bind fun c5 => some ((c4.length : Int), (c5.length : Int)))))
set_option maxRecDepth 100000 in
set_option maxHeartbeats 8000000 in
theorem matrix_Size_calls (a0m : Option (List (List UInt8))) (p0 : Value) (r : Int × Int) (w0 : World) (hp0 : Mx w0 [] p0 a0m) (H : matrix_Size a0m = some r) :
    Calls Try.prog 12 [p0].toArray w0 (fun e w' => e = .returned (.tuple #[(i64 r.1), (i64 r.2)]) ∧ Ext w0 w') := by
  have hE : Ext w0 w0 := Ext.refl w0; unfold matrix_Size at H; refine calls_W (n := 18) Try.func12 rfl rfl rfl ?_; refine W_seq ?_; refine W_reg (by kernel_rfl) ?_; refine wla rfl rfl (q_assign (v := (i64 0)) rfl rfl) ?_; refine wla rfl rfl (q_assign (v := (i64 0)) rfl rfl) ?_; refine wl_nil ?_; refine W_th ?_; refine W_seq ?_; refine W_seq ?_; refine W_reg (by kernel_rfl) ?_; refine wla rfl rfl (q_move (v := p0) rfl rfl) ?_; refine wla rfl rfl (q_eqM rfl rfl rfl rfl (hp0.lift (Lift.ext hE _))) ?_; refine wl_nil ?_; refine W_th ?_; refine W_cond _ rfl rfl (fun hb1 => ?_) (fun hb1 => ?_)
  · replace H := (if_pos hb1).symm.trans H; refine W_seq ?_; refine W_reg (by kernel_rfl) ?_; refine wla rfl rfl (q_assign (v := (i64 0)) rfl rfl) ?_; refine wla rfl rfl (q_assign (v := (i64 0)) rfl rfl) ?_; refine wl_nil ?_; refine W_th ?_; refine W_ret ?_; refine th_r ?_; obtain rfl := osi H; refine rt2 (i64 0) (i64 0) rfl rfl rfl rfl rfl rfl ?_; exact ⟨rfl, hE⟩
  replace H := (if_neg (ne_true_of_eq_false hb1)).symm.trans H; refine W_skip ?_; refine W_th ?_; refine W_seq ?_; refine W_draw [3, 8, 10] [(0, 0), (1, 0), (2, 0), (3, 1), (4, 0), (5, 0), (6, 0), (7, 0), (8, 1), (9, 0), (10, 1), (11, 0), (12, 0), (13, 0)] mixed (by kernel_rfl) (by kernel_rfl) (by kernel_rfl) (by kernel_rfl) ?_; have x2 := Ext.drew w0; have e3 := hE.trans x2; refine wsa rfl rfl rfl (q_move (v := p0) rfl rfl) ?_; obtain ⟨c4, hc4, H⟩ := bsi H; obtain ⟨g4, uv4, hv4, hB4, hR4⟩ := MxT.some hp0 hc4; refine wsa rfl rfl rfl (q_nilP (g := g4) (m := 0) rfl (Eq.trans rfl hv4)) ?_; refine wsa rfl rfl rfl (q_fldP rfl fieldAtM rfl) ?_; refine wsq rfl rfl rfl (q_loadB (u := uv4) rfl Try.isAgg22 rfl (hB4.ext e3) rfl) ?_; refine wsa rfl rfl rfl (q_len rfl T22.sl rfl (hR4.lift (Lift.ext e3 _))) ?_; refine wsa rfl rfl rfl (q_move (v := p0) rfl rfl) ?_; refine wsa rfl rfl rfl (q_nilP (g := g4) (m := 0) rfl (Eq.trans rfl hv4)) ?_; refine wsa rfl rfl rfl (q_fldP rfl fieldAtM rfl) ?_; refine wsq rfl rfl rfl (q_loadB (u := uv4) rfl Try.isAgg22 rfl (hB4.ext e3) rfl) ?_; obtain ⟨c5, hc5, H⟩ := bsi H; refine wsa rfl rfl rfl (q_adr rfl T22 rfl rfl (hR4.lift (Lift.ext e3 _)) hc5) ?_; refine wsq_load rfl rfl rfl rfl T22 rfl hR4 hc5 e3 (fun v6 ha6 => ?_); refine wsa rfl rfl rfl (q_len rfl T30.sl rfl (ha6.lift (Lift.ext e3 _))) ?_; refine wsa rfl rfl rfl (q_assign (v := (i64 ((c4.length : Int)))) rfl rfl) ?_; refine wsa rfl rfl rfl (q_assign (v := (i64 ((c5.length : Int)))) rfl rfl) ?_; refine ws_nil ?_; refine W_th ?_; refine W_ret ?_; obtain rfl := osi H; refine rt2 (i64 ((c4.length : Int))) (i64 ((c5.length : Int))) rfl rfl rfl rfl rfl rfl ?_; exact ⟨rfl, e3⟩
noncomputable def matrix_Row (a0m : Option (List (List UInt8))) (a1i : Int) : Option (List UInt8) :=
(if a0m.isNone = true then some ([] : List UInt8)
else
(if a1i < 0 then some ([] : List UInt8)
else
((a0m).bind fun c3 =>
(if (c3.length : Int) ≤ a1i then some ([] : List UInt8)
else
((idx c3 a1i).bind fun c5 =>
((slices_Clone_sbytebyte c5).bind fun r7 => some r7))))))
set_option maxRecDepth 100000 in
set_option maxHeartbeats 8000000 in
theorem matrix_Row_calls (a0m : Option (List (List UInt8))) (a1i : Int) (p0 : Value) (r : List UInt8) (w0 : World) (hp0 : Mx w0 [] p0 a0m) (H : matrix_Row a0m a1i = some r) :
    Calls Try.prog 16 [p0, (i64 a1i)].toArray w0 (fun e w' => ∃ u0 : Value, e = .returned u0 ∧ Ext w0 w' ∧ Nw w0 u0 ∧ OwK (Sc u8) w' [] 5 u0 r) := by
  have hE : Ext w0 w0 := Ext.refl w0; unfold matrix_Row at H; refine calls_W (n := 28) Try.func16 rfl rfl rfl ?_; refine W_seq ?_; refine W_reg (by kernel_rfl) ?_; refine wla rfl rfl (q_assign (v := (.slice none 0 0)) rfl rfl) ?_; refine wl_nil ?_; refine W_th ?_; refine W_seq ?_; refine W_seq ?_; refine W_reg (by kernel_rfl) ?_; refine wla rfl rfl (q_move (v := p0) rfl rfl) ?_; refine wla rfl rfl (q_eqM rfl rfl rfl rfl (hp0.lift (Lift.ext hE _))) ?_; refine wlb rfl rfl (q_move (v := (.bool a0m.isNone)) rfl rfl) (fun hb1 => ?_) (fun hb1 => ?_)
  · replace H := (if_pos hb1).symm.trans H; refine wlk rfl rfl ?_; refine wlk rfl rfl ?_; refine wla rfl rfl (q_pick_t (v := (.bool true)) rfl rfl rfl) ?_; refine wla rfl rfl (q_move (v := (.bool true)) rfl rfl) ?_; refine wlk rfl rfl ?_; refine wlk rfl rfl ?_; refine wlk rfl rfl ?_; refine wlk rfl rfl ?_; refine wlk rfl rfl ?_; refine wlk rfl rfl ?_; refine wlk rfl rfl ?_; refine wla rfl rfl (q_pick_t (v := (.bool true)) rfl rfl rfl) ?_; refine wl_nil ?_; refine W_th ?_; refine W_cond true rfl rfl (fun _ => ?_) (fun hb => by cases hb); refine W_seq ?_; refine W_reg (by kernel_rfl) ?_; refine wla rfl rfl (q_assign (v := (.slice none 0 0)) rfl rfl) ?_; refine wl_nil ?_; refine W_th ?_; refine W_ret ?_; refine th_r ?_; obtain rfl := osi H; refine rt1 (.slice none 0 0) rfl rfl rfl rfl ?_; exact ⟨(.slice none 0 0), rfl, hE, Nw.nil _, (OwK.nil _ _ _ _)⟩
  replace H := (if_neg (ne_true_of_eq_false hb1)).symm.trans H; refine wla rfl rfl (q_move (v := (i64 a1i)) rfl rfl) ?_; refine wla rfl rfl (q_ltI rfl rfl rfl) ?_; refine wla rfl rfl (q_pick_f (v := (.bool ((decide (a1i < 0))))) rfl rfl rfl) ?_; refine wlb rfl rfl (q_move (v := (.bool ((decide (a1i < 0))))) rfl rfl) (fun hb2 => ?_) (fun hb2 => ?_)
  · replace H := (if_pos (of_decide_eq_true hb2)).symm.trans H; refine wlk rfl rfl ?_; refine wlk rfl rfl ?_; refine wlk rfl rfl ?_; refine wlk rfl rfl ?_; refine wlk rfl rfl ?_; refine wlk rfl rfl ?_; refine wlk rfl rfl ?_; refine wla rfl rfl (q_pick_t (v := (.bool true)) rfl rfl rfl) ?_; refine wl_nil ?_; refine W_th ?_; refine W_cond true rfl rfl (fun _ => ?_) (fun hb => by cases hb); refine W_seq ?_; refine W_reg (by kernel_rfl) ?_; refine wla rfl rfl (q_assign (v := (.slice none 0 0)) rfl rfl) ?_; refine wl_nil ?_; refine W_th ?_; refine W_ret ?_; refine th_r ?_; obtain rfl := osi H; refine rt1 (.slice none 0 0) rfl rfl rfl rfl ?_; exact ⟨(.slice none 0 0), rfl, hE, Nw.nil _, (OwK.nil _ _ _ _)⟩
  replace H := (if_neg (of_decide_eq_false hb2)).symm.trans H; refine wla rfl rfl (q_move (v := (i64 a1i)) rfl rfl) ?_; refine wla rfl rfl (q_move (v := p0) rfl rfl) ?_; obtain ⟨c3, hc3, H⟩ := bsi H; obtain ⟨g3, uv3, hv3, hB3, hR3⟩ := MxT.some hp0 hc3; refine wla rfl rfl (q_nilP (g := g3) (m := 0) rfl (Eq.trans rfl hv3)) ?_; refine wla rfl rfl (q_fldP rfl fieldAtM rfl) ?_; refine wlq rfl rfl (q_loadB (u := uv3) rfl Try.isAgg22 rfl (hB3.ext hE) rfl) ?_; refine wla rfl rfl (q_len rfl T22.sl rfl (hR3.lift (Lift.ext hE _))) ?_; refine wla rfl rfl (q_geI rfl rfl rfl) ?_; refine wla rfl rfl (q_pick_f (v := (.bool ((decide ((c3.length : Int) ≤ a1i))))) rfl rfl rfl) ?_; refine wl_nil ?_; refine W_th ?_; refine W_cond _ rfl rfl (fun hb4 => ?_) (fun hb4 => ?_)
  · replace H := (if_pos (of_decide_eq_true hb4)).symm.trans H; refine W_seq ?_; refine W_reg (by kernel_rfl) ?_; refine wla rfl rfl (q_assign (v := (.slice none 0 0)) rfl rfl) ?_; refine wl_nil ?_; refine W_th ?_; refine W_ret ?_; refine th_r ?_; obtain rfl := osi H; refine rt1 (.slice none 0 0) rfl rfl rfl rfl ?_; exact ⟨(.slice none 0 0), rfl, hE, Nw.nil _, (OwK.nil _ _ _ _)⟩
  replace H := (if_neg (of_decide_eq_false hb4)).symm.trans H; refine W_skip ?_; refine W_th ?_; refine W_seq ?_; refine W_reg (by kernel_rfl) ?_; refine wla rfl rfl (q_move (v := p0) rfl rfl) ?_; refine wla rfl rfl (q_nilP (g := g3) (m := 0) rfl (Eq.trans rfl hv3)) ?_; refine wla rfl rfl (q_fldP rfl fieldAtM rfl) ?_; refine wlq rfl rfl (q_loadB (u := uv3) rfl Try.isAgg22 rfl (hB3.ext hE) rfl) ?_; refine wla rfl rfl (q_move (v := (i64 a1i)) rfl rfl) ?_; obtain ⟨c5, hc5, H⟩ := bsi H; refine wla rfl rfl (q_adr rfl T22 rfl rfl (hR3.lift (Lift.ext hE _)) hc5) ?_; refine wlq_load rfl rfl rfl T22 rfl hR3 hc5 hE (fun v6 ha6 => ?_); obtain ⟨r7, hr7, H⟩ := bsi H; refine wls rfl rfl (stp_call (vs := [v6]) Try.func38 rfl rfl rfl (ar1 rfl) (slices_Clone_sbytebyte_calls c5 v6 r7 _ (ha6.lift (Lift.ext hE _)) hr7) ?_); rintro _ w7 ⟨v7, rfl, x7, n7_0, o7_0⟩; refine ⟨_, rfl, ?_⟩; have o7 : OwK (Sc u8) w7 (v7 :: []) 5 v7 r7 := OwK.scal o7_0 _; have n9 := Nw.ext hE n7_0; have e8 := hE.trans x7; refine wla rfl rfl (q_assign (v := v7) rfl rfl) ?_; refine wl_nil ?_; refine W_th ?_; refine W_ret ?_; obtain rfl := osi H; refine rt1 v7 rfl rfl rfl rfl ?_; exact ⟨v7, rfl, e8, n9, (o7.weak (Sc.stab _) (fun _ _ => trivial))⟩
noncomputable def matrix_Vandermonde (a0f : Bool) (a1xs : List UInt8) (a2columns : Int) : Option (Option (List (List UInt8)) × Int) :=
(if (!a0f) = true then some ((none : Option (List (List UInt8))), 1)
else
((matrix_size (a1xs.length : Int)).bind fun r2 =>
(if (!r2) = true then some ((none : Option (List (List UInt8))), 2)
else
((matrix_size a2columns).bind fun r5 =>
(if (!r5) = true then some ((none : Option (List (List UInt8))), 2)
else
((matrix_blank (a1xs.length : Int) a2columns).bind fun r8 =>
((iterC (fun s12 : List (List UInt8) × Int =>
(if s12.2 < (a1xs.length : Int) then
((idx a1xs s12.2).bind fun c15 =>
((iterC (fun s16 : List (List UInt8) × Int =>
(if s16.2 < a2columns then
((idx s16.1 s12.2).bind fun c21 =>
((field_Pow a0f c15 s16.2).bind fun r23 =>
((idx c21 s16.2).bind fun c25 => some (.inl ((s16.1.set (s12.2 : Int).toNat (c21.set (s16.2 : Int).toNat r23)), (wI (s16.2 + 1)))))))
else some (.inr s16.1))) (s12.1, 0)).bind fun x16 => some (.inl (x16, (wI (s12.2 + 1))))))
else some (.inr s12.1))) (r8, 0)).bind fun x12 => some ((some x12), 0))))))))
set_option maxRecDepth 100000 in
set_option maxHeartbeats 8000000 in
theorem matrix_Vandermonde_calls (a0f : Bool) (a1xs : List UInt8) (a2columns : Int) (p0 : Value) (p1 : Value) (r : Option (List (List UInt8)) × Int) (w0 : World) (L0 : List Value) (hL0 : Old w0 L0) (hp0 : Fd w0 [] p0 a0f) (hp1 : By w0 [] p1 a1xs) (H : matrix_Vandermonde a0f a1xs a2columns = some r) :
    Calls Try.prog 29 [p0, p1, (i64 a2columns)].toArray w0 (fun e w' => ∃ u0 : Value, e = .returned (.tuple #[u0, (i64 r.2)]) ∧ Ext w0 w' ∧ Mx w' L0 u0 r.1) := by
  have hE : Ext w0 w0 := Ext.refl w0; unfold matrix_Vandermonde at H; refine calls_W (n := 56) Try.func29 rfl rfl rfl ?_; refine W_seq ?_; refine W_reg (by kernel_rfl) ?_; refine wla rfl rfl (q_assign (v := (.pointer none)) rfl rfl) ?_; refine wla rfl rfl (q_assign (v := (i64 0)) rfl rfl) ?_; refine wl_nil ?_; refine W_th ?_; refine W_seq ?_; refine W_block ?_; refine W_seq ?_; refine W_reg (by kernel_rfl) ?_; refine wla rfl rfl (q_move (v := p0) rfl rfl) ?_; refine wla rfl rfl (q_eqF rfl rfl rfl rfl (hp0.lift (Lift.ext hE _))) ?_; refine wla rfl rfl (q_assign (v := (.bool ((!a0f)))) rfl rfl) ?_; refine wl_nil ?_; refine W_th ?_; refine W_cond _ rfl rfl (fun hb1 => ?_) (fun hb1 => ?_)
  · replace H := (if_pos hb1).symm.trans H; refine W_seq ?_; refine W_reg (by kernel_rfl) ?_; refine wla rfl rfl (q_assign (v := (.pointer none)) rfl rfl) ?_; refine wla rfl rfl (q_assign (v := (i64 1)) rfl rfl) ?_; refine wl_nil ?_; refine W_th ?_; refine W_ret ?_; refine bk_r ?_; refine th_r ?_; obtain rfl := osi H; refine rt2 (.pointer none) (i64 1) rfl rfl rfl rfl rfl rfl ?_; exact ⟨(.pointer none), rfl, hE, (Mx.nil _ _)⟩
  replace H := (if_neg (ne_true_of_eq_false hb1)).symm.trans H; refine W_seq ?_; refine W_reg (by kernel_rfl) ?_; refine wla rfl rfl (q_move (v := p1) rfl rfl) ?_; refine wla rfl rfl (q_len rfl T30.sl rfl (hp1.lift (Lift.ext hE _))) ?_; obtain ⟨r2, hr2, H⟩ := bsi H; refine wls rfl rfl (stp_call (vs := [(i64 ((a1xs.length : Int)))]) Try.func34 rfl rfl rfl (ar1 rfl) (matrix_size_calls (a1xs.length : Int)  r2 _  hr2) ?_); rintro _ w2 ⟨rfl, x2⟩; refine ⟨_, rfl, ?_⟩; have e3 := hE.trans x2; refine wla rfl rfl (q_not rfl rfl) ?_; refine wlb rfl rfl (q_move (v := (.bool ((!r2)))) rfl rfl) (fun hb4 => ?_) (fun hb4 => ?_)
  · replace H := (if_pos hb4).symm.trans H; refine wlk rfl rfl ?_; refine wlk rfl rfl ?_; refine wlk rfl rfl ?_; refine wla rfl rfl (q_pick_t (v := (.bool true)) rfl rfl rfl) ?_; refine wla rfl rfl (q_assign (v := (.bool true)) rfl rfl) ?_; refine wl_nil ?_; refine W_th ?_; refine W_cond true rfl rfl (fun _ => ?_) (fun hb => by cases hb); refine W_seq ?_; refine W_reg (by kernel_rfl) ?_; refine wla rfl rfl (q_assign (v := (.pointer none)) rfl rfl) ?_; refine wla rfl rfl (q_assign (v := (i64 2)) rfl rfl) ?_; refine wl_nil ?_; refine W_th ?_; refine W_ret ?_; refine bk_r ?_; refine th_r ?_; obtain rfl := osi H; refine rt2 (.pointer none) (i64 2) rfl rfl rfl rfl rfl rfl ?_; exact ⟨(.pointer none), rfl, e3, (Mx.nil _ _)⟩
  replace H := (if_neg (ne_true_of_eq_false hb4)).symm.trans H; refine wla rfl rfl (q_move (v := (i64 a2columns)) rfl rfl) ?_; obtain ⟨r5, hr5, H⟩ := bsi H; refine wls rfl rfl (stp_call (vs := [(i64 a2columns)]) Try.func34 rfl rfl rfl (ar1 rfl) (matrix_size_calls a2columns  r5 _  hr5) ?_); rintro _ w5 ⟨rfl, x5⟩; refine ⟨_, rfl, ?_⟩; have e6 := e3.trans x5; refine wla rfl rfl (q_not rfl rfl) ?_; refine wla rfl rfl (q_pick_f (v := (.bool ((!r5)))) rfl rfl rfl) ?_; refine wla rfl rfl (q_assign (v := (.bool ((!r5)))) rfl rfl) ?_; refine wl_nil ?_; refine W_th ?_; refine W_cond _ rfl rfl (fun hb7 => ?_) (fun hb7 => ?_)
  · replace H := (if_pos hb7).symm.trans H; refine W_seq ?_; refine W_reg (by kernel_rfl) ?_; refine wla rfl rfl (q_assign (v := (.pointer none)) rfl rfl) ?_; refine wla rfl rfl (q_assign (v := (i64 2)) rfl rfl) ?_; refine wl_nil ?_; refine W_th ?_; refine W_ret ?_; refine bk_r ?_; refine th_r ?_; obtain rfl := osi H; refine rt2 (.pointer none) (i64 2) rfl rfl rfl rfl rfl rfl ?_; exact ⟨(.pointer none), rfl, e6, (Mx.nil _ _)⟩
  replace H := (if_neg (ne_true_of_eq_false hb7)).symm.trans H; refine W_skip ?_; refine bk_n ?_; refine W_th ?_; refine W_seq ?_; refine W_reg (by kernel_rfl) ?_; refine wla rfl rfl (q_move (v := p1) rfl rfl) ?_; refine wla rfl rfl (q_len rfl T30.sl rfl (hp1.lift (Lift.ext e6 _))) ?_; refine wla rfl rfl (q_move (v := (i64 a2columns)) rfl rfl) ?_; obtain ⟨r8, hr8, H⟩ := bsi H; refine wls rfl rfl (stp_call (vs := [(i64 ((a1xs.length : Int))), (i64 a2columns)]) Try.func35 rfl rfl rfl (ar2 rfl rfl) (matrix_blank_calls (a1xs.length : Int) a2columns  r8 _  hr8) ?_); rintro _ w8 ⟨v8, rfl, x8, i8_0⟩; refine ⟨_, rfl, ?_⟩; obtain ⟨g8, uv8, G8, rfl, nB8, hB8, nG8, hD8, hq8⟩ := i8_0; have n9 := Nw.ext e6 nB8; have n10 := Nw.ext e6 nG8; have e11 := e6.trans x8; refine wla rfl rfl (q_assign (v := (bp g8)) rfl rfl) ?_; refine wl_nil ?_; refine W_th ?_; refine W_seq ?_; refine W_seq ?_; refine W_reg (by kernel_rfl) ?_; refine wla rfl rfl (q_move (v := p1) rfl rfl) ?_; refine wla rfl rfl (q_len rfl T30.sl rfl (hp1.lift (Lift.ext e11 _))) ?_; refine wla rfl rfl (q_move (v := (i64 0)) rfl rfl) ?_; refine wl_nil ?_; refine W_th ?_; obtain ⟨x12, G12, H⟩ := bsi H; refine W_mid (fun f w => ∃ Gbbpg8_33 : Value, f 8 = (bp g8) ∧ f 56 = undef ∧ Ext w0 w ∧ OwD w 30 5 Gbbpg8_33 uv8 x12 ∧ Nw w0 Gbbpg8_33 ∧ Blk w g8 65 #[uv8] ∧ Nw w0 (bp g8) ∧ Nq Gbbpg8_33 (bp g8)) ?_ ?_
  · refine W_block ?_; refine W_loop (fun s12 f w => ∃ Gbbpg8_31 : Value, f 0 = p0 ∧ f 2 = (i64 a2columns) ∧ f 8 = (bp g8) ∧ f 29 = p1 ∧ f 30 = (i64 ((a1xs.length : Int))) ∧ f 31 = (i64 s12.2) ∧ f 56 = undef ∧ Ext w0 w ∧ OwD w 30 5 Gbbpg8_31 uv8 s12.1 ∧ Nw w0 Gbbpg8_31 ∧ Blk w g8 65 #[uv8] ∧ Nw w0 (bp g8) ∧ Nq Gbbpg8_31 (bp g8)) G12 ?_ ?_
    · exact ⟨G8, rfl, rfl, rfl, rfl, rfl, rfl, rfl, e11, hD8, n10, hB8, n9, hq8.symm⟩
    rintro s12 _ _ w13 ⟨Gbbpg8_13, s0_13, s2_13, s8_13, s29_13, s30_13, s31_13, s56_13, hE13, o0_13, n0_13, o1_13, n1_13, q0_1_13⟩ H12 hr12; refine W_seq ?_; refine W_reg (by kernel_rfl) ?_; refine wla rfl rfl (q_ltI rfl s31_13 s30_13) ?_; refine wl_nil ?_; refine W_th ?_; refine W_seq ?_; refine W_cond _ rfl rfl (fun hb14 => ?_) (fun hb14 => ?_)
    · replace H12 := (if_pos (of_decide_eq_true hb14)).symm.trans H12; refine W_skip ?_; refine W_th ?_; refine W_seq ?_; refine W_block ?_; refine W_seq ?_; refine W_reg (by kernel_rfl) ?_; refine wla rfl rfl (q_move (v := (i64 s12.2)) rfl s31_13) ?_; obtain ⟨c15, hc15, H12⟩ := bsi H12; refine wla rfl rfl (q_adr rfl T30 s29_13 s31_13 (hp1.lift (Lift.ext hE13 _)) hc15) ?_; refine wlq rfl rfl (q_loadS rfl T30 rfl (hp1.lift (Lift.ext hE13 _)) hc15) ?_; refine wla rfl rfl (q_assign (v := (i64 s12.2)) rfl rfl) ?_; refine wla rfl rfl (q_assign (v := (u8 c15)) rfl rfl) ?_; refine wl_nil ?_; refine W_th ?_; refine W_seq ?_; refine W_reg (by kernel_rfl) ?_; refine wla rfl rfl (q_move (v := (i64 a2columns)) rfl s2_13) ?_; refine wla rfl rfl (q_move (v := (i64 0)) rfl rfl) ?_; refine wl_nil ?_; refine W_th ?_; obtain ⟨x16, G16, H12⟩ := bsi H12; refine W_mid (fun f w => ∃ Gbbpg8_30 : Value, f 0 = p0 ∧ f 2 = (i64 a2columns) ∧ f 8 = (bp g8) ∧ f 29 = p1 ∧ f 30 = (i64 ((a1xs.length : Int))) ∧ f 31 = (i64 s12.2) ∧ f 56 = undef ∧ Ext w0 w ∧ OwD w 30 5 Gbbpg8_30 uv8 x16 ∧ Nw w0 Gbbpg8_30 ∧ Blk w g8 65 #[uv8] ∧ Nw w0 (bp g8) ∧ Nq Gbbpg8_30 (bp g8)) ?_ ?_
      · refine W_block ?_; refine W_loop (fun s16 f w => ∃ Gbbpg8_28 : Value, f 0 = p0 ∧ f 2 = (i64 a2columns) ∧ f 8 = (bp g8) ∧ f 9 = (i64 s12.2) ∧ f 10 = (u8 c15) ∧ f 29 = p1 ∧ f 30 = (i64 ((a1xs.length : Int))) ∧ f 31 = (i64 s12.2) ∧ f 36 = (i64 a2columns) ∧ f 37 = (i64 s16.2) ∧ f 56 = undef ∧ Ext w0 w ∧ OwD w 30 5 Gbbpg8_28 uv8 s16.1 ∧ Nw w0 Gbbpg8_28 ∧ Blk w g8 65 #[uv8] ∧ Nw w0 (bp g8) ∧ Nq Gbbpg8_28 (bp g8)) G16 ?_ ?_
        · exact ⟨Gbbpg8_13, s0_13, s2_13, s8_13, rfl, rfl, s29_13, s30_13, s31_13, rfl, rfl, s56_13, hE13, o0_13, n0_13, o1_13, n1_13, q0_1_13⟩
        rintro s16 _ _ w17 ⟨Gbbpg8_17, s0_17, s2_17, s8_17, s9_17, s10_17, s29_17, s30_17, s31_17, s36_17, s37_17, s56_17, hE17, o0_17, n0_17, o1_17, n1_17, q0_1_17⟩ H16 hr16; refine W_seq ?_; refine W_reg (by kernel_rfl) ?_; refine wla rfl rfl (q_ltI rfl s37_17 s36_17) ?_; refine wl_nil ?_; refine W_th ?_; refine W_seq ?_; refine W_cond _ rfl rfl (fun hb18 => ?_) (fun hb18 => ?_)
        · replace H16 := (if_pos (of_decide_eq_true hb18)).symm.trans H16; refine W_skip ?_; refine W_th ?_; refine W_seq ?_; refine W_block ?_; refine W_seq ?_; refine W_reg (by kernel_rfl) ?_; refine wla rfl rfl (q_move (v := (i64 s16.2)) rfl s37_17) ?_; refine wla rfl rfl (q_assign (v := (i64 s16.2)) rfl rfl) ?_; refine wl_nil ?_; refine W_th ?_; refine W_draw [3, 6] [(0, 0), (1, 0), (2, 0), (3, 1), (4, 0), (5, 0), (6, 1), (7, 0), (8, 0), (9, 0), (10, 0), (11, 2), (12, 0), (13, 2)] mixed (by kernel_rfl) (by kernel_rfl) (by kernel_rfl) (by kernel_rfl) ?_; have x19 := Ext.drew w17; replace o0_17 := o0_17.ext x19; replace o1_17 := o1_17.ext x19; have e20 := hE17.trans x19; refine wsa rfl rfl rfl (q_move (v := (bp g8)) rfl s8_17) ?_; refine wsa rfl rfl rfl (q_nilP rfl rfl) ?_; refine wsa rfl rfl rfl (q_fldP rfl fieldAtM rfl) ?_; refine wsq rfl rfl rfl (q_loadB (u := uv8) rfl Try.isAgg22 rfl o1_17 rfl) ?_; refine wsa rfl rfl rfl (q_move (v := (i64 s12.2)) rfl s9_17) ?_; obtain ⟨c21, hc21, H16⟩ := bsi H16; refine wsa rfl rfl rfl (q_adr rfl T22 rfl rfl o0_17.rd hc21) ?_; refine wsq_loadD rfl rfl rfl rfl T22 rfl o0_17 hc21 (fun v22 hD22 => ?_); refine wsa rfl rfl rfl (q_move (v := (i64 s16.2)) rfl rfl) ?_; refine wsa rfl rfl rfl (q_move (v := p0) rfl s0_17) ?_; refine wsa rfl rfl rfl (q_move (v := (u8 c15)) rfl s10_17) ?_; refine wsa rfl rfl rfl (q_move (v := (i64 s16.2)) rfl rfl) ?_; obtain ⟨r23, hr23, H16⟩ := bsi H16; refine wss rfl rfl rfl (stp_call (vs := [p0, (u8 c15), (i64 s16.2)]) Try.func48 rfl rfl rfl (ar3 rfl rfl rfl) (field_Pow_calls a0f c15 s16.2 p0 r23 _ (hp0.lift (Lift.ext e20 _)) hr23) ?_); rintro _ w23 ⟨rfl, x23⟩; refine ⟨_, rfl, x23, ?_⟩; replace o0_17 := o0_17.ext x23; replace o1_17 := o1_17.ext x23; have e24 := e20.trans x23; obtain ⟨c25, hc25, H16⟩ := bsi H16; refine wsa rfl rfl rfl (q_adr rfl T30 rfl rfl (OwD.rowrd o0_17 hD22 hc21) hc25) ?_; refine wsn rfl (by kernel_rfl) rfl rfl (stp_storeD [] ((bp g8) :: L0) rfl T30 rfl rfl o0_17 hD22 hc21 hc25 ?_); intro w26 o26 g26 l26; replace o1_17 := o1_17.other g26 q0_1_17.symm; have e27 := e24.grown g26 n0_17; refine ws_nil ?_; refine bk_n ?_; refine W_th ?_; refine W_reg (by kernel_rfl) ?_; refine wla rfl rfl (q_addI rfl s37_17 rfl) ?_; refine wla rfl rfl (q_move (v := (i64 ((wI (s16.2 + 1))))) rfl rfl) ?_; refine wl_nil ?_; obtain rfl := osi H16; exact ⟨_, rfl, Gbbpg8_17, s0_17, s2_17, s8_17, s9_17, s10_17, s29_17, s30_17, s31_17, s36_17, rfl, s56_17, e27, o26, n0_17, o1_17, n1_17, q0_1_17⟩
        replace H16 := (if_neg (of_decide_eq_false hb18)).symm.trans H16; refine W_exit ?_; refine th_x ?_; obtain rfl := osi H16; obtain rfl := hr16 _ rfl; refine th_x ?_; refine bk_x ?_; exact ⟨Gbbpg8_17, s0_17, s2_17, s8_17, s29_17, s30_17, s31_17, s56_17, hE17, o0_17, n0_17, o1_17, n1_17, q0_1_17⟩
      rintro _ w29 ⟨Gbbpg8_29, s0_29, s2_29, s8_29, s29_29, s30_29, s31_29, s56_29, hE29, o0_29, n0_29, o1_29, n1_29, q0_1_29⟩; refine bk_n ?_; refine W_th ?_; refine W_reg (by kernel_rfl) ?_; refine wla rfl rfl (q_addI rfl s31_29 rfl) ?_; refine wla rfl rfl (q_move (v := (i64 ((wI (s12.2 + 1))))) rfl rfl) ?_; refine wl_nil ?_; obtain rfl := osi H12; exact ⟨_, rfl, Gbbpg8_29, s0_29, s2_29, s8_29, s29_29, s30_29, rfl, s56_29, hE29, o0_29, n0_29, o1_29, n1_29, q0_1_29⟩
    replace H12 := (if_neg (of_decide_eq_false hb14)).symm.trans H12; refine W_exit ?_; refine th_x ?_; obtain rfl := osi H12; obtain rfl := hr12 _ rfl; refine th_x ?_; refine bk_x ?_; exact ⟨Gbbpg8_13, s8_13, s56_13, hE13, o0_13, n0_13, o1_13, n1_13, q0_1_13⟩
  rintro _ w32 ⟨Gbbpg8_32, s8_32, s56_32, hE32, o0_32, n0_32, o1_32, n1_32, q0_1_32⟩; refine W_th ?_; refine W_seq ?_; refine W_reg (by kernel_rfl) ?_; refine wla rfl rfl (q_move (v := (bp g8)) rfl s8_32) ?_; refine wla rfl rfl (q_assign (v := (bp g8)) rfl rfl) ?_; refine wla rfl rfl (q_assign (v := (i64 0)) rfl rfl) ?_; refine wl_nil ?_; refine W_th ?_; refine W_ret ?_; obtain rfl := osi H; refine rt2 (bp g8) (i64 0) rfl rfl rfl rfl rfl s56_32 ?_; exact ⟨(bp g8), rfl, hE32, (Mx.mk o1_32 (hL0 _ (n1_32 _ (hs_bp' _))) (o0_32.rw L0 (fun k hk => hL0 k (n0_32 k hk))))⟩
noncomputable def matrix_Times (a0m : Option (List (List UInt8))) (a1f : Bool) (a2v : List UInt8) : Option (List UInt8 × Int) :=
((matrix_Size a0m).bind fun r1 =>
(if (!a1f) = true then some (([] : List UInt8), 1)
else
(if a0m.isNone = true then some (([] : List UInt8), 1)
else
(if r1.2 = (a2v.length : Int) then
((a0m).bind fun c6 =>
((makeL ((c6.length : Int)) (0 : UInt8)).bind fun c7 =>
((iterC (fun s10 : List UInt8 × Int =>
(if s10.2 < (c6.length : Int) then
((idx c6 s10.2).bind fun c13 =>
((iterC (fun s15 : List UInt8 × Int =>
(if s15.2 < (c13.length : Int) then
((idx c13 s15.2).bind fun c18 =>
((idx s15.1 s10.2).bind fun c21 =>
((idx a2v s15.2).bind fun c22 =>
((field_Mul a1f c18 c22).bind fun r23 => some (.inl ((s15.1.set (s10.2 : Int).toNat ((c21 ^^^ r23))), (wI (s15.2 + 1))))))))
else some (.inr s15.1))) (s10.1, 0)).bind fun x15 => some (.inl (x15, (wI (s10.2 + 1))))))
else some (.inr s10.1))) (c7, 0)).bind fun x10 => some (x10, 0))))
else some (([] : List UInt8), 1)))))
set_option maxRecDepth 100000 in
set_option maxHeartbeats 8000000 in
theorem matrix_Times_calls (a0m : Option (List (List UInt8))) (a1f : Bool) (a2v : List UInt8) (p0 : Value) (p1 : Value) (p2 : Value) (r : List UInt8 × Int) (w0 : World) (hp0 : Mx w0 [] p0 a0m) (hp1 : Fd w0 [] p1 a1f) (hp2 : By w0 [] p2 a2v) (H : matrix_Times a0m a1f a2v = some r) :
    Calls Try.prog 21 [p0, p1, p2].toArray w0 (fun e w' => ∃ u0 : Value, e = .returned (.tuple #[u0, (i64 r.2)]) ∧ Ext w0 w' ∧ Nw w0 u0 ∧ OwK (Sc u8) w' [] 5 u0 r.1) := by
  have hE : Ext w0 w0 := Ext.refl w0; unfold matrix_Times at H; refine calls_W (n := 71) Try.func21 rfl rfl rfl ?_; refine W_seq ?_; refine W_reg (by kernel_rfl) ?_; refine wla rfl rfl (q_assign (v := (.slice none 0 0)) rfl rfl) ?_; refine wla rfl rfl (q_assign (v := (i64 0)) rfl rfl) ?_; refine wl_nil ?_; refine W_th ?_; refine W_seq ?_; refine W_seq ?_; refine W_reg (by kernel_rfl) ?_; refine wla rfl rfl (q_move (v := p0) rfl rfl) ?_; obtain ⟨r1, hr1, H⟩ := bsi H; refine wls rfl rfl (stp_call (vs := [p0]) Try.func12 rfl rfl rfl (ar1 rfl) (matrix_Size_calls a0m p0 r1 _ (hp0.lift (Lift.ext hE _)) hr1) ?_); rintro _ w1 ⟨rfl, x1⟩; refine ⟨_, rfl, ?_⟩; have e2 := hE.trans x1; refine wla rfl rfl (q_move (v := (.tuple #[(i64 r1.1), (i64 r1.2)])) rfl rfl) ?_; refine wla rfl rfl (q_extract rfl rfl rfl) ?_; refine wla rfl rfl (q_extract rfl rfl rfl) ?_; refine wla rfl rfl (q_assign (v := (i64 r1.1)) rfl rfl) ?_; refine wla rfl rfl (q_assign (v := (i64 r1.2)) rfl rfl) ?_; refine wl_nil ?_; refine W_th ?_; refine W_seq ?_; refine W_reg (by kernel_rfl) ?_; refine wla rfl rfl (q_move (v := p1) rfl rfl) ?_; refine wla rfl rfl (q_eqF rfl rfl rfl rfl (hp1.lift (Lift.ext e2 _))) ?_; refine wlb rfl rfl (q_move (v := (.bool ((!a1f)))) rfl rfl) (fun hb3 => ?_) (fun hb3 => ?_)
  · replace H := (if_pos hb3).symm.trans H; refine wlk rfl rfl ?_; refine wlk rfl rfl ?_; refine wla rfl rfl (q_pick_t (v := (.bool true)) rfl rfl rfl) ?_; refine wla rfl rfl (q_move (v := (.bool true)) rfl rfl) ?_; refine wlk rfl rfl ?_; refine wlk rfl rfl ?_; refine wlk rfl rfl ?_; refine wlk rfl rfl ?_; refine wla rfl rfl (q_pick_t (v := (.bool true)) rfl rfl rfl) ?_; refine wl_nil ?_; refine W_th ?_; refine W_cond true rfl rfl (fun _ => ?_) (fun hb => by cases hb); refine W_seq ?_; refine W_reg (by kernel_rfl) ?_; refine wla rfl rfl (q_assign (v := (.slice none 0 0)) rfl rfl) ?_; refine wla rfl rfl (q_assign (v := (i64 1)) rfl rfl) ?_; refine wl_nil ?_; refine W_th ?_; refine W_ret ?_; refine th_r ?_; obtain rfl := osi H; refine rt2 (.slice none 0 0) (i64 1) rfl rfl rfl rfl rfl rfl ?_; exact ⟨(.slice none 0 0), rfl, e2, Nw.nil _, (OwK.nil _ _ _ _)⟩
  replace H := (if_neg (ne_true_of_eq_false hb3)).symm.trans H; refine wla rfl rfl (q_move (v := p0) rfl rfl) ?_; refine wla rfl rfl (q_eqM rfl rfl rfl rfl (hp0.lift (Lift.ext e2 _))) ?_; refine wla rfl rfl (q_pick_f (v := (.bool a0m.isNone)) rfl rfl rfl) ?_; refine wlb rfl rfl (q_move (v := (.bool a0m.isNone)) rfl rfl) (fun hb4 => ?_) (fun hb4 => ?_)
  · replace H := (if_pos hb4).symm.trans H; refine wlk rfl rfl ?_; refine wlk rfl rfl ?_; refine wlk rfl rfl ?_; refine wlk rfl rfl ?_; refine wla rfl rfl (q_pick_t (v := (.bool true)) rfl rfl rfl) ?_; refine wl_nil ?_; refine W_th ?_; refine W_cond true rfl rfl (fun _ => ?_) (fun hb => by cases hb); refine W_seq ?_; refine W_reg (by kernel_rfl) ?_; refine wla rfl rfl (q_assign (v := (.slice none 0 0)) rfl rfl) ?_; refine wla rfl rfl (q_assign (v := (i64 1)) rfl rfl) ?_; refine wl_nil ?_; refine W_th ?_; refine W_ret ?_; refine th_r ?_; obtain rfl := osi H; refine rt2 (.slice none 0 0) (i64 1) rfl rfl rfl rfl rfl rfl ?_; exact ⟨(.slice none 0 0), rfl, e2, Nw.nil _, (OwK.nil _ _ _ _)⟩
  replace H := (if_neg (ne_true_of_eq_false hb4)).symm.trans H; refine wla rfl rfl (q_move (v := (i64 r1.2)) rfl rfl) ?_; refine wla rfl rfl (q_move (v := p2) rfl rfl) ?_; refine wla rfl rfl (q_len rfl T30.sl rfl (hp2.lift (Lift.ext e2 _))) ?_; refine wla rfl rfl (q_neI rfl rfl rfl) ?_; refine wla rfl rfl (q_pick_f (v := (.bool ((!decide (r1.2 = (a2v.length : Int)))))) rfl rfl rfl) ?_; refine wl_nil ?_; refine W_th ?_; refine W_cond _ rfl rfl (fun hb5 => ?_) (fun hb5 => ?_)
  · replace H := (if_neg (ndec_t hb5)).symm.trans H; refine W_seq ?_; refine W_reg (by kernel_rfl) ?_; refine wla rfl rfl (q_assign (v := (.slice none 0 0)) rfl rfl) ?_; refine wla rfl rfl (q_assign (v := (i64 1)) rfl rfl) ?_; refine wl_nil ?_; refine W_th ?_; refine W_ret ?_; refine th_r ?_; obtain rfl := osi H; refine rt2 (.slice none 0 0) (i64 1) rfl rfl rfl rfl rfl rfl ?_; exact ⟨(.slice none 0 0), rfl, e2, Nw.nil _, (OwK.nil _ _ _ _)⟩
  replace H := (if_pos (ndec_f hb5)).symm.trans H; refine W_skip ?_; refine W_th ?_; refine W_seq ?_; refine W_reg (by kernel_rfl) ?_; refine wla rfl rfl (q_move (v := p0) rfl rfl) ?_; obtain ⟨c6, hc6, H⟩ := bsi H; obtain ⟨g6, uv6, hv6, hB6, hR6⟩ := MxT.some hp0 hc6; refine wla rfl rfl (q_nilP (g := g6) (m := 0) rfl (Eq.trans rfl hv6)) ?_; refine wla rfl rfl (q_fldP rfl fieldAtM rfl) ?_; refine wlq rfl rfl (q_loadB (u := uv6) rfl Try.isAgg22 rfl (hB6.ext e2) rfl) ?_; refine wla rfl rfl (q_len rfl T22.sl rfl (hR6.lift (Lift.ext e2 _))) ?_; obtain ⟨c7, hc7, H⟩ := bsi H; refine wls rfl rfl (stp_make (L := []) (R := (Sc u8)) rfl T30 rfl rfl hc7 (fun _ _ => rfl) ?_); intro v7 w7 o7 n7 g7 l7; have x7 := grown_ext g7; have n9 := Nw.ext e2 n7; have e8 := e2.trans x7; refine wla rfl rfl (q_assign (v := v7) rfl rfl) ?_; refine wl_nil ?_; refine W_th ?_; refine W_seq ?_; refine W_seq ?_; refine W_reg (by kernel_rfl) ?_; refine wla rfl rfl (q_move (v := p0) rfl rfl) ?_; refine wla rfl rfl (q_nilP (g := g6) (m := 0) rfl (Eq.trans rfl hv6)) ?_; refine wla rfl rfl (q_fldP rfl fieldAtM rfl) ?_; refine wlq rfl rfl (q_loadB (u := uv6) rfl Try.isAgg22 rfl (hB6.ext e8) rfl) ?_; refine wla rfl rfl (q_len rfl T22.sl rfl (hR6.lift (Lift.ext e8 _))) ?_; refine wla rfl rfl (q_move (v := (i64 0)) rfl rfl) ?_; refine wl_nil ?_; refine W_th ?_; obtain ⟨x10, G10, H⟩ := bsi H; refine W_mid (fun f w => f 10 = v7 ∧ f 71 = undef ∧ Ext w0 w ∧ OwK (Sc u8) w [v7] 5 v7 x10 ∧ Nw w0 v7) ?_ ?_
  · refine W_block ?_; refine W_loop (fun s10 f w => f 1 = p1 ∧ f 2 = p2 ∧ f 10 = v7 ∧ f 41 = uv6 ∧ f 42 = (i64 ((c6.length : Int))) ∧ f 43 = (i64 s10.2) ∧ f 71 = undef ∧ Ext w0 w ∧ OwK (Sc u8) w [v7] 5 v7 s10.1 ∧ Nw w0 v7) G10 ?_ ?_
    · exact ⟨rfl, rfl, rfl, rfl, rfl, rfl, rfl, e8, o7, n9⟩
    rintro s10 _ _ w11 ⟨s1_11, s2_11, s10_11, s41_11, s42_11, s43_11, s71_11, hE11, o0_11, n0_11⟩ H10 hr10; refine W_seq ?_; refine W_reg (by kernel_rfl) ?_; refine wla rfl rfl (q_ltI rfl s43_11 s42_11) ?_; refine wl_nil ?_; refine W_th ?_; refine W_seq ?_; refine W_cond _ rfl rfl (fun hb12 => ?_) (fun hb12 => ?_)
    · replace H10 := (if_pos (of_decide_eq_true hb12)).symm.trans H10; refine W_skip ?_; refine W_th ?_; refine W_seq ?_; refine W_block ?_; refine W_seq ?_; refine W_reg (by kernel_rfl) ?_; refine wla rfl rfl (q_move (v := (i64 s10.2)) rfl s43_11) ?_; obtain ⟨c13, hc13, H10⟩ := bsi H10; refine wla rfl rfl (q_adr rfl T22 s41_11 s43_11 (hR6.lift (Lift.ext hE11 _)) hc13) ?_; refine wlq_load rfl rfl rfl T22 rfl hR6 hc13 hE11 (fun v14 ha14 => ?_); refine wla rfl rfl (q_assign (v := (i64 s10.2)) rfl rfl) ?_; refine wla rfl rfl (q_assign (v := v14) rfl rfl) ?_; refine wl_nil ?_; refine W_th ?_; refine W_seq ?_; refine W_reg (by kernel_rfl) ?_; refine wla rfl rfl (q_move (v := v14) rfl rfl) ?_; refine wla rfl rfl (q_len rfl T30.sl rfl (ha14.lift (Lift.ext hE11 _))) ?_; refine wla rfl rfl (q_move (v := (i64 0)) rfl rfl) ?_; refine wl_nil ?_; refine W_th ?_; obtain ⟨x15, G15, H10⟩ := bsi H10; refine W_mid (fun f w => f 1 = p1 ∧ f 2 = p2 ∧ f 10 = v7 ∧ f 41 = uv6 ∧ f 42 = (i64 ((c6.length : Int))) ∧ f 43 = (i64 s10.2) ∧ f 71 = undef ∧ Ext w0 w ∧ OwK (Sc u8) w [v7] 5 v7 x15 ∧ Nw w0 v7) ?_ ?_
      · refine W_block ?_; refine W_loop (fun s15 f w => f 1 = p1 ∧ f 2 = p2 ∧ f 10 = v7 ∧ f 11 = (i64 s10.2) ∧ f 41 = uv6 ∧ f 42 = (i64 ((c6.length : Int))) ∧ f 43 = (i64 s10.2) ∧ f 48 = v14 ∧ f 49 = (i64 ((c13.length : Int))) ∧ f 50 = (i64 s15.2) ∧ f 71 = undef ∧ Ext w0 w ∧ OwK (Sc u8) w [v7] 5 v7 s15.1 ∧ Nw w0 v7) G15 ?_ ?_
        · exact ⟨s1_11, s2_11, s10_11, rfl, s41_11, s42_11, s43_11, rfl, rfl, rfl, s71_11, hE11, o0_11, n0_11⟩
        rintro s15 _ _ w16 ⟨s1_16, s2_16, s10_16, s11_16, s41_16, s42_16, s43_16, s48_16, s49_16, s50_16, s71_16, hE16, o0_16, n0_16⟩ H15 hr15; refine W_seq ?_; refine W_reg (by kernel_rfl) ?_; refine wla rfl rfl (q_ltI rfl s50_16 s49_16) ?_; refine wl_nil ?_; refine W_th ?_; refine W_seq ?_; refine W_cond _ rfl rfl (fun hb17 => ?_) (fun hb17 => ?_)
        · replace H15 := (if_pos (of_decide_eq_true hb17)).symm.trans H15; refine W_skip ?_; refine W_th ?_; refine W_seq ?_; refine W_block ?_; refine W_seq ?_; refine W_reg (by kernel_rfl) ?_; refine wla rfl rfl (q_move (v := (i64 s15.2)) rfl s50_16) ?_; obtain ⟨c18, hc18, H15⟩ := bsi H15; refine wla rfl rfl (q_adr rfl T30 s48_16 s50_16 (ha14.lift (Lift.ext hE16 _)) hc18) ?_; refine wlq rfl rfl (q_loadS rfl T30 rfl (ha14.lift (Lift.ext hE16 _)) hc18) ?_; refine wla rfl rfl (q_assign (v := (i64 s15.2)) rfl rfl) ?_; refine wla rfl rfl (q_assign (v := (u8 c18)) rfl rfl) ?_; refine wl_nil ?_; refine W_th ?_; refine W_draw [3, 9] [(0, 0), (1, 0), (2, 0), (3, 1), (4, 0), (5, 0), (6, 0), (7, 0), (8, 0), (9, 1), (10, 2), (11, 0), (12, 0), (13, 2)] mixed (by kernel_rfl) (by kernel_rfl) (by kernel_rfl) (by kernel_rfl) ?_; have x19 := Ext.drew w16; replace o0_16 := o0_16.extL (Sc.stab _) x19 (Lift.ext x19 _); have e20 := hE16.trans x19; refine wsa rfl rfl rfl (q_move (v := v7) rfl s10_16) ?_; refine wsa rfl rfl rfl (q_move (v := (i64 s10.2)) rfl s11_16) ?_; obtain ⟨c21, hc21, H15⟩ := bsi H15; refine wsa rfl rfl rfl (q_adr rfl T30 rfl rfl (o0_16.rd (Sc.stab _)) hc21) ?_; refine wsq rfl rfl rfl (q_loadS rfl T30 rfl (o0_16.rd (Sc.stab _)) hc21) ?_; refine wsa rfl rfl rfl (q_move (v := p1) rfl s1_16) ?_; refine wsa rfl rfl rfl (q_move (v := (u8 c18)) rfl rfl) ?_; refine wsa rfl rfl rfl (q_move (v := p2) rfl s2_16) ?_; refine wsa rfl rfl rfl (q_move (v := (i64 s15.2)) rfl rfl) ?_; obtain ⟨c22, hc22, H15⟩ := bsi H15; refine wsa rfl rfl rfl (q_adr rfl T30 rfl rfl (hp2.lift (Lift.ext e20 _)) hc22) ?_; refine wsq rfl rfl rfl (q_loadS rfl T30 rfl (hp2.lift (Lift.ext e20 _)) hc22) ?_; obtain ⟨r23, hr23, H15⟩ := bsi H15; refine wss rfl rfl rfl (stp_call (vs := [p1, (u8 c18), (u8 c22)]) Try.func42 rfl rfl rfl (ar3 rfl rfl rfl) (field_Mul_calls a1f c18 c22 p1 r23 _ (hp1.lift (Lift.ext e20 _)) hr23) ?_); rintro _ w23 ⟨rfl, x23⟩; refine ⟨_, rfl, x23, ?_⟩; replace o0_16 := o0_16.extL (Sc.stab _) x23 (Lift.ext x23 _); have e24 := e20.trans x23; refine wsa rfl rfl rfl (q_xor8 rfl rfl rfl) ?_; refine wsa rfl rfl rfl (q_adr rfl T30 rfl rfl (o0_16.rd (Sc.stab _)) hc21) ?_; refine wsn rfl (by kernel_rfl) rfl rfl (stp_store (R := (Sc u8)) (u := (u8 ((c21 ^^^ r23)))) (Sc.stab _) [] [] rfl T30 rfl rfl o0_16 (put_of ((c21 ^^^ r23)) hc21) rfl rfl ?_); intro w25 o25 g25 l25; have e26 := e24.grown g25 n0_16; refine ws_nil ?_; refine bk_n ?_; refine W_th ?_; refine W_reg (by kernel_rfl) ?_; refine wla rfl rfl (q_addI rfl s50_16 rfl) ?_; refine wla rfl rfl (q_move (v := (i64 ((wI (s15.2 + 1))))) rfl rfl) ?_; refine wl_nil ?_; obtain rfl := osi H15; exact ⟨_, rfl, s1_16, s2_16, s10_16, s11_16, s41_16, s42_16, s43_16, s48_16, s49_16, rfl, s71_16, e26, o25, n0_16⟩
        replace H15 := (if_neg (of_decide_eq_false hb17)).symm.trans H15; refine W_exit ?_; refine th_x ?_; obtain rfl := osi H15; obtain rfl := hr15 _ rfl; refine th_x ?_; refine bk_x ?_; exact ⟨s1_16, s2_16, s10_16, s41_16, s42_16, s43_16, s71_16, hE16, o0_16, n0_16⟩
      rintro _ w28 ⟨s1_28, s2_28, s10_28, s41_28, s42_28, s43_28, s71_28, hE28, o0_28, n0_28⟩; refine bk_n ?_; refine W_th ?_; refine W_reg (by kernel_rfl) ?_; refine wla rfl rfl (q_addI rfl s43_28 rfl) ?_; refine wla rfl rfl (q_move (v := (i64 ((wI (s10.2 + 1))))) rfl rfl) ?_; refine wl_nil ?_; obtain rfl := osi H10; exact ⟨_, rfl, s1_28, s2_28, s10_28, s41_28, s42_28, rfl, s71_28, hE28, o0_28, n0_28⟩
    replace H10 := (if_neg (of_decide_eq_false hb12)).symm.trans H10; refine W_exit ?_; refine th_x ?_; obtain rfl := osi H10; obtain rfl := hr10 _ rfl; refine th_x ?_; refine bk_x ?_; exact ⟨s10_11, s71_11, hE11, o0_11, n0_11⟩
  rintro _ w31 ⟨s10_31, s71_31, hE31, o0_31, n0_31⟩; refine W_th ?_; refine W_seq ?_; refine W_reg (by kernel_rfl) ?_; refine wla rfl rfl (q_move (v := v7) rfl s10_31) ?_; refine wla rfl rfl (q_assign (v := v7) rfl rfl) ?_; refine wla rfl rfl (q_assign (v := (i64 0)) rfl rfl) ?_; refine wl_nil ?_; refine W_th ?_; refine W_ret ?_; obtain rfl := osi H; refine rt2 v7 (i64 0) rfl rfl rfl rfl rfl s71_31 ?_; exact ⟨v7, rfl, hE31, n0_31, (o0_31.weak (Sc.stab _) (fun _ _ => trivial))⟩
noncomputable def matrix_Mul (a0m : Option (List (List UInt8))) (a1f : Bool) (a2o : Option (List (List UInt8))) : Option (Option (List (List UInt8)) × Int) :=
((matrix_Size a0m).bind fun r1 =>
((matrix_Size a2o).bind fun r3 =>
(if (!a1f) = true then some ((none : Option (List (List UInt8))), 1)
else
(if a0m.isNone = true then some ((none : Option (List (List UInt8))), 1)
else
(if a2o.isNone = true then some ((none : Option (List (List UInt8))), 1)
else
(if r1.2 = r3.1 then
((a0m).bind fun c9 =>
((matrix_blank (c9.length : Int) r3.2).bind fun r10 =>
((iterC (fun s14 : List (List UInt8) × Int =>
(if s14.2 < (c9.length : Int) then
((idx c9 s14.2).bind fun c17 =>
((iterC (fun s19 : List (List UInt8) × Int =>
(if s19.2 < (c17.length : Int) then
((idx c17 s19.2).bind fun c22 =>
((idx s19.1 s14.2).bind fun c25 =>
((a2o).bind fun c27 =>
((idx c27 s19.2).bind fun c28 =>
((field_Sum a1f c25 c22 c28).bind fun r30 => some (.inl ((s19.1.set (s14.2 : Int).toNat r30), (wI (s19.2 + 1)))))))))
else some (.inr s19.1))) (s14.1, 0)).bind fun x19 => some (.inl (x19, (wI (s14.2 + 1))))))
else some (.inr s14.1))) (r10, 0)).bind fun x14 => some ((some x14), 0))))
else some ((none : Option (List (List UInt8))), 1)))))))
set_option maxRecDepth 100000 in
set_option maxHeartbeats 8000000 in
theorem matrix_Mul_calls (a0m : Option (List (List UInt8))) (a1f : Bool) (a2o : Option (List (List UInt8))) (p0 : Value) (p1 : Value) (p2 : Value) (r : Option (List (List UInt8)) × Int) (w0 : World) (L0 : List Value) (hL0 : Old w0 L0) (hp0 : Mx w0 [] p0 a0m) (hp1 : Fd w0 [] p1 a1f) (hp2 : Mx w0 [] p2 a2o) (H : matrix_Mul a0m a1f a2o = some r) :
    Calls Try.prog 19 [p0, p1, p2].toArray w0 (fun e w' => ∃ u0 : Value, e = .returned (.tuple #[u0, (i64 r.2)]) ∧ Ext w0 w' ∧ Mx w' L0 u0 r.1) := by
  have hE : Ext w0 w0 := Ext.refl w0; unfold matrix_Mul at H; refine calls_W (n := 92) Try.func19 rfl rfl rfl ?_; refine W_seq ?_; refine W_reg (by kernel_rfl) ?_; refine wla rfl rfl (q_assign (v := (.pointer none)) rfl rfl) ?_; refine wla rfl rfl (q_assign (v := (i64 0)) rfl rfl) ?_; refine wl_nil ?_; refine W_th ?_; refine W_seq ?_; refine W_reg (by kernel_rfl) ?_; refine wla rfl rfl (q_move (v := p0) rfl rfl) ?_; obtain ⟨r1, hr1, H⟩ := bsi H; refine wls rfl rfl (stp_call (vs := [p0]) Try.func12 rfl rfl rfl (ar1 rfl) (matrix_Size_calls a0m p0 r1 _ (hp0.lift (Lift.ext hE _)) hr1) ?_); rintro _ w1 ⟨rfl, x1⟩; refine ⟨_, rfl, ?_⟩; have e2 := hE.trans x1; refine wla rfl rfl (q_move (v := (.tuple #[(i64 r1.1), (i64 r1.2)])) rfl rfl) ?_; refine wla rfl rfl (q_extract rfl rfl rfl) ?_; refine wla rfl rfl (q_extract rfl rfl rfl) ?_; refine wla rfl rfl (q_assign (v := (i64 r1.1)) rfl rfl) ?_; refine wla rfl rfl (q_assign (v := (i64 r1.2)) rfl rfl) ?_; refine wl_nil ?_; refine W_th ?_; refine W_seq ?_; refine W_reg (by kernel_rfl) ?_; refine wla rfl rfl (q_move (v := p2) rfl rfl) ?_; obtain ⟨r3, hr3, H⟩ := bsi H; refine wls rfl rfl (stp_call (vs := [p2]) Try.func12 rfl rfl rfl (ar1 rfl) (matrix_Size_calls a2o p2 r3 _ (hp2.lift (Lift.ext e2 _)) hr3) ?_); rintro _ w3 ⟨rfl, x3⟩; refine ⟨_, rfl, ?_⟩; have e4 := e2.trans x3; refine wla rfl rfl (q_move (v := (.tuple #[(i64 r3.1), (i64 r3.2)])) rfl rfl) ?_; refine wla rfl rfl (q_extract rfl rfl rfl) ?_; refine wla rfl rfl (q_extract rfl rfl rfl) ?_; refine wla rfl rfl (q_assign (v := (i64 r3.1)) rfl rfl) ?_; refine wla rfl rfl (q_assign (v := (i64 r3.2)) rfl rfl) ?_; refine wl_nil ?_; refine W_th ?_; refine W_seq ?_; refine W_seq ?_; refine W_reg (by kernel_rfl) ?_; refine wla rfl rfl (q_move (v := p1) rfl rfl) ?_; refine wla rfl rfl (q_eqF rfl rfl rfl rfl (hp1.lift (Lift.ext e4 _))) ?_; refine wlb rfl rfl (q_move (v := (.bool ((!a1f)))) rfl rfl) (fun hb5 => ?_) (fun hb5 => ?_)
  · replace H := (if_pos hb5).symm.trans H; refine wlk rfl rfl ?_; refine wlk rfl rfl ?_; refine wla rfl rfl (q_pick_t (v := (.bool true)) rfl rfl rfl) ?_; refine wla rfl rfl (q_move (v := (.bool true)) rfl rfl) ?_; refine wlk rfl rfl ?_; refine wlk rfl rfl ?_; refine wla rfl rfl (q_pick_t (v := (.bool true)) rfl rfl rfl) ?_; refine wla rfl rfl (q_move (v := (.bool true)) rfl rfl) ?_; refine wlk rfl rfl ?_; refine wlk rfl rfl ?_; refine wlk rfl rfl ?_; refine wla rfl rfl (q_pick_t (v := (.bool true)) rfl rfl rfl) ?_; refine wl_nil ?_; refine W_th ?_; refine W_cond true rfl rfl (fun _ => ?_) (fun hb => by cases hb); refine W_seq ?_; refine W_reg (by kernel_rfl) ?_; refine wla rfl rfl (q_assign (v := (.pointer none)) rfl rfl) ?_; refine wla rfl rfl (q_assign (v := (i64 1)) rfl rfl) ?_; refine wl_nil ?_; refine W_th ?_; refine W_ret ?_; refine th_r ?_; obtain rfl := osi H; refine rt2 (.pointer none) (i64 1) rfl rfl rfl rfl rfl rfl ?_; exact ⟨(.pointer none), rfl, e4, (Mx.nil _ _)⟩
  replace H := (if_neg (ne_true_of_eq_false hb5)).symm.trans H; refine wla rfl rfl (q_move (v := p0) rfl rfl) ?_; refine wla rfl rfl (q_eqM rfl rfl rfl rfl (hp0.lift (Lift.ext e4 _))) ?_; refine wla rfl rfl (q_pick_f (v := (.bool a0m.isNone)) rfl rfl rfl) ?_; refine wlb rfl rfl (q_move (v := (.bool a0m.isNone)) rfl rfl) (fun hb6 => ?_) (fun hb6 => ?_)
  · replace H := (if_pos hb6).symm.trans H; refine wlk rfl rfl ?_; refine wlk rfl rfl ?_; refine wla rfl rfl (q_pick_t (v := (.bool true)) rfl rfl rfl) ?_; refine wla rfl rfl (q_move (v := (.bool true)) rfl rfl) ?_; refine wlk rfl rfl ?_; refine wlk rfl rfl ?_; refine wlk rfl rfl ?_; refine wla rfl rfl (q_pick_t (v := (.bool true)) rfl rfl rfl) ?_; refine wl_nil ?_; refine W_th ?_; refine W_cond true rfl rfl (fun _ => ?_) (fun hb => by cases hb); refine W_seq ?_; refine W_reg (by kernel_rfl) ?_; refine wla rfl rfl (q_assign (v := (.pointer none)) rfl rfl) ?_; refine wla rfl rfl (q_assign (v := (i64 1)) rfl rfl) ?_; refine wl_nil ?_; refine W_th ?_; refine W_ret ?_; refine th_r ?_; obtain rfl := osi H; refine rt2 (.pointer none) (i64 1) rfl rfl rfl rfl rfl rfl ?_; exact ⟨(.pointer none), rfl, e4, (Mx.nil _ _)⟩
  replace H := (if_neg (ne_true_of_eq_false hb6)).symm.trans H; refine wla rfl rfl (q_move (v := p2) rfl rfl) ?_; refine wla rfl rfl (q_eqM rfl rfl rfl rfl (hp2.lift (Lift.ext e4 _))) ?_; refine wla rfl rfl (q_pick_f (v := (.bool a2o.isNone)) rfl rfl rfl) ?_; refine wlb rfl rfl (q_move (v := (.bool a2o.isNone)) rfl rfl) (fun hb7 => ?_) (fun hb7 => ?_)
  · replace H := (if_pos hb7).symm.trans H; refine wlk rfl rfl ?_; refine wlk rfl rfl ?_; refine wlk rfl rfl ?_; refine wla rfl rfl (q_pick_t (v := (.bool true)) rfl rfl rfl) ?_; refine wl_nil ?_; refine W_th ?_; refine W_cond true rfl rfl (fun _ => ?_) (fun hb => by cases hb); refine W_seq ?_; refine W_reg (by kernel_rfl) ?_; refine wla rfl rfl (q_assign (v := (.pointer none)) rfl rfl) ?_; refine wla rfl rfl (q_assign (v := (i64 1)) rfl rfl) ?_; refine wl_nil ?_; refine W_th ?_; refine W_ret ?_; refine th_r ?_; obtain rfl := osi H; refine rt2 (.pointer none) (i64 1) rfl rfl rfl rfl rfl rfl ?_; exact ⟨(.pointer none), rfl, e4, (Mx.nil _ _)⟩
  replace H := (if_neg (ne_true_of_eq_false hb7)).symm.trans H; refine wla rfl rfl (q_move (v := (i64 r1.2)) rfl rfl) ?_; refine wla rfl rfl (q_move (v := (i64 r3.1)) rfl rfl) ?_; refine wla rfl rfl (q_neI rfl rfl rfl) ?_; refine wla rfl rfl (q_pick_f (v := (.bool ((!decide (r1.2 = r3.1))))) rfl rfl rfl) ?_; refine wl_nil ?_; refine W_th ?_; refine W_cond _ rfl rfl (fun hb8 => ?_) (fun hb8 => ?_)
  · replace H := (if_neg (ndec_t hb8)).symm.trans H; refine W_seq ?_; refine W_reg (by kernel_rfl) ?_; refine wla rfl rfl (q_assign (v := (.pointer none)) rfl rfl) ?_; refine wla rfl rfl (q_assign (v := (i64 1)) rfl rfl) ?_; refine wl_nil ?_; refine W_th ?_; refine W_ret ?_; refine th_r ?_; obtain rfl := osi H; refine rt2 (.pointer none) (i64 1) rfl rfl rfl rfl rfl rfl ?_; exact ⟨(.pointer none), rfl, e4, (Mx.nil _ _)⟩
  replace H := (if_pos (ndec_f hb8)).symm.trans H; refine W_skip ?_; refine W_th ?_; refine W_seq ?_; refine W_reg (by kernel_rfl) ?_; refine wla rfl rfl (q_move (v := p0) rfl rfl) ?_; obtain ⟨c9, hc9, H⟩ := bsi H; obtain ⟨g9, uv9, hv9, hB9, hR9⟩ := MxT.some hp0 hc9; refine wla rfl rfl (q_nilP (g := g9) (m := 0) rfl (Eq.trans rfl hv9)) ?_; refine wla rfl rfl (q_fldP rfl fieldAtM rfl) ?_; refine wlq rfl rfl (q_loadB (u := uv9) rfl Try.isAgg22 rfl (hB9.ext e4) rfl) ?_; refine wla rfl rfl (q_len rfl T22.sl rfl (hR9.lift (Lift.ext e4 _))) ?_; refine wla rfl rfl (q_move (v := (i64 r3.2)) rfl rfl) ?_; obtain ⟨r10, hr10, H⟩ := bsi H; refine wls rfl rfl (stp_call (vs := [(i64 ((c9.length : Int))), (i64 r3.2)]) Try.func35 rfl rfl rfl (ar2 rfl rfl) (matrix_blank_calls (c9.length : Int) r3.2  r10 _  hr10) ?_); rintro _ w10 ⟨v10, rfl, x10, i10_0⟩; refine ⟨_, rfl, ?_⟩; obtain ⟨g10, uv10, G10, rfl, nB10, hB10, nG10, hD10, hq10⟩ := i10_0; have n11 := Nw.ext e4 nB10; have n12 := Nw.ext e4 nG10; have e13 := e4.trans x10; refine wla rfl rfl (q_assign (v := (bp g10)) rfl rfl) ?_; refine wl_nil ?_; refine W_th ?_; refine W_seq ?_; refine W_seq ?_; refine W_reg (by kernel_rfl) ?_; refine wla rfl rfl (q_move (v := p0) rfl rfl) ?_; refine wla rfl rfl (q_nilP (g := g9) (m := 0) rfl (Eq.trans rfl hv9)) ?_; refine wla rfl rfl (q_fldP rfl fieldAtM rfl) ?_; refine wlq rfl rfl (q_loadB (u := uv9) rfl Try.isAgg22 rfl (hB9.ext e13) rfl) ?_; refine wla rfl rfl (q_len rfl T22.sl rfl (hR9.lift (Lift.ext e13 _))) ?_; refine wla rfl rfl (q_move (v := (i64 0)) rfl rfl) ?_; refine wl_nil ?_; refine W_th ?_; obtain ⟨x14, G14, H⟩ := bsi H; refine W_mid (fun f w => ∃ Gbbpg10_45 : Value, f 12 = (bp g10) ∧ f 92 = undef ∧ Ext w0 w ∧ OwD w 30 5 Gbbpg10_45 uv10 x14 ∧ Nw w0 Gbbpg10_45 ∧ Blk w g10 65 #[uv10] ∧ Nw w0 (bp g10) ∧ Nq Gbbpg10_45 (bp g10)) ?_ ?_
  · refine W_block ?_; refine W_loop (fun s14 f w => ∃ Gbbpg10_43 : Value, f 1 = p1 ∧ f 2 = p2 ∧ f 12 = (bp g10) ∧ f 52 = uv9 ∧ f 53 = (i64 ((c9.length : Int))) ∧ f 54 = (i64 s14.2) ∧ f 92 = undef ∧ Ext w0 w ∧ OwD w 30 5 Gbbpg10_43 uv10 s14.1 ∧ Nw w0 Gbbpg10_43 ∧ Blk w g10 65 #[uv10] ∧ Nw w0 (bp g10) ∧ Nq Gbbpg10_43 (bp g10)) G14 ?_ ?_
    · exact ⟨G10, rfl, rfl, rfl, rfl, rfl, rfl, rfl, e13, hD10, n12, hB10, n11, hq10.symm⟩
    rintro s14 _ _ w15 ⟨Gbbpg10_15, s1_15, s2_15, s12_15, s52_15, s53_15, s54_15, s92_15, hE15, o0_15, n0_15, o1_15, n1_15, q0_1_15⟩ H14 hr14; refine W_seq ?_; refine W_reg (by kernel_rfl) ?_; refine wla rfl rfl (q_ltI rfl s54_15 s53_15) ?_; refine wl_nil ?_; refine W_th ?_; refine W_seq ?_; refine W_cond _ rfl rfl (fun hb16 => ?_) (fun hb16 => ?_)
    · replace H14 := (if_pos (of_decide_eq_true hb16)).symm.trans H14; refine W_skip ?_; refine W_th ?_; refine W_seq ?_; refine W_block ?_; refine W_seq ?_; refine W_reg (by kernel_rfl) ?_; refine wla rfl rfl (q_move (v := (i64 s14.2)) rfl s54_15) ?_; obtain ⟨c17, hc17, H14⟩ := bsi H14; refine wla rfl rfl (q_adr rfl T22 s52_15 s54_15 (hR9.lift (Lift.ext hE15 _)) hc17) ?_; refine wlq_load rfl rfl rfl T22 rfl hR9 hc17 hE15 (fun v18 ha18 => ?_); refine wla rfl rfl (q_assign (v := (i64 s14.2)) rfl rfl) ?_; refine wla rfl rfl (q_assign (v := v18) rfl rfl) ?_; refine wl_nil ?_; refine W_th ?_; refine W_seq ?_; refine W_reg (by kernel_rfl) ?_; refine wla rfl rfl (q_move (v := v18) rfl rfl) ?_; refine wla rfl rfl (q_len rfl T30.sl rfl (ha18.lift (Lift.ext hE15 _))) ?_; refine wla rfl rfl (q_move (v := (i64 0)) rfl rfl) ?_; refine wl_nil ?_; refine W_th ?_; obtain ⟨x19, G19, H14⟩ := bsi H14; refine W_mid (fun f w => ∃ Gbbpg10_42 : Value, f 1 = p1 ∧ f 2 = p2 ∧ f 12 = (bp g10) ∧ f 52 = uv9 ∧ f 53 = (i64 ((c9.length : Int))) ∧ f 54 = (i64 s14.2) ∧ f 92 = undef ∧ Ext w0 w ∧ OwD w 30 5 Gbbpg10_42 uv10 x19 ∧ Nw w0 Gbbpg10_42 ∧ Blk w g10 65 #[uv10] ∧ Nw w0 (bp g10) ∧ Nq Gbbpg10_42 (bp g10)) ?_ ?_
      · refine W_block ?_; refine W_loop (fun s19 f w => ∃ Gbbpg10_40 : Value, f 1 = p1 ∧ f 2 = p2 ∧ f 12 = (bp g10) ∧ f 13 = (i64 s14.2) ∧ f 52 = uv9 ∧ f 53 = (i64 ((c9.length : Int))) ∧ f 54 = (i64 s14.2) ∧ f 59 = v18 ∧ f 60 = (i64 ((c17.length : Int))) ∧ f 61 = (i64 s19.2) ∧ f 92 = undef ∧ Ext w0 w ∧ OwD w 30 5 Gbbpg10_40 uv10 s19.1 ∧ Nw w0 Gbbpg10_40 ∧ Blk w g10 65 #[uv10] ∧ Nw w0 (bp g10) ∧ Nq Gbbpg10_40 (bp g10)) G19 ?_ ?_
        · exact ⟨Gbbpg10_15, s1_15, s2_15, s12_15, rfl, s52_15, s53_15, s54_15, rfl, rfl, rfl, s92_15, hE15, o0_15, n0_15, o1_15, n1_15, q0_1_15⟩
        rintro s19 _ _ w20 ⟨Gbbpg10_20, s1_20, s2_20, s12_20, s13_20, s52_20, s53_20, s54_20, s59_20, s60_20, s61_20, s92_20, hE20, o0_20, n0_20, o1_20, n1_20, q0_1_20⟩ H19 hr19; refine W_seq ?_; refine W_reg (by kernel_rfl) ?_; refine wla rfl rfl (q_ltI rfl s61_20 s60_20) ?_; refine wl_nil ?_; refine W_th ?_; refine W_seq ?_; refine W_cond _ rfl rfl (fun hb21 => ?_) (fun hb21 => ?_)
        · replace H19 := (if_pos (of_decide_eq_true hb21)).symm.trans H19; refine W_skip ?_; refine W_th ?_; refine W_seq ?_; refine W_block ?_; refine W_seq ?_; refine W_reg (by kernel_rfl) ?_; refine wla rfl rfl (q_move (v := (i64 s19.2)) rfl s61_20) ?_; obtain ⟨c22, hc22, H19⟩ := bsi H19; refine wla rfl rfl (q_adr rfl T30 s59_20 s61_20 (ha18.lift (Lift.ext hE20 _)) hc22) ?_; refine wlq rfl rfl (q_loadS rfl T30 rfl (ha18.lift (Lift.ext hE20 _)) hc22) ?_; refine wla rfl rfl (q_assign (v := (i64 s19.2)) rfl rfl) ?_; refine wla rfl rfl (q_assign (v := (u8 c22)) rfl rfl) ?_; refine wl_nil ?_; refine W_th ?_; refine W_draw [3, 9, 12, 17, 20] [(0, 0), (1, 0), (2, 0), (3, 1), (4, 0), (5, 0), (6, 0), (7, 0), (8, 0), (9, 1), (10, 0), (11, 0), (12, 1), (13, 0), (14, 0), (15, 0), (16, 0), (17, 1), (18, 0), (19, 0), (20, 1), (21, 2), (22, 0), (23, 2)] mixed (by kernel_rfl) (by kernel_rfl) (by kernel_rfl) (by kernel_rfl) ?_; have x23 := Ext.drew w20; replace o0_20 := o0_20.ext x23; replace o1_20 := o1_20.ext x23; have e24 := hE20.trans x23; refine wsa rfl rfl rfl (q_move (v := (bp g10)) rfl s12_20) ?_; refine wsa rfl rfl rfl (q_nilP rfl rfl) ?_; refine wsa rfl rfl rfl (q_fldP rfl fieldAtM rfl) ?_; refine wsq rfl rfl rfl (q_loadB (u := uv10) rfl Try.isAgg22 rfl o1_20 rfl) ?_; refine wsa rfl rfl rfl (q_move (v := (i64 s14.2)) rfl s13_20) ?_; refine wsa rfl rfl rfl (q_move (v := p1) rfl s1_20) ?_; refine wsa rfl rfl rfl (q_move (v := (bp g10)) rfl s12_20) ?_; refine wsa rfl rfl rfl (q_nilP rfl rfl) ?_; refine wsa rfl rfl rfl (q_fldP rfl fieldAtM rfl) ?_; refine wsq rfl rfl rfl (q_loadB (u := uv10) rfl Try.isAgg22 rfl o1_20 rfl) ?_; refine wsa rfl rfl rfl (q_move (v := (i64 s14.2)) rfl s13_20) ?_; obtain ⟨c25, hc25, H19⟩ := bsi H19; refine wsa rfl rfl rfl (q_adr rfl T22 rfl rfl o0_20.rd hc25) ?_; refine wsq_loadD rfl rfl rfl rfl T22 rfl o0_20 hc25 (fun v26 hD26 => ?_); refine wsa rfl rfl rfl (q_move (v := (u8 c22)) rfl rfl) ?_; refine wsa rfl rfl rfl (q_move (v := p2) rfl s2_20) ?_; obtain ⟨c27, hc27, H19⟩ := bsi H19; obtain ⟨g27, uv27, hv27, hB27, hR27⟩ := MxT.some hp2 hc27; refine wsa rfl rfl rfl (q_nilP (g := g27) (m := 0) rfl (Eq.trans rfl hv27)) ?_; refine wsa rfl rfl rfl (q_fldP rfl fieldAtM rfl) ?_; refine wsq rfl rfl rfl (q_loadB (u := uv27) rfl Try.isAgg22 rfl (hB27.ext e24) rfl) ?_; refine wsa rfl rfl rfl (q_move (v := (i64 s19.2)) rfl rfl) ?_; obtain ⟨c28, hc28, H19⟩ := bsi H19; refine wsa rfl rfl rfl (q_adr rfl T22 rfl rfl (hR27.lift (Lift.ext e24 _)) hc28) ?_; refine wsq_load rfl rfl rfl rfl T22 rfl hR27 hc28 e24 (fun v29 ha29 => ?_); obtain ⟨r30, hr30, H19⟩ := bsi H19; refine wss rfl rfl rfl (stp_call (vs := [p1, v26, (u8 c22), v29]) Try.func40 rfl rfl rfl (ar4 rfl rfl rfl rfl) (field_Sum_calls a1f c25 c22 c28 p1 v26 v29 r30 _ (hp1.lift (Lift.ext e24 _)) (OwD.rowrd o0_20 hD26 hc25) (ha29.lift (Lift.ext e24 _)) hr30) ?_); rintro _ w30 ⟨v30, rfl, x30, n30_0, o30_0⟩
          refine ⟨_, rfl, x30, ?_⟩; have o30 : OwK (Sc u8) w30 (v30 :: (Gbbpg10_20 :: (bp g10) :: L0)) 5 v30 r30 := OwK.scal o30_0 _; have q31 : Nq Gbbpg10_20 v30 := o0_20.nq n30_0; have q32 : Nq (bp g10) v30 := o1_20.nq n30_0; replace o0_20 := o0_20.ext x30; replace o1_20 := o1_20.ext x30; have n34 := Nw.ext e24 n30_0; have e33 := e24.trans x30; refine wsa rfl rfl rfl (q_adr rfl T22 rfl rfl o0_20.rd hc25) ?_; refine wsn rfl (by kernel_rfl) rfl rfl (stp_storeRow (x := v30) [v30] ((bp g10) :: L0) rfl T22 rfl rfl o0_20 hc25 o30 q31.symm ?_); intro G36 w35 o35 g35 hG35 l35; replace o30 := o30.other (Sc.stab _) g35 q31.symm l35; replace o1_20 := o1_20.other g35 q0_1_20.symm; have e37 := e33.grown g35 n0_20; have q38 : Nq (bp g10) G36 := OwD.relist hG35 q0_1_20.symm q32
          have n39 : Nw w0 G36 := fun k hk => (hG35 k hk).elim (n0_20 k) (n34 k)
          refine ws_nil ?_; refine bk_n ?_; refine W_th ?_; refine W_reg (by kernel_rfl) ?_; refine wla rfl rfl (q_addI rfl s61_20 rfl) ?_; refine wla rfl rfl (q_move (v := (i64 ((wI (s19.2 + 1))))) rfl rfl) ?_; refine wl_nil ?_; obtain rfl := osi H19; exact ⟨_, rfl, G36, s1_20, s2_20, s12_20, s13_20, s52_20, s53_20, s54_20, s59_20, s60_20, rfl, s92_20, e37, o35, n39, o1_20, n1_20, q38.symm⟩
        replace H19 := (if_neg (of_decide_eq_false hb21)).symm.trans H19; refine W_exit ?_; refine th_x ?_; obtain rfl := osi H19; obtain rfl := hr19 _ rfl; refine th_x ?_; refine bk_x ?_; exact ⟨Gbbpg10_20, s1_20, s2_20, s12_20, s52_20, s53_20, s54_20, s92_20, hE20, o0_20, n0_20, o1_20, n1_20, q0_1_20⟩
      rintro _ w41 ⟨Gbbpg10_41, s1_41, s2_41, s12_41, s52_41, s53_41, s54_41, s92_41, hE41, o0_41, n0_41, o1_41, n1_41, q0_1_41⟩; refine bk_n ?_; refine W_th ?_; refine W_reg (by kernel_rfl) ?_; refine wla rfl rfl (q_addI rfl s54_41 rfl) ?_; refine wla rfl rfl (q_move (v := (i64 ((wI (s14.2 + 1))))) rfl rfl) ?_; refine wl_nil ?_; obtain rfl := osi H14; exact ⟨_, rfl, Gbbpg10_41, s1_41, s2_41, s12_41, s52_41, s53_41, rfl, s92_41, hE41, o0_41, n0_41, o1_41, n1_41, q0_1_41⟩
    replace H14 := (if_neg (of_decide_eq_false hb16)).symm.trans H14; refine W_exit ?_; refine th_x ?_; obtain rfl := osi H14; obtain rfl := hr14 _ rfl; refine th_x ?_; refine bk_x ?_; exact ⟨Gbbpg10_15, s12_15, s92_15, hE15, o0_15, n0_15, o1_15, n1_15, q0_1_15⟩
  rintro _ w44 ⟨Gbbpg10_44, s12_44, s92_44, hE44, o0_44, n0_44, o1_44, n1_44, q0_1_44⟩; refine W_th ?_; refine W_seq ?_; refine W_reg (by kernel_rfl) ?_; refine wla rfl rfl (q_move (v := (bp g10)) rfl s12_44) ?_; refine wla rfl rfl (q_assign (v := (bp g10)) rfl rfl) ?_; refine wla rfl rfl (q_assign (v := (i64 0)) rfl rfl) ?_; refine wl_nil ?_; refine W_th ?_; refine W_ret ?_; obtain rfl := osi H; refine rt2 (bp g10) (i64 0) rfl rfl rfl rfl rfl s92_44 ?_; exact ⟨(bp g10), rfl, hE44, (Mx.mk o1_44 (hL0 _ (n1_44 _ (hs_bp' _))) (o0_44.rw L0 (fun k hk => hL0 k (n0_44 k hk))))⟩
end Gk

/- Pure loops: how they are shown to end, and with what. Numbers of Go as plain numbers. No condition. -/
namespace Gk
theorem iterC_inv {S X : Type} {body : S → Option (S ⊕ X)} (I : S → Prop) (m : S → Nat) (post : X → Prop)
    (step : ∀ s, I s → (∃ s', body s = some (.inl s') ∧ I s' ∧ m s' < m s) ∨ ∃ x, body s = some (.inr x) ∧ post x) (s : S) (h : I s) : ∃ x, iterC body s = some x ∧ post x := by
  generalize hk : m s = k
  induction k using Nat.strongRecOn generalizing s with
  | ind k ih =>
    rw [iterC_step]
    rcases step s h with ⟨s', hb, hI, hm⟩ | ⟨x, hb, hp⟩
    · obtain ⟨x, hx, hp⟩ := ih (m s') (by omega) s' hI rfl
      exact ⟨x, by rw [hb]; simpa using hx, hp⟩
    · exact ⟨x, by rw [hb]; rfl, hp⟩
theorem bind_of {α β : Type} {o : Option α} {g : α → Option β} {x : α} {r : Option β} (h : o = some x) (h2 : g x = r) : o.bind g = r := by rw [h]; exact h2
theorem iterC_up {σ X : Type} {body : σ × Int → Option ((σ × Int) ⊕ X)} {s0 : σ} (I : Nat → σ → Prop) (n : Nat) (post : X → Prop) (h0 : I 0 s0)
    (hstep : ∀ (i : Nat) (s : σ), i < n → I i s → ∃ s', body (s, (i : Int)) = some (.inl (s', ((i + 1 : Nat) : Int))) ∧ I (i + 1) s')
    (hend : ∀ s, I n s → ∃ x, body (s, (n : Int)) = some (.inr x) ∧ post x) : ∃ x, iterC body (s0, 0) = some x ∧ post x := by
  refine iterC_inv (fun s => ∃ i : Nat, i ≤ n ∧ s.2 = (i : Int) ∧ I i s.1) (fun s => n - s.2.toNat) post ?_ (s0, 0) ⟨0, Nat.zero_le _, rfl, h0⟩
  rintro ⟨s, _⟩ ⟨i, hi, rfl, hI⟩
  by_cases h : i < n
  · obtain ⟨s', hb, hI'⟩ := hstep i s h hI
    exact .inl ⟨_, hb, ⟨i + 1, h, rfl, hI'⟩, by simp only [Int.toNat_natCast]; omega⟩
  · obtain rfl : i = n := by omega
    exact .inr (hend s hI)
theorem iterC_range {S X : Type} {body : S → Option (S ⊕ X)} (s : Nat → S) (k : Nat) {x : X} (hs : ∀ i, i < k → body (s i) = some (.inl (s (i + 1)))) (he : body (s k) = some (.inr x)) : iterC body (s 0) = some x := by
  have : ∀ j, j ≤ k → iterC body (s (k - j)) = some x := by
    intro j
    induction j with
    | zero => intro _; rw [iterC_step, Nat.sub_zero, he]; rfl
    | succ j ih =>
      intro hj
      rw [iterC_step, hs (k - (j + 1)) (by omega)]
      have e : k - (j + 1) + 1 = k - j := by omega
      rw [e]; exact ih (by omega)
  have h := this k (Nat.le_refl _)
  rwa [Nat.sub_self] at h
theorem iterC_count {S X : Type} {body : S → Option (S ⊕ X)} {s0 : S} (s : Nat → S) (k : Nat) (x : X) (h0 : s0 = s 0) (hs : ∀ i, i < k → body (s i) = some (.inl (s (i + 1)))) (he : body (s k) = some (.inr x)) : iterC body s0 = some x := by
  rw [h0]; exact iterC_range s k hs he
theorem wI_nat {n : Nat} (h : n < 9223372036854775808) : wI (n : Int) = n := wI_of (by omega) (by omega)
theorem remI_nat (a b : Nat) (h : 0 < b) : remI (a : Int) (b : Int) = some ((a % b : Nat) : Int) := by
  unfold remI; rw [if_neg (by omega)]; rw [← Int.ofNat_tmod]
end Gk

/- The field of 256 numbers, in plain Lean: what the program's and the document's product come to. No condition. -/
set_option linter.unusedSimpArgs false
namespace Gf
theorem bit_shr (b : UInt8) : (bit (Gk.shr8 b 1) 0 = bit b 1 ∧ bit (Gk.shr8 b 1) 1 = bit b 2 ∧ bit (Gk.shr8 b 1) 2 = bit b 3 ∧ bit (Gk.shr8 b 1) 3 = bit b 4) ∧
    bit (Gk.shr8 b 1) 4 = bit b 5 ∧ bit (Gk.shr8 b 1) 5 = bit b 6 ∧ bit (Gk.shr8 b 1) 6 = bit b 7 ∧ bit (Gk.shr8 b 1) 7 = false := by
  revert b; refine all8 ?_; decide +kernel
theorem bit_and (b : UInt8) : (b &&& 1 = 1) ↔ bit b 0 = true := by
  revert b; refine all8 ?_; decide +kernel
theorem mul_step (a b : UInt8) : mul a b = sel (bit b 0) a ^^^ mul (dbl a) (Gk.shr8 b 1) := by
  obtain ⟨⟨h0, h1, h2, h3⟩, h4, h5, h6, h7⟩ := bit_shr b
  unfold mul
  rw [h0, h1, h2, h3, h4, h5, h6, h7]
  simp [dblN, sel, UInt8.xor_assoc]
end Gf
namespace Gk
open Gf
theorem double_eq (a : UInt8) : field_double a = some (dbl a) := by
  revert a
  refine all8 ?_
  unfold field_double
  decide +kernel
theorem Slow_loop (a b o : UInt8) : iterC (fun s1 : UInt8 × UInt8 × UInt8 =>
    (if s1.2.1 = (0 : UInt8) then some (.inr s1.2.2) else
    (if (s1.2.1 &&& (1 : UInt8)) = (1 : UInt8) then ((field_double s1.1).bind fun r5 => some (.inl (r5, (shr8 s1.2.1 1), (s1.2.2 ^^^ s1.1))))
    else ((field_double s1.1).bind fun r7 => some (.inl (r7, (shr8 s1.2.1 1), s1.2.2)))))) (a, b, o) = some (o ^^^ mul a b) := by
  simp only [double_eq, Option.bind_some]
  generalize hk : b.toNat = k
  induction k using Nat.strongRecOn generalizing a b o with
  | ind k ih =>
    rw [iterC_step]
    by_cases h : b = 0
    · subst h; simp [mul_zero]
    · have hlt : (shr8 b 1).toNat < k := by
        have : b.toNat ≠ 0 := fun e => h (UInt8.toNat_inj.1 (by simpa using e))
        have := b.toNat_lt
        simp [shr8]; omega
      simp only [if_neg h]
      by_cases h1 : b &&& 1 = 1
      · simp only [if_pos h1, Option.bind_some]
        rw [ih _ hlt _ _ _ rfl, mul_step a b, (bit_and b).1 h1]
        simp [sel, UInt8.xor_assoc]
      · simp only [if_neg h1, Option.bind_some]
        have h0 : bit b 0 = false := by cases hb : bit b 0 with | false => rfl | true => exact absurd ((bit_and b).2 hb) h1
        rw [ih _ hlt _ _ _ rfl, mul_step a b, h0]
        simp [sel]
theorem Slow_eq (a b : UInt8) : field_Slow a b = some (mul a b) := by
  unfold field_Slow
  rw [Slow_loop]; simp
end Gk

/- The field is made: its tables are those of Gf. No condition. -/
set_option linter.unusedVariables false
set_option linter.unusedSimpArgs false
namespace Gk
open Go Go.Proofs
def zF : Array Value := fieldCells (List.replicate 510 0) (List.replicate 256 0)
theorem zeroF : (Try.prog.info? 71).map (fun i => i.zero) = some (some (.agg zF)) := by kernel_rfl
theorem build0 (w : World) : (Instr.build 71 #[]).run Try.prog w = .ok (.agg zF) w := by
  have h := zeroF
  cases hi : Try.prog.info? 71 with
  | none => rw [hi] at h; cases h
  | some i =>
    rw [hi] at h
    have hz : i.zero = some (.agg zF) := by simpa using h
    have hzr : (zeroValue 71).run Try.prog w = .ok (.agg zF) w := by
      simp [zeroValue, typeInfo, hi, hz]
    simp [Instr.build, hzr, Value.cells, Instr.fill]
theorem fc_pw (pw : List UInt8) (lg : List Int) (k : Nat) (c : UInt8) (h : k < pw.length) : (fieldCells pw lg).setIfInBounds k (u8 c) = fieldCells (pw.set k c) lg := by
  simp [fieldCells, List.set_append, h, List.map_set]
theorem fc_lg (pw : List UInt8) (lg : List Int) (k : Nat) (c : Int) : (fieldCells pw lg).setIfInBounds (pw.length + k) (i64 c) = fieldCells pw (lg.set k c) := by
  simp [fieldCells, List.set_append, List.map_set]
theorem fc_size (pw : List UInt8) (lg : List Int) : (fieldCells pw lg).size = pw.length + lg.length := by simp [fieldCells]
def newB (n : Nat) : Option (Nat ⊕ Unit) := if n < 255 then some (.inl (n + 1)) else some (.inr ())
theorem newB_some : iterC newB 0 = some () := iterC_count (fun n => n) 255 () rfl (fun i hi => by simp [newB, hi]) (by simp [newB])
def field_New : Option Bool := some true
set_option maxRecDepth 100000 in
set_option maxHeartbeats 8000000 in
theorem field_New_calls (r : Bool) (w0 : World) (L0 : List Value) (hL0 : Old w0 L0) (H : field_New = some r) :
    Calls Try.prog 17 [].toArray w0 (fun e w' => ∃ u0 : Value, e = .returned u0 ∧ Ext w0 w' ∧ Fd w' L0 u0 r) := by
  have hE : Ext w0 w0 := Ext.refl w0; obtain rfl := osi H; refine calls_W (n := 32) Try.func17 rfl rfl rfl ?_; refine W_seq ?_; refine W_reg (by kernel_rfl) ?_; refine wla rfl rfl (q_assign (v := .pointer none) rfl rfl) ?_; refine wl_nil ?_; refine W_th ?_; refine W_seq ?_; refine W_reg (by kernel_rfl) ?_; refine wla rfl rfl (v := .agg zF) (fun w => by simp [execOp, build0]) ?_; refine wls rfl rfl (stp_box (v := .agg zF) rfl rfl ?_); intro w1 hb hg; have e1 := hE.trans (grown_ext hg)
  generalize hgg : w0.heap.size = g at hb
  have hgn : w0.heap.size ≤ g := Nat.le_of_eq hgg; refine wla rfl rfl (q_assign (v := .pointer (some ⟨g, 0, none⟩)) rfl rfl) ?_; refine wl_nil ?_; refine W_th ?_; refine W_seq ?_; refine W_reg (by kernel_rfl) ?_; refine wla rfl rfl (q_assign (v := u8 1) rfl (cst8 1 rfl)) ?_; refine wl_nil ?_; refine W_th ?_; refine W_seq ?_; refine W_seq ?_; refine W_reg (by kernel_rfl) ?_; refine wla rfl rfl (q_move (v := i64 0) rfl rfl) ?_; refine wl_nil ?_; refine W_th ?_; refine W_mid (fun f w => f 32 = undef ∧ f 1 = .pointer (some ⟨g, 0, none⟩) ∧ Ext w0 w ∧ Blk w g 71 (fieldCells Gf.pwT Gf.lgT)) ?_ ?_
  · refine W_block ?_; refine W_loop (fun (n : Nat) f w => f 32 = undef ∧ n ≤ 255 ∧ f 6 = i64 (n : Int) ∧ f 1 = .pointer (some ⟨g, 0, none⟩) ∧ f 2 = u8 (Gf.pw n) ∧ Ext w0 w ∧ Blk w g 71 (fieldCells (Gf.tabN n).1 (Gf.tabN n).2.1)) newB_some ?_ ?_
    · exact ⟨rfl, by decide, rfl, rfl, rfl, e1, hb⟩
    rintro n r _ w ⟨hm, hn, s6, s1, s2, e, hB⟩ hr hx; have hl := Gf.tab_len n; refine W_seq ?_; refine W_reg (by kernel_rfl) ?_; refine wla rfl rfl (q_ltI rfl s6 rfl) ?_; refine wl_nil ?_; refine W_th ?_; refine W_seq ?_; refine W_cond _ rfl rfl (fun hb9 => ?_) (fun hb9 => ?_)
    · have hlt : n < 255 := by have := of_decide_eq_true hb9; omega
      have hr' : some (Sum.inl (n + 1)) = some r := by rw [← hr, newB, if_pos hlt]
      obtain rfl := osi hr'; refine W_skip ?_; refine W_th ?_; refine W_seq ?_; refine W_block ?_; refine W_seq ?_; refine W_reg (by kernel_rfl) ?_; refine wla rfl rfl (q_move (v := i64 (n : Int)) rfl s6) ?_; refine wla rfl rfl (q_assign (v := i64 (n : Int)) rfl rfl) ?_; refine wl_nil ?_; refine W_th ?_; refine W_seq ?_; refine W_draw [] [(0, 0), (1, 0), (2, 0), (3, 0), (4, 0), (5, 0), (6, 0), (7, 0), (8, 0), (9, 0), (11, 0), (12, 0), (10, 2), (13, 0), (14, 2)] mixed (by kernel_rfl) (by kernel_rfl) (by kernel_rfl) (by kernel_rfl) ?_; have x1 := Ext.drew w; replace e := e.trans x1; replace hB := hB.ext x1
      have ew : wI ((n : Int) + 255) = ((n + 255 : Nat) : Int) := by rw [wI_of (by omega) (by omega)]; omega
      refine wsa rfl rfl rfl (q_move (v := .pointer (some ⟨g, 0, none⟩)) rfl s1) ?_; refine wsa rfl rfl rfl (q_move (v := i64 (n : Int)) rfl rfl) ?_; refine wsa rfl rfl rfl (q_move (v := .pointer (some ⟨g, 0, none⟩)) rfl s1) ?_; refine wsa rfl rfl rfl (q_move (v := i64 (n : Int)) rfl rfl) ?_; refine wsa rfl rfl rfl (q_addI rfl rfl rfl) ?_; rw [ew]; refine wsa rfl rfl rfl (q_move (v := u8 (Gf.pw n)) rfl s2) ?_; refine wsa rfl rfl rfl (q_move (v := u8 (Gf.pw n)) rfl s2) ?_; refine wsa rfl rfl rfl (q_nilP rfl rfl) ?_; refine wsa rfl rfl rfl (q_fldP rfl fieldAt0 rfl) ?_; refine wsa rfl rfl rfl (q_ixP (i := n) rfl Try.underlying68 Try.sizeOf5 rfl rfl (by omega)) ?_; refine wsa rfl rfl rfl (q_nilP rfl rfl) ?_; refine wsa rfl rfl rfl (q_fldP rfl fieldAt0 rfl) ?_; refine wsn rfl (by kernel_rfl) rfl rfl (stp_storeB (u := u8 (Gf.pw n)) rfl Try.sizeOf5 rfl rfl hB (by rw [fc_size, hl.1, hl.2]; omega) rfl ?_)
      intro w2 hB2 g2; rw [show 0 + 0 + n = n by omega, fc_pw _ _ _ _ (by rw [hl.1]; omega)] at hB2
      replace e := e.grownB g2 hgn; refine wsa rfl rfl rfl (q_ixP (i := n + 255) rfl Try.underlying68 Try.sizeOf5 rfl rfl (by omega)) ?_; refine wsn rfl (by kernel_rfl) rfl rfl (stp_storeB (u := u8 (Gf.pw n)) rfl Try.sizeOf5 rfl rfl hB2 (by rw [fc_size, List.length_set, hl.1, hl.2]; omega) rfl ?_)
      intro w3 hB3 g3; rw [show 0 + 0 + (n + 255) = n + 255 by omega, fc_pw _ _ _ _ (by rw [List.length_set, hl.1]; omega)] at hB3
      replace e := e.grownB g3 hgn; refine ws_nil ?_; refine W_th ?_; refine W_seq ?_; refine W_reg (by kernel_rfl) ?_; refine wla rfl rfl (q_move (v := .pointer (some ⟨g, 0, none⟩)) rfl s1) ?_; refine wla rfl rfl (q_move (v := u8 (Gf.pw n)) rfl s2) ?_; refine wla rfl rfl (q_move (v := i64 (n : Int)) rfl rfl) ?_; refine wla rfl rfl (q_nilP rfl rfl) ?_; refine wla rfl rfl (q_fldP rfl fieldAt1 rfl) ?_; refine wla rfl rfl (q_ixP (i := (Gf.pw n).toNat) rfl Try.underlying69 Try.sizeOf3 rfl rfl (Gf.pw n).toNat_lt) ?_; refine wln rfl rfl (stp_storeB (u := i64 (n : Int)) rfl Try.sizeOf3 rfl rfl hB3 (by rw [fc_size, List.length_set, List.length_set, hl.1, hl.2]; have := (Gf.pw n).toNat_lt; omega) rfl ?_)
      intro w4 hB4 g4; rw [show 0 + 510 + (Gf.pw n).toNat = (((Gf.tabN n).1.set n (Gf.pw n)).set (n + 255) (Gf.pw n)).length + (Gf.pw n).toNat by rw [List.length_set, List.length_set, hl.1], fc_lg] at hB4; replace e := e.grownB g4 hgn; refine wl_nil ?_; refine W_th ?_; refine W_reg (by kernel_rfl) ?_; refine wla rfl rfl (q_move (v := u8 (Gf.pw n)) rfl s2) ?_; refine wls rfl rfl (stp_call (vs := [u8 (Gf.pw n), u8 3]) Try.func39 rfl rfl rfl (ar2 rfl (cst8 3 rfl)) (field_Slow_calls (Gf.pw n) 3 _ _ (Slow_eq _ _)) ?_); rintro _ w5 ⟨rfl, x5⟩; refine ⟨_, rfl, ?_⟩; replace e := e.trans x5; replace hB4 := hB4.ext x5; refine wla rfl rfl (q_assign (v := u8 (Gf.mul (Gf.pw n) 3)) rfl rfl) ?_; refine wl_nil ?_; refine bk_n ?_; refine W_th ?_; refine W_reg (by kernel_rfl) ?_; refine wla rfl rfl (q_addI rfl s6 rfl) ?_
      have ew2 : wI ((n : Int) + 1) = ((n + 1 : Nat) : Int) := by rw [wI_of (by omega) (by omega)]; omega
      rw [ew2]; refine wla rfl rfl (q_move (v := i64 ((n + 1 : Nat) : Int)) rfl rfl) ?_; refine wl_nil ?_; refine ⟨_, rfl, hm, by omega, rfl, s1, rfl, e, ?_⟩; rw [← Gf.tab_pw n] at hB4; exact hB4
    have hge : n = 255 := by have := of_decide_eq_false hb9; omega
    subst hge
    have hr' : some (Sum.inr ()) = some r := by rw [← hr]; rfl
    obtain rfl := osi hr'; refine W_exit ?_; refine th_x ?_; refine th_x ?_; refine bk_x ?_; exact ⟨hm, s1, e, hB⟩
  rintro _ w ⟨hm, s1, e, hB⟩; refine W_th ?_; refine W_seq ?_; refine W_reg (by kernel_rfl) ?_; refine wla rfl rfl (q_move (v := .pointer (some ⟨g, 0, none⟩)) rfl s1) ?_; refine wla rfl rfl (q_assign (v := .pointer (some ⟨g, 0, none⟩)) rfl rfl) ?_; refine wl_nil ?_; refine W_th ?_; refine W_ret ?_; refine rt1 (.pointer (some ⟨g, 0, none⟩)) rfl rfl rfl hm ?_; exact ⟨.pointer (some ⟨g, 0, none⟩), rfl, e, .inr ⟨rfl, g, rfl, hL0 g hgn, hB⟩⟩
end Gk

/- Cuts with three numbers; results that are read and not owned; rows that are put behind rows; rows that grow in their place. No condition. -/
set_option linter.unusedVariables false
set_option linter.unusedSimpArgs false
namespace Gk
open Go Go.RowKit
section
variable {P : Program} {o : Oper} {f : Nat → Value} {w : World} {L : List Value}
end
theorem hs_nilG {k : Nat} : ¬ Hs (.tuple #[.slice none 0 0]) k := fun h => by
  obtain ⟨x, hx, e⟩ := hs_tup h
  have hx : x ∈ [Value.slice none 0 0] := hx
  rw [List.mem_singleton.1 hx] at e; cases e
theorem nw_nilG (w : World) : Nw w (.tuple #[.slice none 0 0]) := fun _ h => absurd h hs_nilG
theorem OwD.nil (w : World) (e1 e2 : TypeId) : OwD w e1 e2 (.tuple #[.slice none 0 0]) (.slice none 0 0) [] := ⟨[], rfl, Ow.nil w e1, rfl, fun i h => absurd h (by simp), by simp⟩
section
variable {P : Program} {f : Nat → Value} {w : World} {o : Oper}
end
end Gk

/- Printed by gen.py: for each Go function a pure function, and that the Go code comes to it. No condition beside the equation that says what the pure function gives. -/
set_option linter.unusedVariables false
set_option linter.unusedSimpArgs false
namespace Gk
open Go Go.Proofs
noncomputable def law04_lives  : Option Bool :=
((field_New ).bind fun r1 =>
((matrix_Vandermonde r1 ([(1 : UInt8), (2 : UInt8)] : List UInt8) 2).bind fun r5 =>
(if r5.2 = 0 then
((matrix_Row r5.1 1).bind fun r8 => some (decide (r8 = ([1, 2] : List UInt8))))
else some false)))
set_option maxRecDepth 100000 in
set_option maxHeartbeats 8000000 in
theorem law04_lives_calls  (r : Bool) (w0 : World) (H : law04_lives = some r) :
    Calls Try.prog 9 [].toArray w0 (fun e w' => e = .returned (.bool r) ∧ Ext w0 w') := by
  have hE : Ext w0 w0 := Ext.refl w0; unfold law04_lives at H; refine calls_W (n := 17) Try.func9 rfl rfl rfl ?_; refine W_seq ?_; refine W_reg (by kernel_rfl) ?_; refine wla rfl rfl (q_assign (v := (.bool false)) rfl rfl) ?_; refine wl_nil ?_; refine W_th ?_; refine W_seq ?_; refine W_reg (by kernel_rfl) ?_; obtain ⟨r1, hr1, H⟩ := bsi H; refine wls rfl rfl (stp_call (vs := []) Try.func17 rfl rfl rfl (ar0 ) (field_New_calls   r1 _ [] (Old.nil _)  hr1) ?_); rintro _ w1 ⟨v1, rfl, x1, i1_0⟩; refine ⟨_, rfl, ?_⟩; have e2 := hE.trans x1; refine wls rfl rfl (stp_lit (L := []) (R := (Sc u8)) [(u8 1), (u8 2)] ([(1 : UInt8), (2 : UInt8)] : List UInt8) rfl T30 rfl (by exact ⟨rfl, (cst8 (1 : UInt8) rfl), rfl, (cst8 (2 : UInt8) rfl), trivial⟩) rfl (litC u8 (oneC_u8) (us := [(u8 1), (u8 2)]) (l := ([(1 : UInt8), (2 : UInt8)] : List UInt8)) rfl) rfl (litS u8 (us := [(u8 1), (u8 2)]) (l := ([(1 : UInt8), (2 : UInt8)] : List UInt8)) rfl) ?_); intro v3 w3 o3 n3 g3 l3; have x3 := grown_ext g3; have i3 : By w3 [] v3 (([(1 : UInt8), (2 : UInt8)] : List UInt8)) := OwK.slk (Sc.stab _) _ o3 (fun k hk => (Old.nil _) k (n3 k hk)) (fun _ h => h.2); replace i1_0 := i1_0.lift (Lift.ext x3 _); have e4 := e2.trans x3; obtain ⟨r5, hr5, H⟩ := bsi H; refine wls rfl rfl (stp_call (vs := [v1, v3, (i64 2)]) Try.func29 rfl rfl rfl (ar3 rfl rfl rfl) (matrix_Vandermonde_calls r1 ([(1 : UInt8), (2 : UInt8)] : List UInt8) 2 v1 v3 r5 _ [] (Old.nil _) (i1_0.lift (Lift.sub (L' := []) (fun _ _ => trivial))) (i3.lift (Lift.sub (L' := []) (fun _ _ => trivial))) hr5) ?_); rintro _ w5 ⟨v5_0, rfl, x5, i5_0⟩; refine ⟨_, rfl, ?_⟩; replace i1_0 := i1_0.lift (Lift.ext x5 _); replace i3 := i3.lift (Lift.ext x5 _); have e6 := e4.trans x5; refine wla rfl rfl (q_move (v := (.tuple #[v5_0, (i64 r5.2)])) rfl rfl) ?_; refine wla rfl rfl (q_extract rfl rfl rfl) ?_; refine wla rfl rfl (q_extract rfl rfl rfl) ?_; refine wla rfl rfl (q_assign (v := v5_0) rfl rfl) ?_; refine wla rfl rfl (q_assign (v := (i64 r5.2)) rfl rfl) ?_; refine wl_nil ?_; refine W_th ?_; refine W_seq ?_; refine W_reg (by kernel_rfl) ?_; refine wla rfl rfl (q_move (v := (i64 r5.2)) rfl rfl) ?_; refine wla rfl rfl (q_eqI rfl rfl rfl) ?_; refine wlb rfl rfl (q_move (v := (.bool ((decide (r5.2 = 0))))) rfl rfl) (fun hb7 => ?_) (fun hb7 => ?_)
  · replace H := (if_pos (of_decide_eq_true hb7)).symm.trans H; refine wla rfl rfl (q_move (v := v5_0) rfl rfl) ?_; obtain ⟨r8, hr8, H⟩ := bsi H; refine wls rfl rfl (stp_call (vs := [v5_0, (i64 1)]) Try.func16 rfl rfl rfl (ar2 rfl rfl) (matrix_Row_calls r5.1 1 v5_0 r8 _ (i5_0.lift (Lift.sub (L' := []) (fun _ _ => trivial))) hr8) ?_); rintro _ w8 ⟨v8, rfl, x8, n8_0, o8_0⟩; refine ⟨_, rfl, ?_⟩; have i8_0 : By w8 [] v8 r8 := OwK.slk (Sc.stab _) _ (OwK.scal o8_0 (v8 :: [])) (fun k hk => (Old.nil _) k (n8_0 k hk)) (fun _ h => h.2); replace i1_0 := i1_0.lift (Lift.ext x8 _); replace i3 := i3.lift (Lift.ext x8 _); replace i5_0 := i5_0.lift (Lift.ext x8 _); have e9 := e6.trans x8; refine wlq rfl rfl (q_str rfl T30 rfl rfl rfl i8_0) ?_; refine wla rfl rfl (q_eqS rfl rfl rfl) ?_; refine wla rfl rfl (q_pick_t (v := (.bool ((decide (r8 = ([1, 2] : List UInt8)))))) rfl rfl rfl) ?_; refine wla rfl rfl (q_assign (v := (.bool ((decide (r8 = ([1, 2] : List UInt8)))))) rfl rfl) ?_; refine wl_nil ?_; refine W_th ?_; refine W_ret ?_; obtain rfl := osi H; refine rt1 (.bool ((decide (r8 = ([1, 2] : List UInt8))))) rfl rfl rfl rfl ?_; exact ⟨rfl, e9⟩
  replace H := (if_neg (of_decide_eq_false hb7)).symm.trans H; refine wlk rfl rfl ?_; refine wlk rfl rfl ?_; refine wlk rfl rfl ?_; refine wlk rfl rfl ?_; refine wla rfl rfl (q_pick_f (v := (.bool false)) rfl rfl rfl) ?_; refine wla rfl rfl (q_assign (v := (.bool false)) rfl rfl) ?_; refine wl_nil ?_; refine W_th ?_; refine W_ret ?_; obtain rfl := osi H; refine rt1 (.bool false) rfl rfl rfl rfl ?_; exact ⟨rfl, e6⟩
noncomputable def law04_square (a0b : List UInt8) (a1n : Int) (a2columns : Int) : Option (List (List UInt8)) :=
((makeL a1n ([] : List UInt8)).bind fun c2 =>
((iterC (fun s7 : List (List UInt8) × Int =>
(if s7.2 < (c2.length : Int) then
((makeL a2columns (0 : UInt8)).bind fun c10 =>
((idx s7.1 s7.2).bind fun c14 =>
((idx ((s7.1.set (s7.2 : Int).toNat c10)) s7.2).bind fun c19 =>
((iterC (fun s21 : List (List UInt8) × Int =>
(if s21.2 < (c19.length : Int) then
(if (wI ((wI (s7.2 * a2columns)) + s21.2)) < (a0b.length : Int) then
((idx s21.1 s7.2).bind fun c27 =>
((idx a0b ((wI ((wI (s7.2 * a2columns)) + s21.2)))).bind fun c29 =>
((idx c27 s21.2).bind fun c30 => some (.inl ((s21.1.set (s7.2 : Int).toNat (c27.set (s21.2 : Int).toNat c29)), (wI (s21.2 + 1)))))))
else some (.inl (s21.1, (wI (s21.2 + 1)))))
else some (.inr s21.1))) ((s7.1.set (s7.2 : Int).toNat c10), 0)).bind fun x21 => some (.inl (x21, (wI (s7.2 + 1))))))))
else some (.inr s7.1))) (c2, 0)).bind fun x7 => some x7))
set_option maxRecDepth 100000 in
set_option maxHeartbeats 8000000 in
theorem law04_square_calls (a0b : List UInt8) (a1n : Int) (a2columns : Int) (p0 : Value) (r : List (List UInt8)) (w0 : World) (L0 : List Value) (hL0 : Old w0 L0) (hp0 : By w0 [] p0 a0b) (H : law04_square a0b a1n a2columns = some r) :
    Calls Try.prog 18 [p0, (i64 a1n), (i64 a2columns)].toArray w0 (fun e w' => ∃ u0 : Value, e = .returned u0 ∧ Ext w0 w' ∧ Nw w0 u0 ∧ OwK By w' (u0 :: L0) 30 u0 r) := by
  have hE : Ext w0 w0 := Ext.refl w0; unfold law04_square at H; refine calls_W (n := 53) Try.func18 rfl rfl rfl ?_; refine W_seq ?_; refine W_reg (by kernel_rfl) ?_; refine wla rfl rfl (q_assign (v := (.slice none 0 0)) rfl rfl) ?_; have oG1 : OwD w0 30 5 (.tuple #[.slice none 0 0]) (.slice none 0 0) [] := OwD.nil _ _ _; have nG1 : Nw w0 (.tuple #[.slice none 0 0]) := nw_nilG _; refine wl_nil ?_; refine W_th ?_; refine W_seq ?_; refine W_reg (by kernel_rfl) ?_; refine wla rfl rfl (q_move (v := (i64 a1n)) rfl rfl) ?_; obtain ⟨c2, hc2, H⟩ := bsi H; refine wls rfl rfl (stp_makeD (e2 := 5) ((.tuple #[.slice none 0 0]) :: L0) rfl T22 rfl rfl hc2 ?_); intro G3 v3 w3 o3 n3 g3 l3; have x3 := grown_ext g3; have q4 : Nq (.tuple #[.slice none 0 0]) G3 := oG1.nq n3; replace oG1 := oG1.ext x3; have n6 := Nw.ext hE n3; have e5 := hE.trans x3; refine wla rfl rfl (q_assign (v := v3) rfl rfl) ?_; refine wl_nil ?_; refine W_th ?_; refine W_seq ?_; refine W_seq ?_; refine W_reg (by kernel_rfl) ?_; refine wla rfl rfl (q_move (v := v3) rfl rfl) ?_; refine wla rfl rfl (q_len rfl T22.sl rfl o3.rd) ?_; refine wla rfl rfl (q_move (v := (i64 0)) rfl rfl) ?_; refine wl_nil ?_; refine W_th ?_; obtain ⟨x7, G7, H⟩ := bsi H; refine W_mid (fun f w => ∃ G7_38 : Value, f 7 = v3 ∧ f 53 = undef ∧ Ext w0 w ∧ OwD w 30 5 G7_38 v3 x7 ∧ Nw w0 G7_38) ?_ ?_
  · refine W_block ?_; refine W_loop (fun s7 f w => ∃ G7_36 : Value, f 0 = p0 ∧ f 2 = (i64 a2columns) ∧ f 7 = v3 ∧ f 14 = (i64 ((c2.length : Int))) ∧ f 15 = (i64 s7.2) ∧ f 53 = undef ∧ Ext w0 w ∧ OwD w 30 5 G7_36 v3 s7.1 ∧ Nw w0 G7_36) G7 ?_ ?_
    · exact ⟨G3, rfl, rfl, rfl, rfl, rfl, rfl, e5, o3, n6⟩
    rintro s7 _ _ w8 ⟨G7_8, s0_8, s2_8, s7_8, s14_8, s15_8, s53_8, hE8, o0_8, n0_8⟩ H7 hr7; refine W_seq ?_; refine W_reg (by kernel_rfl) ?_; refine wla rfl rfl (q_ltI rfl s15_8 s14_8) ?_; refine wl_nil ?_; refine W_th ?_; refine W_seq ?_; refine W_cond _ rfl rfl (fun hb9 => ?_) (fun hb9 => ?_)
    · replace H7 := (if_pos (of_decide_eq_true hb9)).symm.trans H7; refine W_skip ?_; refine W_th ?_; refine W_seq ?_; refine W_block ?_; refine W_seq ?_; refine W_reg (by kernel_rfl) ?_; refine wla rfl rfl (q_move (v := (i64 s7.2)) rfl s15_8) ?_; refine wla rfl rfl (q_assign (v := (i64 s7.2)) rfl rfl) ?_; refine wl_nil ?_; refine W_th ?_; refine W_seq ?_; refine W_reg (by kernel_rfl) ?_; refine wla rfl rfl (q_move (v := v3) rfl s7_8) ?_; refine wla rfl rfl (q_move (v := (i64 s7.2)) rfl rfl) ?_; refine wla rfl rfl (q_move (v := (i64 a2columns)) rfl s2_8) ?_; obtain ⟨c10, hc10, H7⟩ := bsi H7; refine wls rfl rfl (stp_make (L := (G7_8 :: L0)) (R := (Sc u8)) rfl T30 rfl rfl hc10 (fun _ _ => rfl) ?_); intro v10 w10 o10 n10 g10 l10; have x10 := grown_ext g10; have q11 : Nq G7_8 v10 := o0_8.nq n10; replace o0_8 := o0_8.ext x10; have n13 := Nw.ext hE8 n10; have e12 := hE8.trans x10; obtain ⟨c14, hc14, H7⟩ := bsi H7; refine wla rfl rfl (q_adr rfl T22 rfl rfl o0_8.rd hc14) ?_; refine wln rfl rfl (stp_storeRow (x := v10) [v10] (L0) rfl T22 rfl rfl o0_8 hc14 o10 q11.symm ?_); intro G16 w15 o15 g15 hG15 l15; replace o10 := o10.other (Sc.stab _) g15 q11.symm l15; have e17 := e12.grown g15 n0_8
      have n18 : Nw w0 G16 := fun k hk => (hG15 k hk).elim (n0_8 k) (n13 k)
      refine wl_nil ?_; refine W_th ?_; refine W_seq ?_; refine W_reg (by kernel_rfl) ?_; refine wla rfl rfl (q_move (v := v3) rfl s7_8) ?_; refine wla rfl rfl (q_move (v := (i64 s7.2)) rfl rfl) ?_; obtain ⟨c19, hc19, H7⟩ := bsi H7; refine wla rfl rfl (q_adr rfl T22 rfl rfl o15.rd hc19) ?_; refine wlq_loadD rfl rfl rfl T22 rfl o15 hc19 (fun v20 hD20 => ?_); refine wla rfl rfl (q_len rfl T30.sl rfl (OwD.rowrd o15 hD20 hc19)) ?_; refine wla rfl rfl (q_move (v := (i64 0)) rfl rfl) ?_; refine wl_nil ?_; refine W_th ?_; obtain ⟨x21, G21, H7⟩ := bsi H7; refine W_mid (fun f w => ∃ G7_35 : Value, f 0 = p0 ∧ f 2 = (i64 a2columns) ∧ f 7 = v3 ∧ f 14 = (i64 ((c2.length : Int))) ∧ f 15 = (i64 s7.2) ∧ f 53 = undef ∧ Ext w0 w ∧ OwD w 30 5 G7_35 v3 x21 ∧ Nw w0 G7_35) ?_ ?_
      · refine W_block ?_; refine W_loop (fun s21 f w => ∃ G7_33 : Value, f 0 = p0 ∧ f 2 = (i64 a2columns) ∧ f 7 = v3 ∧ f 8 = (i64 s7.2) ∧ f 14 = (i64 ((c2.length : Int))) ∧ f 15 = (i64 s7.2) ∧ f 27 = (i64 ((c19.length : Int))) ∧ f 28 = (i64 s21.2) ∧ f 53 = undef ∧ Ext w0 w ∧ OwD w 30 5 G7_33 v3 s21.1 ∧ Nw w0 G7_33) G21 ?_ ?_
        · exact ⟨G16, s0_8, s2_8, s7_8, rfl, s14_8, s15_8, rfl, rfl, s53_8, e17, o15, n18⟩
        rintro s21 _ _ w22 ⟨G7_22, s0_22, s2_22, s7_22, s8_22, s14_22, s15_22, s27_22, s28_22, s53_22, hE22, o0_22, n0_22⟩ H21 hr21; refine W_seq ?_; refine W_reg (by kernel_rfl) ?_; refine wla rfl rfl (q_ltI rfl s28_22 s27_22) ?_; refine wl_nil ?_; refine W_th ?_; refine W_seq ?_; refine W_cond _ rfl rfl (fun hb23 => ?_) (fun hb23 => ?_)
        · replace H21 := (if_pos (of_decide_eq_true hb23)).symm.trans H21; refine W_skip ?_; refine W_th ?_; refine W_seq ?_; refine W_block ?_; refine W_seq ?_; refine W_reg (by kernel_rfl) ?_; refine wla rfl rfl (q_move (v := (i64 s21.2)) rfl s28_22) ?_; refine wla rfl rfl (q_assign (v := (i64 s21.2)) rfl rfl) ?_; refine wl_nil ?_; refine W_th ?_; refine W_seq ?_; refine W_reg (by kernel_rfl) ?_; refine wla rfl rfl (q_move (v := (i64 s7.2)) rfl s8_22) ?_; refine wla rfl rfl (q_move (v := (i64 a2columns)) rfl s2_22) ?_; refine wla rfl rfl (q_mulI rfl rfl rfl) ?_; refine wla rfl rfl (q_move (v := (i64 s21.2)) rfl rfl) ?_; refine wla rfl rfl (q_addI rfl rfl rfl) ?_; refine wla rfl rfl (q_assign (v := (i64 ((wI ((wI (s7.2 * a2columns)) + s21.2))))) rfl rfl) ?_; refine wl_nil ?_; refine W_th ?_; refine W_seq ?_; refine W_reg (by kernel_rfl) ?_; refine wla rfl rfl (q_move (v := (i64 ((wI ((wI (s7.2 * a2columns)) + s21.2))))) rfl rfl) ?_; refine wla rfl rfl (q_move (v := p0) rfl s0_22) ?_; refine wla rfl rfl (q_len rfl T30.sl rfl (hp0.lift (Lift.ext hE22 _))) ?_; refine wla rfl rfl (q_ltI rfl rfl rfl) ?_; refine wl_nil ?_; refine W_th ?_; refine W_cond _ rfl rfl (fun hb24 => ?_) (fun hb24 => ?_)
          · replace H21 := (if_pos (of_decide_eq_true hb24)).symm.trans H21; refine W_draw [3, 8] [(0, 0), (1, 0), (2, 0), (3, 1), (4, 0), (5, 0), (6, 0), (7, 0), (8, 1), (9, 0), (10, 2)] mixed (by kernel_rfl) (by kernel_rfl) (by kernel_rfl) (by kernel_rfl) ?_; have x25 := Ext.drew w22; replace o0_22 := o0_22.ext x25; have e26 := hE22.trans x25; refine wsa rfl rfl rfl (q_move (v := v3) rfl s7_22) ?_; refine wsa rfl rfl rfl (q_move (v := (i64 s7.2)) rfl s8_22) ?_; obtain ⟨c27, hc27, H21⟩ := bsi H21; refine wsa rfl rfl rfl (q_adr rfl T22 rfl rfl o0_22.rd hc27) ?_; refine wsq_loadD rfl rfl rfl rfl T22 rfl o0_22 hc27 (fun v28 hD28 => ?_); refine wsa rfl rfl rfl (q_move (v := (i64 s21.2)) rfl rfl) ?_; refine wsa rfl rfl rfl (q_move (v := p0) rfl s0_22) ?_; refine wsa rfl rfl rfl (q_move (v := (i64 ((wI ((wI (s7.2 * a2columns)) + s21.2))))) rfl rfl) ?_; obtain ⟨c29, hc29, H21⟩ := bsi H21; refine wsa rfl rfl rfl (q_adr rfl T30 rfl rfl (hp0.lift (Lift.ext e26 _)) hc29) ?_; refine wsq rfl rfl rfl (q_loadS rfl T30 rfl (hp0.lift (Lift.ext e26 _)) hc29) ?_; obtain ⟨c30, hc30, H21⟩ := bsi H21; refine wsa rfl rfl rfl (q_adr rfl T30 rfl rfl (OwD.rowrd o0_22 hD28 hc27) hc30) ?_; refine wsn rfl (by kernel_rfl) rfl rfl (stp_storeD [] (L0) rfl T30 rfl rfl o0_22 hD28 hc27 hc30 ?_); intro w31 o31 g31 l31; have e32 := e26.grown g31 n0_22; refine ws_nil ?_; refine bk_n ?_; refine W_th ?_; refine W_reg (by kernel_rfl) ?_; refine wla rfl rfl (q_addI rfl s28_22 rfl) ?_; refine wla rfl rfl (q_move (v := (i64 ((wI (s21.2 + 1))))) rfl rfl) ?_; refine wl_nil ?_; obtain rfl := osi H21; exact ⟨_, rfl, G7_22, s0_22, s2_22, s7_22, s8_22, s14_22, s15_22, s27_22, rfl, s53_22, e32, o31, n0_22⟩
          replace H21 := (if_neg (of_decide_eq_false hb24)).symm.trans H21; refine W_skip ?_; refine bk_n ?_; refine W_th ?_; refine W_reg (by kernel_rfl) ?_; refine wla rfl rfl (q_addI rfl s28_22 rfl) ?_; refine wla rfl rfl (q_move (v := (i64 ((wI (s21.2 + 1))))) rfl rfl) ?_; refine wl_nil ?_; obtain rfl := osi H21; exact ⟨_, rfl, G7_22, s0_22, s2_22, s7_22, s8_22, s14_22, s15_22, s27_22, rfl, s53_22, hE22, o0_22, n0_22⟩
        replace H21 := (if_neg (of_decide_eq_false hb23)).symm.trans H21; refine W_exit ?_; refine th_x ?_; obtain rfl := osi H21; obtain rfl := hr21 _ rfl; refine th_x ?_; refine bk_x ?_; exact ⟨G7_22, s0_22, s2_22, s7_22, s14_22, s15_22, s53_22, hE22, o0_22, n0_22⟩
      rintro _ w34 ⟨G7_34, s0_34, s2_34, s7_34, s14_34, s15_34, s53_34, hE34, o0_34, n0_34⟩; refine bk_n ?_; refine W_th ?_; refine W_reg (by kernel_rfl) ?_; refine wla rfl rfl (q_addI rfl s15_34 rfl) ?_; refine wla rfl rfl (q_move (v := (i64 ((wI (s7.2 + 1))))) rfl rfl) ?_; refine wl_nil ?_; obtain rfl := osi H7; exact ⟨_, rfl, G7_34, s0_34, s2_34, s7_34, s14_34, rfl, s53_34, hE34, o0_34, n0_34⟩
    replace H7 := (if_neg (of_decide_eq_false hb9)).symm.trans H7; refine W_exit ?_; refine th_x ?_; obtain rfl := osi H7; obtain rfl := hr7 _ rfl; refine th_x ?_; refine bk_x ?_; exact ⟨G7_8, s7_8, s53_8, hE8, o0_8, n0_8⟩
  rintro _ w37 ⟨G7_37, s7_37, s53_37, hE37, o0_37, n0_37⟩; refine W_th ?_; refine W_seq ?_; refine W_reg (by kernel_rfl) ?_; refine wla rfl rfl (q_move (v := v3) rfl s7_37) ?_; refine wla rfl rfl (q_assign (v := v3) rfl rfl) ?_; refine wl_nil ?_; refine W_th ?_; refine W_ret ?_; obtain rfl := osi H; refine rt1 v3 rfl rfl rfl s53_37 ?_; exact ⟨v3, rfl, hE37, (OwD.nwu o0_37 n0_37), (o0_37.owk L0 (fun k hk => hL0 k (n0_37 k hk)))⟩
end Gk

/- Arrays: as values, and in blocks behind pointers. No condition. -/
set_option linter.unusedVariables false
set_option linter.unusedSimpArgs false
namespace Gk
open Go Go.RowKit
section
variable {P : Program} {o : Oper} {f : Nat → Value} {w : World} {x y : Operand} {t e T : TypeId} {g m n : Nat} {cs : Array Value} {u v : Value} {α : Type} {enc : α → Value} {l l' : List α} {i : Int} {a b : α}
end
section
variable {P : Program} {o : Oper} {f : Nat → Value} {w : World} {x y : Operand} {t t' : TypeId} {k : IntKind}
end
section
variable {P : Program} {fn : Func} {n : Nat} {R : Ending → World → Prop} {f : Nat → Value} {w : World} {t e T : TypeId} {a g m : Nat} {α : Type} {enc : α → Value} {l : List α}
end
end Gk

/- Functions that turn what a pointer points to: what they keep. No condition. -/
set_option linter.unusedVariables false
set_option linter.unusedSimpArgs false
namespace Gk
open Go Go.RowKit
structure ExG (S : List Value) (w w' : World) : Prop where
  os : w'.os = w.os
  output : w'.output = w.output
  size : w.heap.size ≤ w'.heap.size
  blk : ∀ k, k < w.heap.size → Av S k → w'.heap[k]? = w.heap[k]?
def NS (S : List Value) (w : World) (v : Value) : Prop := ∀ k, Hs v k → w.heap.size ≤ k ∨ ¬ Av S k
section
variable {S : List Value} {w0 w w' : World} {v v' : Value}
theorem ExG.refl (S : List Value) (w : World) : ExG S w w := ⟨rfl, rfl, Nat.le_refl _, fun _ _ _ => rfl⟩
theorem ExG.trans (h : ExG S w0 w) (x : Ext w w') : ExG S w0 w' :=
  ⟨x.os.trans h.os, x.output.trans h.output, Nat.le_trans h.size x.size, fun k hk ha => (x.blk k (Nat.lt_of_lt_of_le hk h.size)).trans (h.blk k hk ha)⟩
theorem ExG.grown (h : ExG S w0 w) (hg : Gr w w' v) (hn : NS S w0 v) : ExG S w0 w' := by
  obtain ⟨row, hg, hr⟩ := hg
  refine ⟨hg.os.trans h.os, hg.output.trans h.output, Nat.le_trans h.size hg.size, fun k hk ha => ?_⟩
  refine (hg.block k (Nat.lt_of_lt_of_le hk h.size) (fun e => ?_)).trans (h.blk k hk ha)
  rcases hn k (hr k e.symm) with h1 | h1
  · omega
  · exact h1 ha
theorem NS.ext (h : ExG S w0 w) (hn : Nw w v) : NS S w0 v := fun k hk => .inl (Nat.le_trans h.size (hn k hk))
theorem NS.nxt (h : ExG S w0 w) (h0 : NS S w0 v) (hn : Nx w v v') : NS S w0 v' := fun k hk => (hn k hk).elim (h0 k) (fun h1 => .inl (Nat.le_trans h.size h1))
theorem NS.nil (S : List Value) (w : World) : NS S w (.slice none 0 0) := fun k hk => absurd hk nh_nil
theorem Lift.exg0 (h : ExG S w0 w) : Lift w0 w S [] := ⟨fun k o ho _ ha => (h.blk k (lt_of_get ho) ha).trans ho, fun _ _ _ => trivial⟩
variable {b u : Value} {e T : TypeId} {g : Nat} {cs : Array Value}
theorem av_one {k : Nat} (h : ¬ Hs b k) : Av [b] k := ⟨h, trivial⟩
theorem Lift.ownX (L1 L2 : List Value) (x : ExG [b] w w') : Lift w w' (L1 ++ b :: L2) (L1 ++ b :: L2) :=
  ⟨fun k o ho _ ha => by
    obtain ⟨_, h2, _⟩ := av_append.1 ha
    exact (x.blk k (lt_of_get ho) (av_one h2)).trans ho, fun _ _ h => h⟩
theorem Ext.grownX (h : Ext w0 w) (x : ExG [b] w w') (hn : Nw w0 b) : Ext w0 w' :=
  ⟨x.os.trans h.os, x.output.trans h.output, Nat.le_trans h.size x.size, fun k hk =>
    (x.blk k (Nat.lt_of_lt_of_le hk h.size) (av_one (fun e => by have := hn k e; omega))).trans (h.blk k hk)⟩
end
end Gk

/- Slices that a function turns for its caller; functions that are values. No condition beside those of the steps. -/
set_option linter.unusedVariables false
set_option linter.unusedSimpArgs false
namespace Gk
open Go Go.RowKit
theorem NS.me {S : List Value} {w : World} {v : Value} : NS (v :: S) w v := fun k hk => .inr fun h => h.1 hk
theorem NS.nw {w : World} {u v : Value} (h : NS [v] w u) (hq : Nq u v) : Nw w u := fun k hk => (h k hk).elim id fun hn => absurd (show Av [v] k from ⟨hq k hk, trivial⟩) hn
theorem Old.exg {S : List Value} {w w' : World} {L : List Value} (h : Old w L) (x : ExG S w w') : Old w' L := fun k hk => h k (Nat.le_trans x.size hk)
section
variable {P : Program} {o : Oper} {f : Nat → Value} {w : World}
end
end Gk

/- slices.Clone over rows: the rows are shared. No condition but the length. -/
set_option linter.unusedVariables false
set_option linter.unusedSimpArgs false
namespace Gk
open Go Go.Proofs
def slices_Clone_rows (a0 : List (List UInt8)) : Option (List (List UInt8)) := appL [] a0
set_option maxRecDepth 100000 in
set_option maxHeartbeats 8000000 in
theorem slices_Clone_rows_calls (a0 : List (List UInt8)) (p0 : Value) (r : List (List UInt8)) (w0 : World) (L0 : List Value) (hL0 : Old w0 L0) (hp0 : Rw w0 L0 p0 a0) (H : slices_Clone_rows a0 = some r) :
    Calls Try.prog 44 [p0].toArray w0 (fun e w' => ∃ u0 : Value, e = .returned u0 ∧ Ext w0 w' ∧ Nw w0 u0 ∧ OwK By w' (u0 :: L0) 30 u0 r) := by
  unfold slices_Clone_rows at H; have hE : Ext w0 w0 := Ext.refl w0; obtain ⟨pp, cap, rfl, hcap⟩ := SlK.shape hp0; refine calls_W (n := 8) Try.func44 rfl rfl rfl ?_; refine W_seq ?_; refine W_reg (by kernel_rfl) ?_; refine wla rfl rfl (q_assign (v := .slice none 0 0) rfl rfl) ?_; refine wl_nil ?_; refine W_th ?_; refine W_seq ?_; refine W_seq ?_; refine W_reg (by kernel_rfl) ?_; refine wla rfl rfl (q_move (v := .slice pp a0.length cap) rfl rfl) ?_; refine wla rfl rfl (q_eqSl rfl T22.sl rfl rfl) ?_; refine wl_nil ?_; refine W_th ?_; refine W_cond _ rfl rfl (fun hb => ?_) (fun hb => ?_)
  · have h0 : a0 = [] := by
      obtain ⟨us, ⟨p, cap', hv, _, hne⟩, hl, _⟩ := hp0; cases us with
      | nil => exact List.eq_nil_of_length_eq_zero hl.symm
      | cons u us =>
        obtain ⟨b, off, rfl, _⟩ := hne (by simp); simp only [Value.slice.injEq] at hv; rw [hv.1] at hb; cases hb
    subst h0
    obtain rfl : r = [] := by simpa [appL] using H.symm
    refine W_seq ?_; refine W_reg (by kernel_rfl) ?_; refine wla rfl rfl (q_assign (v := .slice none 0 0) rfl rfl) ?_; refine wl_nil ?_; refine W_th ?_; refine W_ret ?_; refine rt1 (.slice none 0 0) rfl rfl rfl rfl ?_; exact ⟨_, rfl, hE, Nw.nil _, OwK.nil _ _ _ _⟩
  refine W_skip ?_; refine W_th ?_; refine W_seq ?_; refine W_reg (by kernel_rfl) ?_; refine wls rfl rfl (stp_lit (L := L0) (R := By) [] ([] : List (List UInt8)) rfl T22 rfl (by exact trivial) rfl (LitR.cells (R := By) (w := w0) (L := L0) (l := ([] : List (List UInt8))) LitR.nil (fun u x h => cells_sl u x h)) rfl (LitR.all (R := By) (w := w0) (L := L0) (l := ([] : List (List UInt8))) (SlK.stab (Sc.stab _)) LitR.nil) ?_); intro v1 w1 o1 n1 g1 l1; have e1 := hE.trans (grown_ext g1); refine wla rfl rfl (q_move (v := .slice pp a0.length cap) rfl rfl) ?_; refine wls rfl rfl (stp_append (R := By) (v := v1) (u := .slice pp a0.length cap) (SlK.stab (Sc.stab _)) [] L0 rfl T22 rfl rfl o1 (Rw.lift hp0 (Lift.call L0 e1 n1)) (fun _ _ h => h) H oc_sl ?_); intro v2 w2 o2 g2 nx2 l2; refine wla rfl rfl (q_assign (v := v2) rfl rfl) ?_; refine wl_nil ?_; refine W_th ?_; refine W_ret ?_; refine rt1 v2 rfl rfl rfl rfl ?_; exact ⟨v2, rfl, e1.grown g2 n1, Nw.nxt e1 n1 nx2, o2⟩
end Gk

/- append of noughts (append(s, make(..)...)); slices.Grow on nothing; slices.Concat. No condition but the length. -/
set_option linter.unusedVariables false
set_option linter.unusedSimpArgs false
namespace Gk
open Go Go.Proofs
section
variable {P : Program} {o : Oper} {f : Nat → Value} {w : World} {L : List Value}
end
end Gk

/- Printed by gen.py: for each Go function a pure function, and that the Go code comes to it. No condition beside the equation that says what the pure function gives. -/
set_option linter.unusedVariables false
set_option linter.unusedSimpArgs false
namespace Gk
open Go Go.Proofs
noncomputable def matrix_reduce_1 (a0r : List UInt8) (b0 : Int) : Option Bool :=
((idx a0r b0).bind fun c1 => some (!decide (c1 = (0 : UInt8))))
set_option maxRecDepth 100000 in
set_option maxHeartbeats 8000000 in
theorem matrix_reduce_1_calls (a0r : List UInt8) (b0 : Int) (p0 : Value) (gc0 : Nat) (r : Bool) (w0 : World) (hp0 : By w0 [] p0 a0r) (hcB0 : Blk w0 gc0 3 #[(i64 b0)]) (H : matrix_reduce_1 a0r b0 = some r) :
    Calls Try.prog 55 [p0, (bp gc0)].toArray w0 (fun e w' => e = .returned (.bool r) ∧ Ext w0 w') := by
  have hE : Ext w0 w0 := Ext.refl w0; unfold matrix_reduce_1 at H; refine calls_W (n := 9) Try.func55 rfl rfl rfl ?_; refine W_seq ?_; refine W_reg (by kernel_rfl) ?_; refine wla rfl rfl (q_assign (v := (.bool false)) rfl rfl) ?_; refine wl_nil ?_; refine W_th ?_; refine W_seq ?_; refine W_reg (by kernel_rfl) ?_; refine wla rfl rfl (q_move (v := p0) rfl rfl) ?_; refine wlq rfl rfl (q_loadB (u := (i64 b0)) rfl Try.isAgg3 rfl (hcB0.ext hE) rfl) ?_; obtain ⟨c1, hc1, H⟩ := bsi H; refine wla rfl rfl (q_adr rfl T30 rfl rfl (hp0.lift (Lift.ext hE _)) hc1) ?_; refine wlq rfl rfl (q_loadS rfl T30 rfl (hp0.lift (Lift.ext hE _)) hc1) ?_; refine wla rfl rfl (q_ne8 rfl rfl (cst8 (0 : UInt8) rfl)) ?_; refine wla rfl rfl (q_assign (v := (.bool ((!decide (c1 = (0 : UInt8)))))) rfl rfl) ?_; refine wl_nil ?_; refine W_th ?_; refine W_ret ?_; obtain rfl := osi H; refine rt1 (.bool ((!decide (c1 = (0 : UInt8))))) rfl rfl rfl rfl ?_; exact ⟨rfl, hE⟩
noncomputable def matrix_reduce (a0f : Bool) (a1l : List (List UInt8)) (a2columns : Int) : Option (List (List UInt8) × List Int) :=
((iterC (fun s7 : List (List UInt8) × List Int × Int =>
(if s7.2.2 < a2columns then
(if (s7.2.1.length : Int) < (s7.1.length : Int) then
((subL s7.1 ((s7.2.1.length : Int)) ((s7.1.length : Int))).bind fun c11 =>
((lim c11.length).bind fun lim12 =>
((findAt (fun y12 => matrix_reduce_1 y12 s7.2.2) 0 c11).bind fun r12 =>
(if r12 < 0 then some (.inl (s7.1, s7.2.1, (wI (s7.2.2 + 1))))
else
((idx s7.1 ((wI ((s7.2.1.length : Int) + r12)))).bind fun c27 =>
((idx s7.1 ((s7.2.1.length : Int))).bind fun c29 =>
((idx ((s7.1.set ((s7.2.1.length : Int) : Int).toNat c27)) ((wI ((s7.2.1.length : Int) + r12)))).bind fun c33 =>
((idx ((((s7.1.set ((s7.2.1.length : Int) : Int).toNat c27)).set ((wI ((s7.2.1.length : Int) + r12)) : Int).toNat c29)) ((s7.2.1.length : Int))).bind fun c38 =>
((idx c38 s7.2.2).bind fun c40 =>
((field_Inv a0f c40).bind fun r41 =>
((idx ((((s7.1.set ((s7.2.1.length : Int) : Int).toNat c27)).set ((wI ((s7.2.1.length : Int) + r12)) : Int).toNat c29)) ((s7.2.1.length : Int))).bind fun c43 =>
((field_Scale a0f r41.1 c43).bind fun r45 =>
((iterC (fun s49 : List (List UInt8) × Int =>
(if s49.2 < (((((((s7.1.set ((s7.2.1.length : Int) : Int).toNat c27)).set ((wI ((s7.2.1.length : Int) + r12)) : Int).toNat c29)).set ((s7.2.1.length : Int) : Int).toNat r45)).length : Int) then
(if s49.2 = (s7.2.1.length : Int) then some (.inl (s49.1, (wI (s49.2 + 1))))
else
((idx s49.1 s49.2).bind fun c55 =>
((idx c55 s7.2.2).bind fun c58 =>
((idx s49.1 ((s7.2.1.length : Int))).bind fun c59 =>
((field_Sum a0f c55 c58 c59).bind fun r61 => some (.inl ((s49.1.set (s49.2 : Int).toNat r61), (wI (s49.2 + 1)))))))))
else some (.inr s49.1))) ((((((s7.1.set ((s7.2.1.length : Int) : Int).toNat c27)).set ((wI ((s7.2.1.length : Int) + r12)) : Int).toNat c29)).set ((s7.2.1.length : Int) : Int).toNat r45), 0)).bind fun x49 =>
((appL s7.2.1 (([s7.2.2] : List Int))).bind fun c70 => some (.inl (x49, c70, (wI (s7.2.2 + 1))))))))))))))))))
else some (.inr (s7.1, s7.2.1)))
else some (.inr (s7.1, s7.2.1)))) (a1l, ([] : List Int), 0)).bind fun x7 => some (x7.1, x7.2))
set_option maxRecDepth 100000 in
set_option maxHeartbeats 8000000 in
theorem matrix_reduce_calls (a0f : Bool) (a1l : List (List UInt8)) (a2columns : Int) (p0 : Value) (p1 : Value) (r : List (List UInt8) × List Int) (w0 : World) (L0 : List Value) (hL0 : Old w0 L0) (hp0 : Fd w0 [p1] p0 a0f) (ho1 : OwK By w0 (p1 :: L0) 30 p1 a1l) (H : matrix_reduce a0f a1l a2columns = some r) :
    Calls Try.prog 43 [p0, p1, (i64 a2columns)].toArray w0 (fun e w' => ∃ u0 : Value, e = .returned u0 ∧ ExG [p1] w0 w' ∧ OwK By w' (p1 :: L0) 30 p1 r.1 ∧ Nw w0 u0 ∧ OwK (Sc i64) w' [] 3 u0 r.2) := by
  have hE : ExG [p1] w0 w0 := ExG.refl _ w0; unfold matrix_reduce at H; refine calls_W (n := 110) Try.func43 rfl rfl rfl ?_; refine W_seq ?_; refine W_reg (by kernel_rfl) ?_; refine wla rfl rfl (q_assign (v := (.slice none 0 0)) rfl rfl) ?_; refine wl_nil ?_; refine W_th ?_; refine W_seq ?_; refine W_reg (by kernel_rfl) ?_; refine wla rfl rfl (q_assign (v := (.slice none 0 0)) rfl rfl) ?_; refine wl_nil ?_; refine W_th ?_; refine W_seq ?_; refine W_seq ?_; refine W_reg (by kernel_rfl) ?_; refine wls rfl rfl (stp_allocL (z := (i64 0)) (cs := #[(i64 0)]) (p1 :: L0) rfl Try.zeroValue3 rfl ?_); intro g1 w1 o1 n1 g1r l1; have x1 := grown_ext g1r; have q2 : Nq p1 (bp g1) := ho1.nq n1; replace ho1 := ho1.extL (SlK.stab (Sc.stab _)) x1 (Lift.call _ x1 n1); have n4 := NS.ext hE n1; have e3 := hE.trans x1; refine wln rfl rfl (stp_storeL (u := (i64 0)) [] (p1 :: L0) rfl Try.sizeOf3 rfl rfl o1 rfl ?_); intro w5 o5 g5 l5; replace ho1 := ho1.other (SlK.stab (Sc.stab _)) g5 q2 l5; have e6 := e3.grown g5 n4; refine wl_nil ?_; refine W_th ?_; obtain ⟨x7, G7, H⟩ := bsi H; refine W_mid (fun f w => ∃ v7_88 : Value, f 1 = p1 ∧ f 7 = v7_88 ∧ f 110 = undef ∧ ExG [p1] w0 w ∧ OwK By w (p1 :: v7_88 :: L0) 30 p1 x7.1 ∧ NS [p1] w0 p1 ∧ OwK (Sc i64) w (p1 :: v7_88 :: L0) 3 v7_88 x7.2 ∧ NS [p1] w0 v7_88 ∧ Nq p1 v7_88) ?_ ?_
  · refine W_block ?_; refine W_loop (fun s7 f w => ∃ v7_86 : Value, ∃ g8_86 : Nat, f 0 = p0 ∧ f 1 = p1 ∧ f 2 = (i64 a2columns) ∧ f 7 = v7_86 ∧ f 8 = (bp g8_86) ∧ f 110 = undef ∧ ExG [p1] w0 w ∧ OwK By w (p1 :: v7_86 :: (bp g8_86) :: L0) 30 p1 s7.1 ∧ NS [p1] w0 p1 ∧ OwK (Sc i64) w (p1 :: v7_86 :: (bp g8_86) :: L0) 3 v7_86 s7.2.1 ∧ NS [p1] w0 v7_86 ∧ Blk w g8_86 3 #[(i64 s7.2.2)] ∧ NS [p1] w0 (bp g8_86) ∧ Nq p1 v7_86 ∧ Nq p1 (bp g8_86) ∧ Nq v7_86 (bp g8_86)) G7 ?_ ?_
    · exact ⟨(.slice none 0 0), g1, rfl, rfl, rfl, rfl, rfl, rfl, e6, (ho1.weak (SlK.stab (Sc.stab _)) (fun _ h => ⟨h.2.1, nh_nil, h.1, h.2.2⟩)), NS.me, (OwK.nil _ _ _ _), (NS.nil _ _), o5, n4, (Nq.nil _).symm, q2, (Nq.nil _)⟩
    rintro s7 _ _ w8 ⟨v7_8, g8_8, s0_8, s1_8, s2_8, s7_8, s8_8, s110_8, hE8, o0_8, n0_8, o1_8, n1_8, o2_8, n2_8, q0_1_8, q0_2_8, q1_2_8⟩ H7 hr7; refine W_seq ?_; refine W_seq ?_; refine W_reg (by kernel_rfl) ?_; refine wlq rfl rfl (q_loadB (u := (i64 s7.2.2)) rfl Try.isAgg3 (by exact s8_8) o2_8 rfl) ?_; refine wla rfl rfl (q_move (v := (i64 a2columns)) rfl s2_8) ?_; refine wla rfl rfl (q_ltI rfl rfl rfl) ?_; refine wlb rfl rfl (q_move (v := (.bool ((decide (s7.2.2 < a2columns))))) rfl rfl) (fun hb9 => ?_) (fun hb9 => ?_)
    · replace H7 := (if_pos (of_decide_eq_true hb9)).symm.trans H7; refine wla rfl rfl (q_move (v := v7_8) rfl s7_8) ?_; refine wla rfl rfl (q_len rfl T23.sl rfl (o1_8.rd (Sc.stab _))) ?_; refine wla rfl rfl (q_move (v := p1) rfl s1_8) ?_; refine wla rfl rfl (q_len rfl T22.sl rfl (o0_8.rd (SlK.stab (Sc.stab _)))) ?_; refine wla rfl rfl (q_ltI rfl rfl rfl) ?_; refine wla rfl rfl (q_pick_t (v := (.bool ((decide ((s7.2.1.length : Int) < (s7.1.length : Int)))))) rfl rfl rfl) ?_; refine wl_nil ?_; refine W_th ?_; refine W_cond _ rfl rfl (fun hb10 => ?_) (fun hb10 => ?_)
      · replace H7 := (if_pos (of_decide_eq_true hb10)).symm.trans H7; refine W_skip ?_; refine W_th ?_; refine W_seq ?_; refine W_block ?_; refine W_seq ?_; refine W_reg (by kernel_rfl) ?_; refine wla rfl rfl (q_move (v := v7_8) rfl s7_8) ?_; refine wla rfl rfl (q_len rfl T23.sl rfl (o1_8.rd (Sc.stab _))) ?_; refine wla rfl rfl (q_assign (v := (i64 ((s7.2.1.length : Int)))) rfl rfl) ?_; refine wl_nil ?_; refine W_th ?_; refine W_seq ?_; refine W_reg (by kernel_rfl) ?_; refine wla rfl rfl (q_move (v := p1) rfl s1_8) ?_; refine wla rfl rfl (q_move (v := (i64 ((s7.2.1.length : Int)))) rfl rfl) ?_; obtain ⟨c11, hc11, H7⟩ := bsi H7; refine wla rfl rfl (q_slice (a := (s7.2.1.length : Int)) (b := (s7.1.length : Int)) rfl T22 rfl (o0_8.rd (SlK.stab (Sc.stab _))) rfl rfl hc11) ?_; refine wla rfl rfl (q_mkfuncN (vs := [(bp g8_8)]) rfl (ar1 s8_8)) ?_; obtain ⟨lim12, hl12, H7⟩ := bsi H7; obtain ⟨r12, hr12, H7⟩ := bsi H7; refine wls rfl rfl (stp_call (vs := [(subV p1 ((s7.2.1.length : Int) : Int).toNat ((s7.1.length : Int) : Int).toNat), (.func (.func 55) #[] [(bp g8_8)].toArray)]) Try.func54 rfl rfl rfl (ar2 rfl rfl) (IndexFunc_rows_calls (subV p1 ((s7.2.1.length : Int) : Int).toNat ((s7.1.length : Int) : Int).toNat) c11 55 _ Try.func55 rfl rfl [(bp g8_8)] (fun y12 => matrix_reduce_1 y12 s7.2.2) r12 _ (SlK.cut (L := []) (o0_8.rd (SlK.stab (Sc.stab _))) hc11) (lim_lt hl12) hr12 (fun y12 _ b w' xE hb u hu => matrix_reduce_1_calls y12 s7.2.2 u g8_8 b w' hu (o2_8.ext xE) hb)) ?_); rintro _ w12 ⟨rfl, x12⟩; refine ⟨_, rfl, ?_⟩; replace o0_8 := o0_8.extL (SlK.stab (Sc.stab _)) x12 (Lift.ext x12 _); replace o1_8 := o1_8.extL (Sc.stab _) x12 (Lift.ext x12 _); replace o2_8 := o2_8.ext x12; have e13 := hE8.trans x12; refine wla rfl rfl (q_assign (v := (i64 r12)) rfl rfl) ?_; refine wl_nil ?_; refine W_th ?_; refine W_seq ?_; refine W_seq ?_; refine W_reg (by kernel_rfl) ?_; refine wla rfl rfl (q_move (v := (i64 r12)) rfl rfl) ?_; refine wla rfl rfl (q_ltI rfl rfl rfl) ?_; refine wl_nil ?_; refine W_th ?_; refine W_cond _ rfl rfl (fun hb14 => ?_) (fun hb14 => ?_)
        · replace H7 := (if_pos (of_decide_eq_true hb14)).symm.trans H7; refine W_exit ?_; refine th_x ?_; refine bk_x ?_; refine W_th ?_; refine W_seq ?_; refine W_seq ?_; refine W_reg (by kernel_rfl) ?_; refine wlq rfl rfl (q_loadB (u := (i64 s7.2.2)) rfl Try.isAgg3 (by exact s8_8) o2_8 rfl) ?_; refine wl_nil ?_; refine W_th ?_; refine W_reg (by kernel_rfl) ?_; refine wls rfl rfl (stp_allocL (z := (i64 0)) (cs := #[(i64 0)]) (p1 :: v7_8 :: (bp g8_8) :: L0) rfl Try.zeroValue3 rfl ?_); intro g15 w15 o15 n15 g15r l15; have x15 := grown_ext g15r; have q16 : Nq p1 (bp g15) := o0_8.nq n15; have q17 : Nq v7_8 (bp g15) := o1_8.nq n15; have q18 : Nq (bp g8_8) (bp g15) := o2_8.nq n15; replace o0_8 := o0_8.extL (SlK.stab (Sc.stab _)) x15 (Lift.call _ x15 n15); replace o1_8 := o1_8.extL (Sc.stab _) x15 (Lift.call _ x15 n15); replace o2_8 := o2_8.ext x15; have n20 := NS.ext e13 n15; have e19 := e13.trans x15; refine wln rfl rfl (stp_storeL (u := (i64 s7.2.2)) [] (p1 :: v7_8 :: (bp g8_8) :: L0) rfl Try.sizeOf3 rfl rfl o15 rfl ?_); intro w21 o21 g21 l21; replace o0_8 := o0_8.other (SlK.stab (Sc.stab _)) g21 q16 l21; replace o1_8 := o1_8.other (Sc.stab _) g21 q17 l21; replace o2_8 := o2_8.other g21 q18; have e22 := e19.grown g21 n20; refine wl_nil ?_; refine W_th ?_; refine W_reg (by kernel_rfl) ?_; refine wlq rfl rfl (q_loadB (u := (i64 s7.2.2)) rfl Try.isAgg3 rfl o21 rfl) ?_; refine wla rfl rfl (q_addI rfl rfl rfl) ?_; refine wln rfl rfl (stp_storeL (u := (i64 ((wI (s7.2.2 + 1))))) [] (p1 :: v7_8 :: (bp g8_8) :: L0) rfl Try.sizeOf3 rfl rfl o21 rfl ?_); intro w23 o23 g23 l23; replace o0_8 := o0_8.other (SlK.stab (Sc.stab _)) g23 q16 l23; replace o1_8 := o1_8.other (Sc.stab _) g23 q17 l23; replace o2_8 := o2_8.other g23 q18; have e24 := e22.grown g23 n20; refine wl_nil ?_; obtain rfl := osi H7; exact ⟨_, rfl, v7_8, g15, s0_8, s1_8, s2_8, s7_8, rfl, s110_8, e24, (o0_8.weak (SlK.stab (Sc.stab _)) (fun _ h => ⟨h.2.1, h.2.2.1, h.1, h.2.2.2.2⟩)), n0_8, (o1_8.weak (Sc.stab _) (fun _ h => ⟨h.2.1, h.2.2.1, h.1, h.2.2.2.2⟩)), n1_8, o23, n20, q0_1_8, q16, q17⟩
        replace H7 := (if_neg (of_decide_eq_false hb14)).symm.trans H7; refine W_skip ?_; refine W_th ?_; refine W_seq ?_; refine W_draw [11, 15] [(0, 0), (1, 0), (2, 0), (3, 0), (4, 0), (5, 0), (6, 0), (7, 0), (8, 0), (9, 0), (10, 0), (11, 1), (12, 0), (13, 0), (14, 0), (15, 1), (16, 0), (17, 2), (18, 0), (19, 2)] mixed (by kernel_rfl) (by kernel_rfl) (by kernel_rfl) (by kernel_rfl) ?_; have x25 := Ext.drew w12; replace o0_8 := o0_8.extL (SlK.stab (Sc.stab _)) x25 (Lift.ext x25 _); replace o1_8 := o1_8.extL (Sc.stab _) x25 (Lift.ext x25 _); replace o2_8 := o2_8.ext x25; have e26 := e13.trans x25; refine wsa rfl rfl rfl (q_move (v := p1) rfl s1_8) ?_; refine wsa rfl rfl rfl (q_move (v := (i64 ((s7.2.1.length : Int)))) rfl rfl) ?_; refine wsa rfl rfl rfl (q_move (v := p1) rfl s1_8) ?_; refine wsa rfl rfl rfl (q_move (v := (i64 ((s7.2.1.length : Int)))) rfl rfl) ?_; refine wsa rfl rfl rfl (q_move (v := (i64 r12)) rfl rfl) ?_; refine wsa rfl rfl rfl (q_addI rfl rfl rfl) ?_; refine wsa rfl rfl rfl (q_move (v := p1) rfl s1_8) ?_; refine wsa rfl rfl rfl (q_move (v := (i64 ((s7.2.1.length : Int)))) rfl rfl) ?_; refine wsa rfl rfl rfl (q_move (v := (i64 r12)) rfl rfl) ?_; refine wsa rfl rfl rfl (q_addI rfl rfl rfl) ?_; obtain ⟨c27, hc27, H7⟩ := bsi H7; refine wsa rfl rfl rfl (q_adr rfl T22 rfl rfl (o0_8.rd (SlK.stab (Sc.stab _))) hc27) ?_; refine wsq_loadO (SlK.stab (Sc.stab _)) rfl rfl rfl rfl T22 rfl o0_8 hc27 (fun v28 i28 => ?_); replace i28 : By (World.drew w12) (p1 :: v7_8 :: (bp g8_8) :: L0) v28 c27 := i28; refine wsa rfl rfl rfl (q_move (v := p1) rfl s1_8) ?_; refine wsa rfl rfl rfl (q_move (v := (i64 ((s7.2.1.length : Int)))) rfl rfl) ?_; obtain ⟨c29, hc29, H7⟩ := bsi H7; refine wsa rfl rfl rfl (q_adr rfl T22 rfl rfl (o0_8.rd (SlK.stab (Sc.stab _))) hc29) ?_; refine wsq_loadO (SlK.stab (Sc.stab _)) rfl rfl rfl rfl T22 rfl o0_8 hc29 (fun v30 i30 => ?_); replace i30 : By (World.drew w12) (p1 :: v7_8 :: (bp g8_8) :: L0) v30 c29 := i30; refine wsa rfl rfl rfl (q_adr rfl T22 rfl rfl (o0_8.rd (SlK.stab (Sc.stab _))) hc29) ?_; refine wsn rfl (by kernel_rfl) rfl rfl (stp_store (R := By) (u := v28) (SlK.stab (Sc.stab _)) [] (v7_8 :: (bp g8_8) :: L0) rfl T22 rfl rfl o0_8 (put_of c27 hc29) i28 (oc_sl _ _ _ _ i28) ?_); intro w31 o31 g31 l31; replace i28 := i28.lift l31; replace i30 := i30.lift l31; replace o1_8 := o1_8.other (Sc.stab _) g31 q0_1_8.symm l31; replace o2_8 := o2_8.other g31 q0_2_8.symm; have e32 := e26.grown g31 n0_8; obtain ⟨c33, hc33, H7⟩ := bsi H7; refine wsa rfl rfl rfl (q_adr rfl T22 rfl rfl (o31.rd (SlK.stab (Sc.stab _))) hc33) ?_; refine wsn rfl (by kernel_rfl) rfl rfl (stp_store (R := By) (u := v30) (SlK.stab (Sc.stab _)) [] (v7_8 :: (bp g8_8) :: L0) rfl T22 rfl rfl o31 (put_of c29 hc33) i30 (oc_sl _ _ _ _ i30) ?_); intro w34 o34 g34 l34; replace i28 := i28.lift l34; replace i30 := i30.lift l34; replace o1_8 := o1_8.other (Sc.stab _) g34 q0_1_8.symm l34; replace o2_8 := o2_8.other g34 q0_2_8.symm
        have e35 := e32.grown g34 n0_8; refine ws_nil ?_; refine W_th ?_; refine W_seq ?_; refine W_draw [4, 5, 7] [(0, 0), (1, 0), (2, 0), (3, 0), (4, 1), (5, 1), (6, 0), (7, 1), (8, 2), (9, 0), (10, 0), (11, 0), (12, 0), (13, 0)] mixed (by kernel_rfl) (by kernel_rfl) (by kernel_rfl) (by kernel_rfl) ?_; have x36 := Ext.drew w34; replace i28 := i28.lift (Lift.ext x36 _); replace i30 := i30.lift (Lift.ext x36 _); replace o34 := o34.extL (SlK.stab (Sc.stab _)) x36 (Lift.ext x36 _); replace o1_8 := o1_8.extL (Sc.stab _) x36 (Lift.ext x36 _); replace o2_8 := o2_8.ext x36; have e37 := e35.trans x36; refine wsa rfl rfl rfl (q_move (v := p0) rfl s0_8) ?_; refine wsa rfl rfl rfl (q_move (v := p1) rfl s1_8) ?_; refine wsa rfl rfl rfl (q_move (v := (i64 ((s7.2.1.length : Int)))) rfl rfl) ?_; obtain ⟨c38, hc38, H7⟩ := bsi H7; refine wsa rfl rfl rfl (q_adr rfl T22 rfl rfl (o34.rd (SlK.stab (Sc.stab _))) hc38) ?_; refine wsq_loadO (SlK.stab (Sc.stab _)) rfl rfl rfl rfl T22 rfl o34 hc38 (fun v39 i39 => ?_); replace i39 : By (World.drew w34) (p1 :: v7_8 :: (bp g8_8) :: L0) v39 c38 := i39; refine wsq rfl rfl rfl (q_loadB (u := (i64 s7.2.2)) rfl Try.isAgg3 (by exact s8_8) o2_8 rfl) ?_; obtain ⟨c40, hc40, H7⟩ := bsi H7; refine wsa rfl rfl rfl (q_adr rfl T30 rfl rfl i39 hc40) ?_; refine wsq rfl rfl rfl (q_loadS rfl T30 rfl i39 hc40) ?_; obtain ⟨r41, hr41, H7⟩ := bsi H7; refine wsc rfl (by kernel_rfl) rfl rfl (stp_call (vs := [p0, (u8 c40)]) Try.func50 rfl rfl rfl (ar2 rfl rfl) (field_Inv_calls a0f c40 p0 r41 _ (hp0.lift (Lift.exg0 e37)) hr41) ?_); rintro _ w41 ⟨rfl, x41⟩; refine ⟨_, rfl, ?_⟩; replace i28 := i28.lift (Lift.ext x41 _); replace i30 := i30.lift (Lift.ext x41 _); replace i39 := i39.lift (Lift.ext x41 _); replace o34 := o34.extL (SlK.stab (Sc.stab _)) x41 (Lift.ext x41 _); replace o1_8 := o1_8.extL (Sc.stab _) x41 (Lift.ext x41 _); replace o2_8 := o2_8.ext x41; have e42 := e37.trans x41; refine wsa rfl rfl rfl (q_move (v := (.tuple #[(u8 r41.1), (i64 r41.2)])) rfl rfl) ?_; refine wsa rfl rfl rfl (q_extract rfl rfl rfl) ?_; refine wsa rfl rfl rfl (q_extract rfl rfl rfl) ?_; refine wsa rfl rfl rfl (q_assign (v := (u8 r41.1)) rfl rfl) ?_; refine wsa rfl rfl rfl (q_assign (v := (i64 r41.2)) rfl rfl) ?_; refine ws_nil ?_; refine W_th ?_; refine W_seq ?_; refine W_reg (by kernel_rfl) ?_; refine wla rfl rfl (q_move (v := p1) rfl s1_8) ?_; refine wla rfl rfl (q_move (v := (i64 ((s7.2.1.length : Int)))) rfl rfl) ?_; refine wla rfl rfl (q_move (v := p0) rfl s0_8) ?_; refine wla rfl rfl (q_move (v := (u8 r41.1)) rfl rfl) ?_; refine wla rfl rfl (q_move (v := p1) rfl s1_8) ?_; refine wla rfl rfl (q_move (v := (i64 ((s7.2.1.length : Int)))) rfl rfl) ?_; obtain ⟨c43, hc43, H7⟩ := bsi H7; refine wla rfl rfl (q_adr rfl T22 rfl rfl (o34.rd (SlK.stab (Sc.stab _))) hc43) ?_; refine wlq_loadO (SlK.stab (Sc.stab _)) rfl rfl rfl T22 rfl o34 hc43 (fun v44 i44 => ?_); replace i44 : By w41 (p1 :: v7_8 :: (bp g8_8) :: L0) v44 c43 := i44
        obtain ⟨r45, hr45, H7⟩ := bsi H7; refine wls rfl rfl (stp_call (vs := [p0, (u8 r41.1), v44]) Try.func56 rfl rfl rfl (ar3 rfl rfl rfl) (field_Scale_calls a0f r41.1 c43 p0 v44 r45 _ (hp0.lift (Lift.exg0 e42)) (i44.lift (Lift.sub (L' := []) (fun _ _ => trivial))) hr45) ?_); rintro _ w45 ⟨v45, rfl, x45, n45_0, o45_0⟩; refine ⟨_, rfl, ?_⟩; have i45_0 : By w45 (p1 :: v7_8 :: (bp g8_8) :: L0) v45 r45 := OwK.slk (Sc.stab _) _ (OwK.scal o45_0 (v45 :: (p1 :: v7_8 :: (bp g8_8) :: L0))) (fun k hk => (Old.cons (Old.cons (Old.cons (hL0.exg e42) o2_8.ltB) o1_8.lt) o34.lt) k (n45_0 k hk)) (fun _ h => h.2); replace i28 := i28.lift (Lift.ext x45 _); replace i30 := i30.lift (Lift.ext x45 _); replace i39 := i39.lift (Lift.ext x45 _); replace i44 := i44.lift (Lift.ext x45 _); replace o34 := o34.extL (SlK.stab (Sc.stab _)) x45 (Lift.ext x45 _); replace o1_8 := o1_8.extL (Sc.stab _) x45 (Lift.ext x45 _); replace o2_8 := o2_8.ext x45; have e46 := e42.trans x45; refine wla rfl rfl (q_adr rfl T22 rfl rfl (o34.rd (SlK.stab (Sc.stab _))) hc43) ?_; refine wln rfl rfl (stp_store (R := By) (u := v45) (SlK.stab (Sc.stab _)) [] (v7_8 :: (bp g8_8) :: L0) rfl T22 rfl rfl o34 (put_of r45 hc43) i45_0 (oc_sl _ _ _ _ i45_0) ?_); intro w47 o47 g47 l47; replace i28 := i28.lift l47; replace i30 := i30.lift l47; replace i39 := i39.lift l47; replace i44 := i44.lift l47; replace i45_0 := i45_0.lift l47; replace o1_8 := o1_8.other (Sc.stab _) g47 q0_1_8.symm l47; replace o2_8 := o2_8.other g47 q0_2_8.symm; have e48 := e46.grown g47 n0_8; refine wl_nil ?_; refine W_th ?_; refine W_seq ?_; refine W_seq ?_; refine W_reg (by kernel_rfl) ?_; refine wla rfl rfl (q_move (v := p1) rfl s1_8) ?_; refine wla rfl rfl (q_len rfl T22.sl rfl (o47.rd (SlK.stab (Sc.stab _)))) ?_; refine wla rfl rfl (q_move (v := (i64 0)) rfl rfl) ?_; refine wl_nil ?_; refine W_th ?_; obtain ⟨x49, G49, H7⟩ := bsi H7; refine W_mid (fun f w => f 0 = p0 ∧ f 1 = p1 ∧ f 2 = (i64 a2columns) ∧ f 7 = v7_8 ∧ f 8 = (bp g8_8) ∧ f 110 = undef ∧ ExG [p1] w0 w ∧ OwK By w (p1 :: v7_8 :: (bp g8_8) :: L0) 30 p1 x49 ∧ NS [p1] w0 p1 ∧ OwK (Sc i64) w (p1 :: v7_8 :: (bp g8_8) :: L0) 3 v7_8 s7.2.1 ∧ NS [p1] w0 v7_8 ∧ Blk w g8_8 3 #[(i64 s7.2.2)] ∧ NS [p1] w0 (bp g8_8) ∧ Nq p1 v7_8 ∧ Nq p1 (bp g8_8) ∧ Nq v7_8 (bp g8_8)) ?_ ?_
        · refine W_block ?_; refine W_loop (fun s49 f w => f 0 = p0 ∧ f 1 = p1 ∧ f 2 = (i64 a2columns) ∧ f 7 = v7_8 ∧ f 8 = (bp g8_8) ∧ f 9 = (i64 ((s7.2.1.length : Int))) ∧ f 76 = (i64 ((((((((s7.1.set ((s7.2.1.length : Int) : Int).toNat c27)).set ((wI ((s7.2.1.length : Int) + r12)) : Int).toNat c29)).set ((s7.2.1.length : Int) : Int).toNat r45)).length : Int))) ∧ f 77 = (i64 s49.2) ∧ f 110 = undef ∧ ExG [p1] w0 w ∧ OwK By w (p1 :: v7_8 :: (bp g8_8) :: L0) 30 p1 s49.1 ∧ NS [p1] w0 p1 ∧ OwK (Sc i64) w (p1 :: v7_8 :: (bp g8_8) :: L0) 3 v7_8 s7.2.1 ∧ NS [p1] w0 v7_8 ∧ Blk w g8_8 3 #[(i64 s7.2.2)] ∧ NS [p1] w0 (bp g8_8) ∧ Nq p1 v7_8 ∧ Nq p1 (bp g8_8) ∧ Nq v7_8 (bp g8_8)) G49 ?_ ?_
          · exact ⟨s0_8, s1_8, s2_8, s7_8, s8_8, rfl, rfl, rfl, s110_8, e48, o47, n0_8, o1_8, n1_8, o2_8, n2_8, q0_1_8, q0_2_8, q1_2_8⟩
          rintro s49 _ _ w50 ⟨s0_50, s1_50, s2_50, s7_50, s8_50, s9_50, s76_50, s77_50, s110_50, hE50, o0_50, n0_50, o1_50, n1_50, o2_50, n2_50, q0_1_50, q0_2_50, q1_2_50⟩ H49 hr49; refine W_seq ?_; refine W_reg (by kernel_rfl) ?_; refine wla rfl rfl (q_ltI rfl s77_50 s76_50) ?_; refine wl_nil ?_; refine W_th ?_; refine W_seq ?_; refine W_cond _ rfl rfl (fun hb51 => ?_) (fun hb51 => ?_)
          · replace H49 := (if_pos (of_decide_eq_true hb51)).symm.trans H49; refine W_skip ?_; refine W_th ?_; refine W_seq ?_; refine W_block ?_; refine W_seq ?_; refine W_reg (by kernel_rfl) ?_; refine wla rfl rfl (q_move (v := (i64 s49.2)) rfl s77_50) ?_; refine wla rfl rfl (q_assign (v := (i64 s49.2)) rfl rfl) ?_; refine wl_nil ?_; refine W_th ?_; refine W_seq ?_; refine W_reg (by kernel_rfl) ?_; refine wla rfl rfl (q_move (v := (i64 s49.2)) rfl rfl) ?_; refine wla rfl rfl (q_move (v := (i64 ((s7.2.1.length : Int)))) rfl s9_50) ?_; refine wla rfl rfl (q_neI rfl rfl rfl) ?_; refine wl_nil ?_; refine W_th ?_; refine W_cond _ rfl rfl (fun hb52 => ?_) (fun hb52 => ?_)
            · replace H49 := (if_neg (ndec_t hb52)).symm.trans H49; refine W_draw [6, 10, 11, 13, 17] [(0, 0), (1, 0), (2, 0), (3, 0), (4, 0), (5, 0), (6, 1), (7, 0), (8, 0), (9, 0), (10, 1), (11, 1), (12, 0), (13, 1), (14, 0), (15, 0), (16, 0), (17, 1), (18, 2), (19, 0), (20, 2)] mixed (by kernel_rfl) (by kernel_rfl) (by kernel_rfl) (by kernel_rfl) ?_; have x53 := Ext.drew w50; replace o0_50 := o0_50.extL (SlK.stab (Sc.stab _)) x53 (Lift.ext x53 _); replace o1_50 := o1_50.extL (Sc.stab _) x53 (Lift.ext x53 _); replace o2_50 := o2_50.ext x53; have e54 := hE50.trans x53; refine wsa rfl rfl rfl (q_move (v := p1) rfl s1_50) ?_; refine wsa rfl rfl rfl (q_move (v := (i64 s49.2)) rfl rfl) ?_; refine wsa rfl rfl rfl (q_move (v := p0) rfl s0_50) ?_; refine wsa rfl rfl rfl (q_move (v := p1) rfl s1_50) ?_; refine wsa rfl rfl rfl (q_move (v := (i64 s49.2)) rfl rfl) ?_; obtain ⟨c55, hc55, H49⟩ := bsi H49; refine wsa rfl rfl rfl (q_adr rfl T22 rfl rfl (o0_50.rd (SlK.stab (Sc.stab _))) hc55) ?_; refine wsq_loadO (SlK.stab (Sc.stab _)) rfl rfl rfl rfl T22 rfl o0_50 hc55 (fun v56 i56 => ?_); replace i56 : By (World.drew w50) (p1 :: v7_8 :: (bp g8_8) :: L0) v56 c55 := i56; refine wsa rfl rfl rfl (q_move (v := p1) rfl s1_50) ?_; refine wsa rfl rfl rfl (q_move (v := (i64 s49.2)) rfl rfl) ?_; refine wsa rfl rfl rfl (q_adr rfl T22 rfl rfl (o0_50.rd (SlK.stab (Sc.stab _))) hc55) ?_; refine wsq_loadO (SlK.stab (Sc.stab _)) rfl rfl rfl rfl T22 rfl o0_50 hc55 (fun v57 i57 => ?_); replace i57 : By (World.drew w50) (p1 :: v7_8 :: (bp g8_8) :: L0) v57 c55 := i57; refine wsq rfl rfl rfl (q_loadB (u := (i64 s7.2.2)) rfl Try.isAgg3 (by exact s8_50) o2_50 rfl) ?_; obtain ⟨c58, hc58, H49⟩ := bsi H49; refine wsa rfl rfl rfl (q_adr rfl T30 rfl rfl i57 hc58) ?_; refine wsq rfl rfl rfl (q_loadS rfl T30 rfl i57 hc58) ?_; refine wsa rfl rfl rfl (q_move (v := p1) rfl s1_50) ?_; refine wsa rfl rfl rfl (q_move (v := (i64 ((s7.2.1.length : Int)))) rfl s9_50) ?_; obtain ⟨c59, hc59, H49⟩ := bsi H49; refine wsa rfl rfl rfl (q_adr rfl T22 rfl rfl (o0_50.rd (SlK.stab (Sc.stab _))) hc59) ?_; refine wsq_loadO (SlK.stab (Sc.stab _)) rfl rfl rfl rfl T22 rfl o0_50 hc59 (fun v60 i60 => ?_); replace i60 : By (World.drew w50) (p1 :: v7_8 :: (bp g8_8) :: L0) v60 c59 := i60; obtain ⟨r61, hr61, H49⟩ := bsi H49; refine wsc rfl (by kernel_rfl) rfl rfl (stp_call (vs := [p0, v56, (u8 c58), v60]) Try.func40 rfl rfl rfl (ar4 rfl rfl rfl rfl) (field_Sum_calls a0f c55 c58 c59 p0 v56 v60 r61 _ (hp0.lift (Lift.exg0 e54)) (i56.lift (Lift.sub (L' := []) (fun _ _ => trivial))) (i60.lift (Lift.sub (L' := []) (fun _ _ => trivial))) hr61) ?_); rintro _ w61 ⟨v61, rfl, x61, n61_0, o61_0⟩; refine ⟨_, rfl, ?_⟩; have i61_0 : By w61 (p1 :: v7_8 :: (bp g8_8) :: L0) v61 r61 := OwK.slk (Sc.stab _) _ (OwK.scal o61_0 (v61 :: (p1 :: v7_8 :: (bp g8_8) :: L0))) (fun k hk => (Old.cons (Old.cons (Old.cons (hL0.exg e54) o2_50.ltB) o1_50.lt) o0_50.lt) k (n61_0 k hk)) (fun _ h => h.2)
              replace i56 := i56.lift (Lift.ext x61 _); replace i57 := i57.lift (Lift.ext x61 _); replace i60 := i60.lift (Lift.ext x61 _); replace o0_50 := o0_50.extL (SlK.stab (Sc.stab _)) x61 (Lift.ext x61 _); replace o1_50 := o1_50.extL (Sc.stab _) x61 (Lift.ext x61 _); replace o2_50 := o2_50.ext x61; have e62 := e54.trans x61; refine wsa rfl rfl rfl (q_adr rfl T22 rfl rfl (o0_50.rd (SlK.stab (Sc.stab _))) hc55) ?_; refine wsn rfl (by kernel_rfl) rfl rfl (stp_store (R := By) (u := v61) (SlK.stab (Sc.stab _)) [] (v7_8 :: (bp g8_8) :: L0) rfl T22 rfl rfl o0_50 (put_of r61 hc55) i61_0 (oc_sl _ _ _ _ i61_0) ?_); intro w63 o63 g63 l63; replace i56 := i56.lift l63; replace i57 := i57.lift l63; replace i60 := i60.lift l63; replace i61_0 := i61_0.lift l63; replace o1_50 := o1_50.other (Sc.stab _) g63 q0_1_50.symm l63; replace o2_50 := o2_50.other g63 q0_2_50.symm; have e65 := e62.grown g63 n0_50; refine ws_nil ?_; refine bk_n ?_; refine W_th ?_; refine W_reg (by kernel_rfl) ?_; refine wla rfl rfl (q_addI rfl s77_50 rfl) ?_; refine wla rfl rfl (q_move (v := (i64 ((wI (s49.2 + 1))))) rfl rfl) ?_; refine wl_nil ?_; obtain rfl := osi H49; exact ⟨_, rfl, s0_50, s1_50, s2_50, s7_50, s8_50, s9_50, s76_50, rfl, s110_50, e65, o63, n0_50, o1_50, n1_50, o2_50, n2_50, q0_1_50, q0_2_50, q1_2_50⟩
            replace H49 := (if_pos (ndec_f hb52)).symm.trans H49; refine W_skip ?_; refine bk_n ?_; refine W_th ?_; refine W_reg (by kernel_rfl) ?_; refine wla rfl rfl (q_addI rfl s77_50 rfl) ?_; refine wla rfl rfl (q_move (v := (i64 ((wI (s49.2 + 1))))) rfl rfl) ?_; refine wl_nil ?_; obtain rfl := osi H49; exact ⟨_, rfl, s0_50, s1_50, s2_50, s7_50, s8_50, s9_50, s76_50, rfl, s110_50, hE50, o0_50, n0_50, o1_50, n1_50, o2_50, n2_50, q0_1_50, q0_2_50, q1_2_50⟩
          replace H49 := (if_neg (of_decide_eq_false hb51)).symm.trans H49; refine W_exit ?_; refine th_x ?_; obtain rfl := osi H49; obtain rfl := hr49 _ rfl; refine th_x ?_; refine bk_x ?_; exact ⟨s0_50, s1_50, s2_50, s7_50, s8_50, s110_50, hE50, o0_50, n0_50, o1_50, n1_50, o2_50, n2_50, q0_1_50, q0_2_50, q1_2_50⟩
        rintro _ w67 ⟨s0_67, s1_67, s2_67, s7_67, s8_67, s110_67, hE67, o0_67, n0_67, o1_67, n1_67, o2_67, n2_67, q0_1_67, q0_2_67, q1_2_67⟩; refine W_th ?_; refine W_reg (by kernel_rfl) ?_; refine wla rfl rfl (q_move (v := v7_8) rfl s7_67) ?_; refine wlq rfl rfl (q_loadB (u := (i64 s7.2.2)) rfl Try.isAgg3 (by exact s8_67) o2_67 rfl) ?_; refine wls rfl rfl (stp_lit (L := (p1 :: v7_8 :: (bp g8_8) :: L0)) (R := (Sc i64)) [(i64 s7.2.2)] ([s7.2.2] : List Int) rfl T23 rfl (by exact ⟨rfl, rfl, trivial⟩) rfl (litC i64 (oneC_i64) (us := [(i64 s7.2.2)]) (l := ([s7.2.2] : List Int)) rfl) rfl (litS i64 (us := [(i64 s7.2.2)]) (l := ([s7.2.2] : List Int)) rfl) ?_); intro v68 w68 o68 n68 g68 l68; have x68 := grown_ext g68; have i68 : In w68 (p1 :: v7_8 :: (bp g8_8) :: L0) v68 (([s7.2.2] : List Int)) := OwK.slk (Sc.stab _) _ o68 (fun k hk => (Old.cons (Old.cons (Old.cons (hL0.exg hE67) o2_67.ltB) o1_67.lt) o0_67.lt) k (n68 k hk)) (fun _ h => h.2); replace o0_67 := o0_67.extL (SlK.stab (Sc.stab _)) x68 (Lift.ext x68 _); replace o1_67 := o1_67.extL (Sc.stab _) x68 (Lift.ext x68 _); replace o2_67 := o2_67.ext x68; have e69 := hE67.trans x68; obtain ⟨c70, hc70, H7⟩ := bsi H7; refine wls rfl rfl (stp_append (R := (Sc i64)) (v := v7_8) (u := v68) (Sc.stab _) [p1] ((bp g8_8) :: L0) rfl T23 rfl rfl o1_67 i68 (fun _ _ h => h) hc70 oc_i64 ?_); intro v70 w70 o70 g70 nx70 l70; replace i68 := i68.lift l70; have q71 : Nq p1 v70 := o0_67.nxt q0_1_67 nx70; have q72 : Nq (bp g8_8) v70 := o2_67.nxt q1_2_67.symm nx70; replace o0_67 := o0_67.other (SlK.stab (Sc.stab _)) g70 q0_1_67 l70; replace o2_67 := o2_67.other g70 q1_2_67.symm; have e73 := e69.grown g70 n1_67; have n74 := NS.nxt e69 n1_67 nx70; refine wla rfl rfl (q_assign (v := v70) rfl rfl) ?_; refine wl_nil ?_; refine bk_n ?_; refine W_th ?_; refine W_seq ?_; refine W_seq ?_; refine W_reg (by kernel_rfl) ?_; refine wlq rfl rfl (q_loadB (u := (i64 s7.2.2)) rfl Try.isAgg3 (by exact s8_67) o2_67 rfl) ?_; refine wl_nil ?_; refine W_th ?_; refine W_reg (by kernel_rfl) ?_; refine wls rfl rfl (stp_allocL (z := (i64 0)) (cs := #[(i64 0)]) (p1 :: v70 :: (bp g8_8) :: L0) rfl Try.zeroValue3 rfl ?_); intro g75 w75 o75 n75 g75r l75; have x75 := grown_ext g75r; have q76 : Nq p1 (bp g75) := o0_67.nq n75; have q77 : Nq v70 (bp g75) := o70.nq n75; have q78 : Nq (bp g8_8) (bp g75) := o2_67.nq n75; replace i68 := i68.lift (Lift.call _ x75 n75); replace o0_67 := o0_67.extL (SlK.stab (Sc.stab _)) x75 (Lift.call _ x75 n75); replace o70 := o70.extL (Sc.stab _) x75 (Lift.call _ x75 n75); replace o2_67 := o2_67.ext x75; have n80 := NS.ext e73 n75; have e79 := e73.trans x75; refine wln rfl rfl (stp_storeL (u := (i64 s7.2.2)) [] (p1 :: v70 :: (bp g8_8) :: L0) rfl Try.sizeOf3 rfl rfl o75 rfl ?_); intro w81 o81 g81 l81; replace i68 := i68.lift l81; replace o0_67 := o0_67.other (SlK.stab (Sc.stab _)) g81 q76 l81; replace o70 := o70.other (Sc.stab _) g81 q77 l81; replace o2_67 := o2_67.other g81 q78; have e82 := e79.grown g81 n80; refine wl_nil ?_
        refine W_th ?_; refine W_reg (by kernel_rfl) ?_; refine wlq rfl rfl (q_loadB (u := (i64 s7.2.2)) rfl Try.isAgg3 rfl o81 rfl) ?_; refine wla rfl rfl (q_addI rfl rfl rfl) ?_; refine wln rfl rfl (stp_storeL (u := (i64 ((wI (s7.2.2 + 1))))) [] (p1 :: v70 :: (bp g8_8) :: L0) rfl Try.sizeOf3 rfl rfl o81 rfl ?_); intro w83 o83 g83 l83; replace i68 := i68.lift l83; replace o0_67 := o0_67.other (SlK.stab (Sc.stab _)) g83 q76 l83; replace o70 := o70.other (Sc.stab _) g83 q77 l83; replace o2_67 := o2_67.other g83 q78; have e84 := e82.grown g83 n80; refine wl_nil ?_; obtain rfl := osi H7; exact ⟨_, rfl, v70, g75, s0_67, s1_67, s2_67, rfl, rfl, s110_67, e84, (o0_67.weak (SlK.stab (Sc.stab _)) (fun _ h => ⟨h.2.1, h.2.2.1, h.1, h.2.2.2.2⟩)), n0_67, (o70.weak (Sc.stab _) (fun _ h => ⟨h.2.1, h.2.2.1, h.1, h.2.2.2.2⟩)), n74, o83, n80, q71, q76, q77⟩
      replace H7 := (if_neg (of_decide_eq_false hb10)).symm.trans H7; refine W_exit ?_; refine th_x ?_; obtain rfl := osi H7; obtain rfl := hr7 _ rfl; refine th_x ?_; refine bk_x ?_; exact ⟨v7_8, s1_8, s7_8, s110_8, hE8, (o0_8.weak (SlK.stab (Sc.stab _)) (fun _ h => ⟨h.1, h.2.1, h.2.2.2⟩)), n0_8, (o1_8.weak (Sc.stab _) (fun _ h => ⟨h.1, h.2.1, h.2.2.2⟩)), n1_8, q0_1_8⟩
    replace H7 := (if_neg (of_decide_eq_false hb9)).symm.trans H7; refine wlk rfl rfl ?_; refine wlk rfl rfl ?_; refine wlk rfl rfl ?_; refine wlk rfl rfl ?_; refine wlk rfl rfl ?_; refine wla rfl rfl (q_pick_f (v := (.bool false)) rfl rfl rfl) ?_; refine wl_nil ?_; refine W_th ?_; refine W_cond false rfl rfl (fun hb => by cases hb) (fun _ => ?_); refine W_exit ?_; refine th_x ?_; obtain rfl := osi H7; obtain rfl := hr7 _ rfl; refine th_x ?_; refine bk_x ?_; exact ⟨v7_8, s1_8, s7_8, s110_8, hE8, (o0_8.weak (SlK.stab (Sc.stab _)) (fun _ h => ⟨h.1, h.2.1, h.2.2.2⟩)), n0_8, (o1_8.weak (Sc.stab _) (fun _ h => ⟨h.1, h.2.1, h.2.2.2⟩)), n1_8, q0_1_8⟩
  rintro _ w87 ⟨v7_87, s1_87, s7_87, s110_87, hE87, o0_87, n0_87, o1_87, n1_87, q0_1_87⟩; refine W_th ?_; refine W_seq ?_; refine W_reg (by kernel_rfl) ?_; refine wla rfl rfl (q_move (v := v7_87) rfl s7_87) ?_; refine wla rfl rfl (q_assign (v := v7_87) rfl rfl) ?_; refine wl_nil ?_; refine W_th ?_; refine W_ret ?_; obtain rfl := osi H; refine rt1 v7_87 rfl rfl rfl s110_87 ?_; exact ⟨v7_87, rfl, hE87, (o0_87.weak (SlK.stab (Sc.stab _)) (show ∀ k, Av (p1 :: v7_87 :: L0) k → Av (p1 :: L0) k from fun _ h => ⟨h.1, h.2.2⟩)), (NS.nw n1_87 q0_1_87.symm), (o1_87.weak (Sc.stab _) (fun _ _ => trivial))⟩
noncomputable def matrix_Rank (a0m : Option (List (List UInt8))) (a1f : Bool) : Option Int :=
(if a0m.isNone = true then some 0
else
(if (!a1f) = true then some 0
else
((matrix_Size a0m).bind fun r3 =>
((a0m).bind fun c5 =>
((slices_Clone_rows c5).bind fun r6 =>
((matrix_reduce a1f r6 r3.2).bind fun r9 => some (r9.2.length : Int)))))))
set_option maxRecDepth 100000 in
set_option maxHeartbeats 8000000 in
theorem matrix_Rank_calls (a0m : Option (List (List UInt8))) (a1f : Bool) (p0 : Value) (p1 : Value) (r : Int) (w0 : World) (hp0 : Mx w0 [] p0 a0m) (hp1 : Fd w0 [] p1 a1f) (H : matrix_Rank a0m a1f = some r) :
    Calls Try.prog 23 [p0, p1].toArray w0 (fun e w' => e = .returned (i64 r) ∧ Ext w0 w') := by
  have hE : Ext w0 w0 := Ext.refl w0; unfold matrix_Rank at H; refine calls_W (n := 27) Try.func23 rfl rfl rfl ?_; refine W_seq ?_; refine W_reg (by kernel_rfl) ?_; refine wla rfl rfl (q_assign (v := (i64 0)) rfl rfl) ?_; refine wl_nil ?_; refine W_th ?_; refine W_seq ?_; refine W_seq ?_; refine W_reg (by kernel_rfl) ?_; refine wla rfl rfl (q_move (v := p0) rfl rfl) ?_; refine wla rfl rfl (q_eqM rfl rfl rfl rfl (hp0.lift (Lift.ext hE _))) ?_; refine wlb rfl rfl (q_move (v := (.bool a0m.isNone)) rfl rfl) (fun hb1 => ?_) (fun hb1 => ?_)
  · replace H := (if_pos hb1).symm.trans H; refine wlk rfl rfl ?_; refine wlk rfl rfl ?_; refine wla rfl rfl (q_pick_t (v := (.bool true)) rfl rfl rfl) ?_; refine wl_nil ?_; refine W_th ?_; refine W_cond true rfl rfl (fun _ => ?_) (fun hb => by cases hb); refine W_seq ?_; refine W_reg (by kernel_rfl) ?_; refine wla rfl rfl (q_assign (v := (i64 0)) rfl rfl) ?_; refine wl_nil ?_; refine W_th ?_; refine W_ret ?_; refine th_r ?_; obtain rfl := osi H; refine rt1 (i64 0) rfl rfl rfl rfl ?_; exact ⟨rfl, hE⟩
  replace H := (if_neg (ne_true_of_eq_false hb1)).symm.trans H; refine wla rfl rfl (q_move (v := p1) rfl rfl) ?_; refine wla rfl rfl (q_eqF rfl rfl rfl rfl (hp1.lift (Lift.ext hE _))) ?_; refine wla rfl rfl (q_pick_f (v := (.bool ((!a1f)))) rfl rfl rfl) ?_; refine wl_nil ?_; refine W_th ?_; refine W_cond _ rfl rfl (fun hb2 => ?_) (fun hb2 => ?_)
  · replace H := (if_pos hb2).symm.trans H; refine W_seq ?_; refine W_reg (by kernel_rfl) ?_; refine wla rfl rfl (q_assign (v := (i64 0)) rfl rfl) ?_; refine wl_nil ?_; refine W_th ?_; refine W_ret ?_; refine th_r ?_; obtain rfl := osi H; refine rt1 (i64 0) rfl rfl rfl rfl ?_; exact ⟨rfl, hE⟩
  replace H := (if_neg (ne_true_of_eq_false hb2)).symm.trans H; refine W_skip ?_; refine W_th ?_; refine W_seq ?_; refine W_reg (by kernel_rfl) ?_; refine wla rfl rfl (q_move (v := p0) rfl rfl) ?_; obtain ⟨r3, hr3, H⟩ := bsi H; refine wls rfl rfl (stp_call (vs := [p0]) Try.func12 rfl rfl rfl (ar1 rfl) (matrix_Size_calls a0m p0 r3 _ (hp0.lift (Lift.ext hE _)) hr3) ?_); rintro _ w3 ⟨rfl, x3⟩; refine ⟨_, rfl, ?_⟩; have e4 := hE.trans x3; refine wla rfl rfl (q_move (v := (.tuple #[(i64 r3.1), (i64 r3.2)])) rfl rfl) ?_; refine wla rfl rfl (q_extract rfl rfl rfl) ?_; refine wla rfl rfl (q_extract rfl rfl rfl) ?_; refine wla rfl rfl (q_assign (v := (i64 r3.1)) rfl rfl) ?_; refine wla rfl rfl (q_assign (v := (i64 r3.2)) rfl rfl) ?_; refine wl_nil ?_; refine W_th ?_; refine W_seq ?_; refine W_reg (by kernel_rfl) ?_; refine wla rfl rfl (q_move (v := p1) rfl rfl) ?_; refine wla rfl rfl (q_move (v := p0) rfl rfl) ?_; obtain ⟨c5, hc5, H⟩ := bsi H; obtain ⟨g5, uv5, hv5, hB5, hR5⟩ := MxT.some hp0 hc5; refine wla rfl rfl (q_nilP (g := g5) (m := 0) rfl (Eq.trans rfl hv5)) ?_; refine wla rfl rfl (q_fldP rfl fieldAtM rfl) ?_; refine wlq rfl rfl (q_loadB (u := uv5) rfl Try.isAgg22 rfl (hB5.ext e4) rfl) ?_; obtain ⟨r6, hr6, H⟩ := bsi H; refine wls rfl rfl (stp_call (vs := [uv5]) Try.func44 rfl rfl rfl (ar1 rfl) (slices_Clone_rows_calls c5 uv5 r6 _ [] (Old.nil _) (hR5.lift (Lift.ext e4 _)) hr6) ?_); rintro _ w6 ⟨v6, rfl, x6, n6_0, o6_0⟩; refine ⟨_, rfl, ?_⟩; have o6 : OwK By w6 (v6 :: []) 30 v6 r6 := o6_0; have n8 := Nw.ext e4 n6_0; have e7 := e4.trans x6; refine wla rfl rfl (q_move (v := (i64 r3.2)) rfl rfl) ?_; obtain ⟨r9, hr9, H⟩ := bsi H; refine wls rfl rfl (stp_call (vs := [p1, v6, (i64 r3.2)]) Try.func43 rfl rfl rfl (ar3 rfl rfl rfl) (matrix_reduce_calls a1f r6 r3.2 p1 v6 r9 _ [] (Old.nil _) ((hp1.lift (Lift.arg e7 (nv_cons n8 nv_nil))).lift (Lift.sub (fun _ h => ⟨h.1, trivial⟩))) (o6.weak (SlK.stab (Sc.stab _)) (show ∀ k, Av [v6] k → Av [v6] k from fun _ h => ⟨h.1, trivial⟩)) hr9) ?_); rintro _ w9 ⟨v9, rfl, x9, hb9_0, n9_0, o9_0⟩; refine ⟨_, rfl, ?_⟩; have i9_0 : In w9 [v6] v9 r9.2 := OwK.slk (Sc.stab _) _ (OwK.scal o9_0 (v9 :: [v6])) (fun k hk => (Old.cons (Old.nil _) o6.lt) k (n9_0 k hk)) (fun _ h => h.2); have lx9 := Lift.ownX [] [] x9; have ob9 := hb9_0.weak (SlK.stab (Sc.stab _)) (show ∀ k, Av [v6] k → Av [v6] k from fun _ h => ⟨h.1, trivial⟩); have e10 := e7.grownX x9 n8; refine wla rfl rfl (q_len rfl T23.sl rfl i9_0) ?_; refine wla rfl rfl (q_assign (v := (i64 ((r9.2.length : Int)))) rfl rfl) ?_; refine wl_nil ?_; refine W_th ?_; refine W_ret ?_; obtain rfl := osi H; refine rt1 (i64 ((r9.2.length : Int))) rfl rfl rfl rfl ?_; exact ⟨rfl, e10⟩
end Gk

/- Printed by gen.py: for each Go function a pure function, and that the Go code comes to it. No condition beside the equation that says what the pure function gives. -/
set_option linter.unusedVariables false
set_option linter.unusedSimpArgs false
namespace Gk
open Go Go.Proofs
noncomputable def law04_MatrixRules (a0n : Int) (a1k : Int) (a2c : Int) (a3a : List UInt8) (a4b : List UInt8) (a5v : List UInt8) : Option Bool :=
((law04_lives ).bind fun r1 =>
(if (!r1) = true then some false
else
((field_New ).bind fun r4 =>
((law04_square a3a (wI (1 + (wI ((((UInt64.ofInt a0n) % (8 : UInt64))).toNat : Int)))) (wI (1 + (wI ((((UInt64.ofInt a1k) % (8 : UInt64))).toNat : Int))))).bind fun r6 =>
((matrix_New r6).bind fun r8 =>
((law04_square a4b (wI (1 + (wI ((((UInt64.ofInt a1k) % (8 : UInt64))).toNat : Int)))) (wI (1 + (wI ((((UInt64.ofInt a2c) % (8 : UInt64))).toNat : Int))))).bind fun r10 =>
((matrix_New r10).bind fun r12 =>
((matrix_Mul r8.1 r4 r12.1).bind fun r14 =>
((law04_square a5v 1 (wI (1 + (wI ((((UInt64.ofInt a2c) % (8 : UInt64))).toNat : Int))))).bind fun r16 =>
((idx r16 0).bind fun c18 =>
((matrix_Times r14.1 r4 c18).bind fun r20 =>
((matrix_Times r12.1 r4 c18).bind fun r22 =>
((matrix_Times r8.1 r4 r22.1).bind fun r24 =>
(if r8.2 = 0 then
(if r12.2 = 0 then
(if r14.2 = 0 then
(if r20.2 = 0 then
(if r22.2 = 0 then
(if r24.2 = 0 then
(if r20.1 = r24.1 then
((matrix_Rank r14.1 r4).bind fun r33 =>
((matrix_Rank r8.1 r4).bind fun r35 =>
((matrix_Rank r12.1 r4).bind fun r37 =>
(if r33 ≤ (if r37 < r35 then r37 else r35) then
((matrix_Rank r8.1 false).bind fun r40 => some (decide (r40 = 0)))
else some false))))
else some false)
else some false)
else some false)
else some false)
else some false)
else some false)
else some false))))))))))))))
set_option maxRecDepth 100000 in
set_option maxHeartbeats 8000000 in
theorem law04_MatrixRules_calls (a0n : Int) (a1k : Int) (a2c : Int) (a3a : List UInt8) (a4b : List UInt8) (a5v : List UInt8) (p3 : Value) (p4 : Value) (p5 : Value) (r : Bool) (w0 : World) (hp3 : By w0 [] p3 a3a) (hp4 : By w0 [] p4 a4b) (hp5 : By w0 [] p5 a5v) (H : law04_MatrixRules a0n a1k a2c a3a a4b a5v = some r) :
    Calls Try.prog 5 [(i64 a0n), (i64 a1k), (i64 a2c), p3, p4, p5].toArray w0 (fun e w' => e = .returned (.bool r) ∧ Ext w0 w') := by
  have hE : Ext w0 w0 := Ext.refl w0; unfold law04_MatrixRules at H; refine calls_W (n := 139) Try.func5 rfl rfl rfl ?_; refine W_seq ?_; refine W_reg (by kernel_rfl) ?_; refine wla rfl rfl (q_assign (v := (.bool false)) rfl rfl) ?_; refine wl_nil ?_; refine W_th ?_; refine W_seq ?_; refine W_seq ?_; refine W_reg (by kernel_rfl) ?_; obtain ⟨r1, hr1, H⟩ := bsi H; refine wls rfl rfl (stp_call (vs := []) Try.func9 rfl rfl rfl (ar0 ) (law04_lives_calls   r1 _  hr1) ?_); rintro _ w1 ⟨rfl, x1⟩; refine ⟨_, rfl, ?_⟩; have e2 := hE.trans x1; refine wla rfl rfl (q_not rfl rfl) ?_; refine wl_nil ?_; refine W_th ?_; refine W_cond _ rfl rfl (fun hb3 => ?_) (fun hb3 => ?_)
  · replace H := (if_pos hb3).symm.trans H; refine W_seq ?_; refine W_reg (by kernel_rfl) ?_; refine wla rfl rfl (q_assign (v := (.bool false)) rfl rfl) ?_; refine wl_nil ?_; refine W_th ?_; refine W_ret ?_; refine th_r ?_; obtain rfl := osi H; refine rt1 (.bool false) rfl rfl rfl rfl ?_; exact ⟨rfl, e2⟩
  replace H := (if_neg (ne_true_of_eq_false hb3)).symm.trans H; refine W_skip ?_; refine W_th ?_; refine W_seq ?_; refine W_reg (by kernel_rfl) ?_; refine wla rfl rfl (q_move (v := (i64 a0n)) rfl rfl) ?_; refine wla rfl rfl (q_cvt64I rfl rfl rfl rfl) ?_; refine wla rfl rfl (q_rem64 rfl rfl (cst64 (8 : UInt64) rfl) (by decide)) ?_; refine wla rfl rfl (q_cvtI64 rfl rfl rfl rfl) ?_; refine wla rfl rfl (q_addI rfl rfl rfl) ?_; refine wla rfl rfl (q_move (v := (i64 a1k)) rfl rfl) ?_; refine wla rfl rfl (q_cvt64I rfl rfl rfl rfl) ?_; refine wla rfl rfl (q_rem64 rfl rfl (cst64 (8 : UInt64) rfl) (by decide)) ?_; refine wla rfl rfl (q_cvtI64 rfl rfl rfl rfl) ?_; refine wla rfl rfl (q_addI rfl rfl rfl) ?_; refine wla rfl rfl (q_move (v := (i64 a2c)) rfl rfl) ?_; refine wla rfl rfl (q_cvt64I rfl rfl rfl rfl) ?_; refine wla rfl rfl (q_rem64 rfl rfl (cst64 (8 : UInt64) rfl) (by decide)) ?_; refine wla rfl rfl (q_cvtI64 rfl rfl rfl rfl) ?_; refine wla rfl rfl (q_addI rfl rfl rfl) ?_; refine wla rfl rfl (q_assign (v := (i64 ((wI (1 + (wI ((((UInt64.ofInt a0n) % (8 : UInt64))).toNat : Int))))))) rfl rfl) ?_; refine wla rfl rfl (q_assign (v := (i64 ((wI (1 + (wI ((((UInt64.ofInt a1k) % (8 : UInt64))).toNat : Int))))))) rfl rfl) ?_; refine wla rfl rfl (q_assign (v := (i64 ((wI (1 + (wI ((((UInt64.ofInt a2c) % (8 : UInt64))).toNat : Int))))))) rfl rfl) ?_; refine wl_nil ?_; refine W_th ?_; refine W_seq ?_; refine W_reg (by kernel_rfl) ?_; obtain ⟨r4, hr4, H⟩ := bsi H; refine wls rfl rfl (stp_call (vs := []) Try.func17 rfl rfl rfl (ar0 ) (field_New_calls   r4 _ [] (Old.nil _)  hr4) ?_); rintro _ w4 ⟨v4, rfl, x4, i4_0⟩; refine ⟨_, rfl, ?_⟩; have e5 := e2.trans x4; refine wla rfl rfl (q_assign (v := v4) rfl rfl) ?_; refine wl_nil ?_; refine W_th ?_; refine W_seq ?_; refine W_reg (by kernel_rfl) ?_; refine wla rfl rfl (q_move (v := p3) rfl rfl) ?_; refine wla rfl rfl (q_move (v := (i64 ((wI (1 + (wI ((((UInt64.ofInt a0n) % (8 : UInt64))).toNat : Int))))))) rfl rfl) ?_; refine wla rfl rfl (q_move (v := (i64 ((wI (1 + (wI ((((UInt64.ofInt a1k) % (8 : UInt64))).toNat : Int))))))) rfl rfl) ?_; obtain ⟨r6, hr6, H⟩ := bsi H; refine wls rfl rfl (stp_call (vs := [p3, (i64 ((wI (1 + (wI ((((UInt64.ofInt a0n) % (8 : UInt64))).toNat : Int)))))), (i64 ((wI (1 + (wI ((((UInt64.ofInt a1k) % (8 : UInt64))).toNat : Int))))))]) Try.func18 rfl rfl rfl (ar3 rfl rfl rfl) (law04_square_calls a3a (wI (1 + (wI ((((UInt64.ofInt a0n) % (8 : UInt64))).toNat : Int)))) (wI (1 + (wI ((((UInt64.ofInt a1k) % (8 : UInt64))).toNat : Int)))) p3 r6 _ [] (Old.nil _) (hp3.lift (Lift.ext e5 _)) hr6) ?_); rintro _ w6 ⟨v6, rfl, x6, n6_0, o6_0⟩; refine ⟨_, rfl, ?_⟩; have i6_0 : Rw w6 [] v6 r6 := OwK.slk (SlK.stab (Sc.stab _)) _ o6_0 (fun k hk => (Old.nil _) k (n6_0 k hk)) (fun _ h => h.2); replace i4_0 := i4_0.lift (Lift.ext x6 _); have e7 := e5.trans x6; obtain ⟨r8, hr8, H⟩ := bsi H; refine wls rfl rfl (stp_call (vs := [v6]) Try.func11 rfl rfl rfl (ar1 rfl) (matrix_New_calls r6 v6 r8 _ [] (Old.nil _) (i6_0.lift (Lift.sub (L' := []) (fun _ _ => trivial))) hr8) ?_)
  rintro _ w8 ⟨v8_0, rfl, x8, i8_0⟩; refine ⟨_, rfl, ?_⟩; replace i4_0 := i4_0.lift (Lift.ext x8 _); replace i6_0 := i6_0.lift (Lift.ext x8 _); have e9 := e7.trans x8; refine wla rfl rfl (q_move (v := (.tuple #[v8_0, (i64 r8.2)])) rfl rfl) ?_; refine wla rfl rfl (q_extract rfl rfl rfl) ?_; refine wla rfl rfl (q_extract rfl rfl rfl) ?_; refine wla rfl rfl (q_assign (v := v8_0) rfl rfl) ?_; refine wla rfl rfl (q_assign (v := (i64 r8.2)) rfl rfl) ?_; refine wl_nil ?_; refine W_th ?_; refine W_seq ?_; refine W_reg (by kernel_rfl) ?_; refine wla rfl rfl (q_move (v := p4) rfl rfl) ?_; refine wla rfl rfl (q_move (v := (i64 ((wI (1 + (wI ((((UInt64.ofInt a1k) % (8 : UInt64))).toNat : Int))))))) rfl rfl) ?_; refine wla rfl rfl (q_move (v := (i64 ((wI (1 + (wI ((((UInt64.ofInt a2c) % (8 : UInt64))).toNat : Int))))))) rfl rfl) ?_; obtain ⟨r10, hr10, H⟩ := bsi H; refine wls rfl rfl (stp_call (vs := [p4, (i64 ((wI (1 + (wI ((((UInt64.ofInt a1k) % (8 : UInt64))).toNat : Int)))))), (i64 ((wI (1 + (wI ((((UInt64.ofInt a2c) % (8 : UInt64))).toNat : Int))))))]) Try.func18 rfl rfl rfl (ar3 rfl rfl rfl) (law04_square_calls a4b (wI (1 + (wI ((((UInt64.ofInt a1k) % (8 : UInt64))).toNat : Int)))) (wI (1 + (wI ((((UInt64.ofInt a2c) % (8 : UInt64))).toNat : Int)))) p4 r10 _ [] (Old.nil _) (hp4.lift (Lift.ext e9 _)) hr10) ?_); rintro _ w10 ⟨v10, rfl, x10, n10_0, o10_0⟩; refine ⟨_, rfl, ?_⟩; have i10_0 : Rw w10 [] v10 r10 := OwK.slk (SlK.stab (Sc.stab _)) _ o10_0 (fun k hk => (Old.nil _) k (n10_0 k hk)) (fun _ h => h.2); replace i4_0 := i4_0.lift (Lift.ext x10 _); replace i6_0 := i6_0.lift (Lift.ext x10 _); replace i8_0 := i8_0.lift (Lift.ext x10 _); have e11 := e9.trans x10; obtain ⟨r12, hr12, H⟩ := bsi H; refine wls rfl rfl (stp_call (vs := [v10]) Try.func11 rfl rfl rfl (ar1 rfl) (matrix_New_calls r10 v10 r12 _ [] (Old.nil _) (i10_0.lift (Lift.sub (L' := []) (fun _ _ => trivial))) hr12) ?_); rintro _ w12 ⟨v12_0, rfl, x12, i12_0⟩; refine ⟨_, rfl, ?_⟩; replace i4_0 := i4_0.lift (Lift.ext x12 _); replace i6_0 := i6_0.lift (Lift.ext x12 _); replace i8_0 := i8_0.lift (Lift.ext x12 _); replace i10_0 := i10_0.lift (Lift.ext x12 _); have e13 := e11.trans x12; refine wla rfl rfl (q_move (v := (.tuple #[v12_0, (i64 r12.2)])) rfl rfl) ?_; refine wla rfl rfl (q_extract rfl rfl rfl) ?_; refine wla rfl rfl (q_extract rfl rfl rfl) ?_; refine wla rfl rfl (q_assign (v := v12_0) rfl rfl) ?_; refine wla rfl rfl (q_assign (v := (i64 r12.2)) rfl rfl) ?_; refine wl_nil ?_; refine W_th ?_; refine W_seq ?_; refine W_reg (by kernel_rfl) ?_; refine wla rfl rfl (q_move (v := v8_0) rfl rfl) ?_; refine wla rfl rfl (q_move (v := v4) rfl rfl) ?_; refine wla rfl rfl (q_move (v := v12_0) rfl rfl) ?_; obtain ⟨r14, hr14, H⟩ := bsi H; refine wls rfl rfl (stp_call (vs := [v8_0, v4, v12_0]) Try.func19 rfl rfl rfl (ar3 rfl rfl rfl) (matrix_Mul_calls r8.1 r4 r12.1 v8_0 v4 v12_0 r14 _ [] (Old.nil _) (i8_0.lift (Lift.sub (L' := []) (fun _ _ => trivial))) (i4_0.lift (Lift.sub (L' := []) (fun _ _ => trivial))) (i12_0.lift (Lift.sub (L' := []) (fun _ _ => trivial))) hr14) ?_)
  rintro _ w14 ⟨v14_0, rfl, x14, i14_0⟩; refine ⟨_, rfl, ?_⟩; replace i4_0 := i4_0.lift (Lift.ext x14 _); replace i6_0 := i6_0.lift (Lift.ext x14 _); replace i8_0 := i8_0.lift (Lift.ext x14 _); replace i10_0 := i10_0.lift (Lift.ext x14 _); replace i12_0 := i12_0.lift (Lift.ext x14 _); have e15 := e13.trans x14; refine wla rfl rfl (q_move (v := (.tuple #[v14_0, (i64 r14.2)])) rfl rfl) ?_; refine wla rfl rfl (q_extract rfl rfl rfl) ?_; refine wla rfl rfl (q_extract rfl rfl rfl) ?_; refine wla rfl rfl (q_assign (v := v14_0) rfl rfl) ?_; refine wla rfl rfl (q_assign (v := (i64 r14.2)) rfl rfl) ?_; refine wl_nil ?_; refine W_th ?_; refine W_seq ?_; refine W_reg (by kernel_rfl) ?_; refine wla rfl rfl (q_move (v := p5) rfl rfl) ?_; refine wla rfl rfl (q_move (v := (i64 ((wI (1 + (wI ((((UInt64.ofInt a2c) % (8 : UInt64))).toNat : Int))))))) rfl rfl) ?_; obtain ⟨r16, hr16, H⟩ := bsi H; refine wls rfl rfl (stp_call (vs := [p5, (i64 1), (i64 ((wI (1 + (wI ((((UInt64.ofInt a2c) % (8 : UInt64))).toNat : Int))))))]) Try.func18 rfl rfl rfl (ar3 rfl rfl rfl) (law04_square_calls a5v 1 (wI (1 + (wI ((((UInt64.ofInt a2c) % (8 : UInt64))).toNat : Int)))) p5 r16 _ [] (Old.nil _) (hp5.lift (Lift.ext e15 _)) hr16) ?_); rintro _ w16 ⟨v16, rfl, x16, n16_0, o16_0⟩; refine ⟨_, rfl, ?_⟩; have i16_0 : Rw w16 [] v16 r16 := OwK.slk (SlK.stab (Sc.stab _)) _ o16_0 (fun k hk => (Old.nil _) k (n16_0 k hk)) (fun _ h => h.2); replace i4_0 := i4_0.lift (Lift.ext x16 _); replace i6_0 := i6_0.lift (Lift.ext x16 _); replace i8_0 := i8_0.lift (Lift.ext x16 _); replace i10_0 := i10_0.lift (Lift.ext x16 _); replace i12_0 := i12_0.lift (Lift.ext x16 _); replace i14_0 := i14_0.lift (Lift.ext x16 _); have e17 := e15.trans x16; obtain ⟨c18, hc18, H⟩ := bsi H; refine wla rfl rfl (q_adr rfl T22 rfl rfl i16_0 hc18) ?_; refine wlq_load rfl rfl rfl T22 rfl i16_0 hc18 (Ext.refl _) (fun v19 i19 => ?_); refine wla rfl rfl (q_assign (v := v19) rfl rfl) ?_; refine wl_nil ?_; refine W_th ?_; refine W_seq ?_; refine W_reg (by kernel_rfl) ?_; refine wla rfl rfl (q_move (v := v14_0) rfl rfl) ?_; refine wla rfl rfl (q_move (v := v4) rfl rfl) ?_; refine wla rfl rfl (q_move (v := v19) rfl rfl) ?_; obtain ⟨r20, hr20, H⟩ := bsi H; refine wls rfl rfl (stp_call (vs := [v14_0, v4, v19]) Try.func21 rfl rfl rfl (ar3 rfl rfl rfl) (matrix_Times_calls r14.1 r4 c18 v14_0 v4 v19 r20 _ (i14_0.lift (Lift.sub (L' := []) (fun _ _ => trivial))) (i4_0.lift (Lift.sub (L' := []) (fun _ _ => trivial))) (i19.lift (Lift.sub (L' := []) (fun _ _ => trivial))) hr20) ?_); rintro _ w20 ⟨v20_0, rfl, x20, n20_0, o20_0⟩; refine ⟨_, rfl, ?_⟩; have i20_0 : By w20 [] v20_0 r20.1 := OwK.slk (Sc.stab _) _ (OwK.scal o20_0 (v20_0 :: [])) (fun k hk => (Old.nil _) k (n20_0 k hk)) (fun _ h => h.2); replace i4_0 := i4_0.lift (Lift.ext x20 _); replace i6_0 := i6_0.lift (Lift.ext x20 _); replace i8_0 := i8_0.lift (Lift.ext x20 _); replace i10_0 := i10_0.lift (Lift.ext x20 _); replace i12_0 := i12_0.lift (Lift.ext x20 _)
  replace i14_0 := i14_0.lift (Lift.ext x20 _); replace i16_0 := i16_0.lift (Lift.ext x20 _); replace i19 := i19.lift (Lift.ext x20 _); have e21 := e17.trans x20; refine wla rfl rfl (q_move (v := (.tuple #[v20_0, (i64 r20.2)])) rfl rfl) ?_; refine wla rfl rfl (q_extract rfl rfl rfl) ?_; refine wla rfl rfl (q_extract rfl rfl rfl) ?_; refine wla rfl rfl (q_assign (v := v20_0) rfl rfl) ?_; refine wla rfl rfl (q_assign (v := (i64 r20.2)) rfl rfl) ?_; refine wl_nil ?_; refine W_th ?_; refine W_seq ?_; refine W_reg (by kernel_rfl) ?_; refine wla rfl rfl (q_move (v := v12_0) rfl rfl) ?_; refine wla rfl rfl (q_move (v := v4) rfl rfl) ?_; refine wla rfl rfl (q_move (v := v19) rfl rfl) ?_; obtain ⟨r22, hr22, H⟩ := bsi H; refine wls rfl rfl (stp_call (vs := [v12_0, v4, v19]) Try.func21 rfl rfl rfl (ar3 rfl rfl rfl) (matrix_Times_calls r12.1 r4 c18 v12_0 v4 v19 r22 _ (i12_0.lift (Lift.sub (L' := []) (fun _ _ => trivial))) (i4_0.lift (Lift.sub (L' := []) (fun _ _ => trivial))) (i19.lift (Lift.sub (L' := []) (fun _ _ => trivial))) hr22) ?_); rintro _ w22 ⟨v22_0, rfl, x22, n22_0, o22_0⟩; refine ⟨_, rfl, ?_⟩; have i22_0 : By w22 [] v22_0 r22.1 := OwK.slk (Sc.stab _) _ (OwK.scal o22_0 (v22_0 :: [])) (fun k hk => (Old.nil _) k (n22_0 k hk)) (fun _ h => h.2); replace i4_0 := i4_0.lift (Lift.ext x22 _); replace i6_0 := i6_0.lift (Lift.ext x22 _); replace i8_0 := i8_0.lift (Lift.ext x22 _); replace i10_0 := i10_0.lift (Lift.ext x22 _); replace i12_0 := i12_0.lift (Lift.ext x22 _); replace i14_0 := i14_0.lift (Lift.ext x22 _); replace i16_0 := i16_0.lift (Lift.ext x22 _); replace i19 := i19.lift (Lift.ext x22 _); replace i20_0 := i20_0.lift (Lift.ext x22 _); have e23 := e21.trans x22; refine wla rfl rfl (q_move (v := (.tuple #[v22_0, (i64 r22.2)])) rfl rfl) ?_; refine wla rfl rfl (q_extract rfl rfl rfl) ?_; refine wla rfl rfl (q_extract rfl rfl rfl) ?_; refine wla rfl rfl (q_assign (v := v22_0) rfl rfl) ?_; refine wla rfl rfl (q_assign (v := (i64 r22.2)) rfl rfl) ?_; refine wl_nil ?_; refine W_th ?_; refine W_seq ?_; refine W_reg (by kernel_rfl) ?_; refine wla rfl rfl (q_move (v := v8_0) rfl rfl) ?_; refine wla rfl rfl (q_move (v := v4) rfl rfl) ?_; refine wla rfl rfl (q_move (v := v22_0) rfl rfl) ?_; obtain ⟨r24, hr24, H⟩ := bsi H; refine wls rfl rfl (stp_call (vs := [v8_0, v4, v22_0]) Try.func21 rfl rfl rfl (ar3 rfl rfl rfl) (matrix_Times_calls r8.1 r4 r22.1 v8_0 v4 v22_0 r24 _ (i8_0.lift (Lift.sub (L' := []) (fun _ _ => trivial))) (i4_0.lift (Lift.sub (L' := []) (fun _ _ => trivial))) (i22_0.lift (Lift.sub (L' := []) (fun _ _ => trivial))) hr24) ?_); rintro _ w24 ⟨v24_0, rfl, x24, n24_0, o24_0⟩; refine ⟨_, rfl, ?_⟩; have i24_0 : By w24 [] v24_0 r24.1 := OwK.slk (Sc.stab _) _ (OwK.scal o24_0 (v24_0 :: [])) (fun k hk => (Old.nil _) k (n24_0 k hk)) (fun _ h => h.2); replace i4_0 := i4_0.lift (Lift.ext x24 _); replace i6_0 := i6_0.lift (Lift.ext x24 _); replace i8_0 := i8_0.lift (Lift.ext x24 _); replace i10_0 := i10_0.lift (Lift.ext x24 _)
  replace i12_0 := i12_0.lift (Lift.ext x24 _); replace i14_0 := i14_0.lift (Lift.ext x24 _); replace i16_0 := i16_0.lift (Lift.ext x24 _); replace i19 := i19.lift (Lift.ext x24 _); replace i20_0 := i20_0.lift (Lift.ext x24 _); replace i22_0 := i22_0.lift (Lift.ext x24 _); have e25 := e23.trans x24; refine wla rfl rfl (q_move (v := (.tuple #[v24_0, (i64 r24.2)])) rfl rfl) ?_; refine wla rfl rfl (q_extract rfl rfl rfl) ?_; refine wla rfl rfl (q_extract rfl rfl rfl) ?_; refine wla rfl rfl (q_assign (v := v24_0) rfl rfl) ?_; refine wla rfl rfl (q_assign (v := (i64 r24.2)) rfl rfl) ?_; refine wl_nil ?_; refine W_th ?_; refine W_seq ?_; refine W_seq ?_; refine W_reg (by kernel_rfl) ?_; refine wla rfl rfl (q_move (v := (i64 r8.2)) rfl rfl) ?_; refine wla rfl rfl (q_neI rfl rfl rfl) ?_; refine wlb rfl rfl (q_move (v := (.bool ((!decide (r8.2 = 0))))) rfl rfl) (fun hb26 => ?_) (fun hb26 => ?_)
  · replace H := (if_neg (ndec_t hb26)).symm.trans H; refine wlk rfl rfl ?_; refine wlk rfl rfl ?_; refine wla rfl rfl (q_pick_t (v := (.bool true)) rfl rfl rfl) ?_; refine wla rfl rfl (q_move (v := (.bool true)) rfl rfl) ?_; refine wlk rfl rfl ?_; refine wlk rfl rfl ?_; refine wla rfl rfl (q_pick_t (v := (.bool true)) rfl rfl rfl) ?_; refine wla rfl rfl (q_move (v := (.bool true)) rfl rfl) ?_; refine wlk rfl rfl ?_; refine wlk rfl rfl ?_; refine wla rfl rfl (q_pick_t (v := (.bool true)) rfl rfl rfl) ?_; refine wla rfl rfl (q_move (v := (.bool true)) rfl rfl) ?_; refine wlk rfl rfl ?_; refine wlk rfl rfl ?_; refine wla rfl rfl (q_pick_t (v := (.bool true)) rfl rfl rfl) ?_; refine wla rfl rfl (q_move (v := (.bool true)) rfl rfl) ?_; refine wlk rfl rfl ?_; refine wlk rfl rfl ?_; refine wla rfl rfl (q_pick_t (v := (.bool true)) rfl rfl rfl) ?_; refine wla rfl rfl (q_move (v := (.bool true)) rfl rfl) ?_; refine wlk rfl rfl ?_; refine wlk rfl rfl ?_; refine wlk rfl rfl ?_; refine wlk rfl rfl ?_; refine wlk rfl rfl ?_; refine wla rfl rfl (q_pick_t (v := (.bool true)) rfl rfl rfl) ?_; refine wl_nil ?_; refine W_th ?_; refine W_cond true rfl rfl (fun _ => ?_) (fun hb => by cases hb); refine W_seq ?_; refine W_reg (by kernel_rfl) ?_; refine wla rfl rfl (q_assign (v := (.bool false)) rfl rfl) ?_; refine wl_nil ?_; refine W_th ?_; refine W_ret ?_; refine th_r ?_; obtain rfl := osi H; refine rt1 (.bool false) rfl rfl rfl rfl ?_; exact ⟨rfl, e25⟩
  replace H := (if_pos (ndec_f hb26)).symm.trans H; refine wla rfl rfl (q_move (v := (i64 r12.2)) rfl rfl) ?_; refine wla rfl rfl (q_neI rfl rfl rfl) ?_; refine wla rfl rfl (q_pick_f (v := (.bool ((!decide (r12.2 = 0))))) rfl rfl rfl) ?_; refine wlb rfl rfl (q_move (v := (.bool ((!decide (r12.2 = 0))))) rfl rfl) (fun hb27 => ?_) (fun hb27 => ?_)
  · replace H := (if_neg (ndec_t hb27)).symm.trans H; refine wlk rfl rfl ?_; refine wlk rfl rfl ?_; refine wla rfl rfl (q_pick_t (v := (.bool true)) rfl rfl rfl) ?_; refine wla rfl rfl (q_move (v := (.bool true)) rfl rfl) ?_; refine wlk rfl rfl ?_; refine wlk rfl rfl ?_; refine wla rfl rfl (q_pick_t (v := (.bool true)) rfl rfl rfl) ?_; refine wla rfl rfl (q_move (v := (.bool true)) rfl rfl) ?_; refine wlk rfl rfl ?_; refine wlk rfl rfl ?_; refine wla rfl rfl (q_pick_t (v := (.bool true)) rfl rfl rfl) ?_; refine wla rfl rfl (q_move (v := (.bool true)) rfl rfl) ?_; refine wlk rfl rfl ?_; refine wlk rfl rfl ?_; refine wla rfl rfl (q_pick_t (v := (.bool true)) rfl rfl rfl) ?_; refine wla rfl rfl (q_move (v := (.bool true)) rfl rfl) ?_; refine wlk rfl rfl ?_; refine wlk rfl rfl ?_; refine wlk rfl rfl ?_; refine wlk rfl rfl ?_; refine wlk rfl rfl ?_; refine wla rfl rfl (q_pick_t (v := (.bool true)) rfl rfl rfl) ?_; refine wl_nil ?_; refine W_th ?_; refine W_cond true rfl rfl (fun _ => ?_) (fun hb => by cases hb); refine W_seq ?_; refine W_reg (by kernel_rfl) ?_; refine wla rfl rfl (q_assign (v := (.bool false)) rfl rfl) ?_; refine wl_nil ?_; refine W_th ?_; refine W_ret ?_; refine th_r ?_; obtain rfl := osi H; refine rt1 (.bool false) rfl rfl rfl rfl ?_; exact ⟨rfl, e25⟩
  replace H := (if_pos (ndec_f hb27)).symm.trans H; refine wla rfl rfl (q_move (v := (i64 r14.2)) rfl rfl) ?_; refine wla rfl rfl (q_neI rfl rfl rfl) ?_; refine wla rfl rfl (q_pick_f (v := (.bool ((!decide (r14.2 = 0))))) rfl rfl rfl) ?_; refine wlb rfl rfl (q_move (v := (.bool ((!decide (r14.2 = 0))))) rfl rfl) (fun hb28 => ?_) (fun hb28 => ?_)
  · replace H := (if_neg (ndec_t hb28)).symm.trans H; refine wlk rfl rfl ?_; refine wlk rfl rfl ?_; refine wla rfl rfl (q_pick_t (v := (.bool true)) rfl rfl rfl) ?_; refine wla rfl rfl (q_move (v := (.bool true)) rfl rfl) ?_; refine wlk rfl rfl ?_; refine wlk rfl rfl ?_; refine wla rfl rfl (q_pick_t (v := (.bool true)) rfl rfl rfl) ?_; refine wla rfl rfl (q_move (v := (.bool true)) rfl rfl) ?_; refine wlk rfl rfl ?_; refine wlk rfl rfl ?_; refine wla rfl rfl (q_pick_t (v := (.bool true)) rfl rfl rfl) ?_; refine wla rfl rfl (q_move (v := (.bool true)) rfl rfl) ?_; refine wlk rfl rfl ?_; refine wlk rfl rfl ?_; refine wlk rfl rfl ?_; refine wlk rfl rfl ?_; refine wlk rfl rfl ?_; refine wla rfl rfl (q_pick_t (v := (.bool true)) rfl rfl rfl) ?_; refine wl_nil ?_; refine W_th ?_; refine W_cond true rfl rfl (fun _ => ?_) (fun hb => by cases hb); refine W_seq ?_; refine W_reg (by kernel_rfl) ?_; refine wla rfl rfl (q_assign (v := (.bool false)) rfl rfl) ?_; refine wl_nil ?_; refine W_th ?_; refine W_ret ?_; refine th_r ?_; obtain rfl := osi H; refine rt1 (.bool false) rfl rfl rfl rfl ?_; exact ⟨rfl, e25⟩
  replace H := (if_pos (ndec_f hb28)).symm.trans H; refine wla rfl rfl (q_move (v := (i64 r20.2)) rfl rfl) ?_; refine wla rfl rfl (q_neI rfl rfl rfl) ?_; refine wla rfl rfl (q_pick_f (v := (.bool ((!decide (r20.2 = 0))))) rfl rfl rfl) ?_; refine wlb rfl rfl (q_move (v := (.bool ((!decide (r20.2 = 0))))) rfl rfl) (fun hb29 => ?_) (fun hb29 => ?_)
  · replace H := (if_neg (ndec_t hb29)).symm.trans H; refine wlk rfl rfl ?_; refine wlk rfl rfl ?_; refine wla rfl rfl (q_pick_t (v := (.bool true)) rfl rfl rfl) ?_; refine wla rfl rfl (q_move (v := (.bool true)) rfl rfl) ?_; refine wlk rfl rfl ?_; refine wlk rfl rfl ?_; refine wla rfl rfl (q_pick_t (v := (.bool true)) rfl rfl rfl) ?_; refine wla rfl rfl (q_move (v := (.bool true)) rfl rfl) ?_; refine wlk rfl rfl ?_; refine wlk rfl rfl ?_; refine wlk rfl rfl ?_; refine wlk rfl rfl ?_; refine wlk rfl rfl ?_; refine wla rfl rfl (q_pick_t (v := (.bool true)) rfl rfl rfl) ?_; refine wl_nil ?_; refine W_th ?_; refine W_cond true rfl rfl (fun _ => ?_) (fun hb => by cases hb); refine W_seq ?_; refine W_reg (by kernel_rfl) ?_; refine wla rfl rfl (q_assign (v := (.bool false)) rfl rfl) ?_; refine wl_nil ?_; refine W_th ?_; refine W_ret ?_; refine th_r ?_; obtain rfl := osi H; refine rt1 (.bool false) rfl rfl rfl rfl ?_; exact ⟨rfl, e25⟩
  replace H := (if_pos (ndec_f hb29)).symm.trans H; refine wla rfl rfl (q_move (v := (i64 r22.2)) rfl rfl) ?_; refine wla rfl rfl (q_neI rfl rfl rfl) ?_; refine wla rfl rfl (q_pick_f (v := (.bool ((!decide (r22.2 = 0))))) rfl rfl rfl) ?_; refine wlb rfl rfl (q_move (v := (.bool ((!decide (r22.2 = 0))))) rfl rfl) (fun hb30 => ?_) (fun hb30 => ?_)
  · replace H := (if_neg (ndec_t hb30)).symm.trans H; refine wlk rfl rfl ?_; refine wlk rfl rfl ?_; refine wla rfl rfl (q_pick_t (v := (.bool true)) rfl rfl rfl) ?_; refine wla rfl rfl (q_move (v := (.bool true)) rfl rfl) ?_; refine wlk rfl rfl ?_; refine wlk rfl rfl ?_; refine wlk rfl rfl ?_; refine wlk rfl rfl ?_; refine wlk rfl rfl ?_; refine wla rfl rfl (q_pick_t (v := (.bool true)) rfl rfl rfl) ?_; refine wl_nil ?_; refine W_th ?_; refine W_cond true rfl rfl (fun _ => ?_) (fun hb => by cases hb); refine W_seq ?_; refine W_reg (by kernel_rfl) ?_; refine wla rfl rfl (q_assign (v := (.bool false)) rfl rfl) ?_; refine wl_nil ?_; refine W_th ?_; refine W_ret ?_; refine th_r ?_; obtain rfl := osi H; refine rt1 (.bool false) rfl rfl rfl rfl ?_; exact ⟨rfl, e25⟩
  replace H := (if_pos (ndec_f hb30)).symm.trans H; refine wla rfl rfl (q_move (v := (i64 r24.2)) rfl rfl) ?_; refine wla rfl rfl (q_neI rfl rfl rfl) ?_; refine wla rfl rfl (q_pick_f (v := (.bool ((!decide (r24.2 = 0))))) rfl rfl rfl) ?_; refine wlb rfl rfl (q_move (v := (.bool ((!decide (r24.2 = 0))))) rfl rfl) (fun hb31 => ?_) (fun hb31 => ?_)
  · replace H := (if_neg (ndec_t hb31)).symm.trans H; refine wlk rfl rfl ?_; refine wlk rfl rfl ?_; refine wlk rfl rfl ?_; refine wlk rfl rfl ?_; refine wlk rfl rfl ?_; refine wla rfl rfl (q_pick_t (v := (.bool true)) rfl rfl rfl) ?_; refine wl_nil ?_; refine W_th ?_; refine W_cond true rfl rfl (fun _ => ?_) (fun hb => by cases hb); refine W_seq ?_; refine W_reg (by kernel_rfl) ?_; refine wla rfl rfl (q_assign (v := (.bool false)) rfl rfl) ?_; refine wl_nil ?_; refine W_th ?_; refine W_ret ?_; refine th_r ?_; obtain rfl := osi H; refine rt1 (.bool false) rfl rfl rfl rfl ?_; exact ⟨rfl, e25⟩
  replace H := (if_pos (ndec_f hb31)).symm.trans H; refine wla rfl rfl (q_move (v := v20_0) rfl rfl) ?_; refine wlq rfl rfl (q_str rfl T30 rfl rfl rfl i20_0) ?_; refine wla rfl rfl (q_move (v := v24_0) rfl rfl) ?_; refine wlq rfl rfl (q_str rfl T30 rfl rfl rfl i24_0) ?_; refine wla rfl rfl (q_neS rfl rfl rfl) ?_; refine wla rfl rfl (q_pick_f (v := (.bool ((!decide (r20.1 = r24.1))))) rfl rfl rfl) ?_; refine wl_nil ?_; refine W_th ?_; refine W_cond _ rfl rfl (fun hb32 => ?_) (fun hb32 => ?_)
  · replace H := (if_neg (ndec_t hb32)).symm.trans H; refine W_seq ?_; refine W_reg (by kernel_rfl) ?_; refine wla rfl rfl (q_assign (v := (.bool false)) rfl rfl) ?_; refine wl_nil ?_; refine W_th ?_; refine W_ret ?_; refine th_r ?_; obtain rfl := osi H; refine rt1 (.bool false) rfl rfl rfl rfl ?_; exact ⟨rfl, e25⟩
  replace H := (if_pos (ndec_f hb32)).symm.trans H; refine W_skip ?_; refine W_th ?_; refine W_seq ?_; refine W_reg (by kernel_rfl) ?_; refine wla rfl rfl (q_move (v := v14_0) rfl rfl) ?_; refine wla rfl rfl (q_move (v := v4) rfl rfl) ?_; obtain ⟨r33, hr33, H⟩ := bsi H; refine wls rfl rfl (stp_call (vs := [v14_0, v4]) Try.func23 rfl rfl rfl (ar2 rfl rfl) (matrix_Rank_calls r14.1 r4 v14_0 v4 r33 _ (i14_0.lift (Lift.sub (L' := []) (fun _ _ => trivial))) (i4_0.lift (Lift.sub (L' := []) (fun _ _ => trivial))) hr33) ?_); rintro _ w33 ⟨rfl, x33⟩; refine ⟨_, rfl, ?_⟩; replace i4_0 := i4_0.lift (Lift.ext x33 _); replace i6_0 := i6_0.lift (Lift.ext x33 _); replace i8_0 := i8_0.lift (Lift.ext x33 _); replace i10_0 := i10_0.lift (Lift.ext x33 _); replace i12_0 := i12_0.lift (Lift.ext x33 _); replace i14_0 := i14_0.lift (Lift.ext x33 _); replace i16_0 := i16_0.lift (Lift.ext x33 _); replace i19 := i19.lift (Lift.ext x33 _); replace i20_0 := i20_0.lift (Lift.ext x33 _); replace i22_0 := i22_0.lift (Lift.ext x33 _); replace i24_0 := i24_0.lift (Lift.ext x33 _); have e34 := e25.trans x33; refine wla rfl rfl (q_move (v := v8_0) rfl rfl) ?_; refine wla rfl rfl (q_move (v := v4) rfl rfl) ?_; obtain ⟨r35, hr35, H⟩ := bsi H; refine wls rfl rfl (stp_call (vs := [v8_0, v4]) Try.func23 rfl rfl rfl (ar2 rfl rfl) (matrix_Rank_calls r8.1 r4 v8_0 v4 r35 _ (i8_0.lift (Lift.sub (L' := []) (fun _ _ => trivial))) (i4_0.lift (Lift.sub (L' := []) (fun _ _ => trivial))) hr35) ?_); rintro _ w35 ⟨rfl, x35⟩; refine ⟨_, rfl, ?_⟩; replace i4_0 := i4_0.lift (Lift.ext x35 _); replace i6_0 := i6_0.lift (Lift.ext x35 _); replace i8_0 := i8_0.lift (Lift.ext x35 _); replace i10_0 := i10_0.lift (Lift.ext x35 _); replace i12_0 := i12_0.lift (Lift.ext x35 _); replace i14_0 := i14_0.lift (Lift.ext x35 _); replace i16_0 := i16_0.lift (Lift.ext x35 _); replace i19 := i19.lift (Lift.ext x35 _); replace i20_0 := i20_0.lift (Lift.ext x35 _); replace i22_0 := i22_0.lift (Lift.ext x35 _); replace i24_0 := i24_0.lift (Lift.ext x35 _); have e36 := e34.trans x35; refine wla rfl rfl (q_move (v := v12_0) rfl rfl) ?_; refine wla rfl rfl (q_move (v := v4) rfl rfl) ?_; obtain ⟨r37, hr37, H⟩ := bsi H; refine wls rfl rfl (stp_call (vs := [v12_0, v4]) Try.func23 rfl rfl rfl (ar2 rfl rfl) (matrix_Rank_calls r12.1 r4 v12_0 v4 r37 _ (i12_0.lift (Lift.sub (L' := []) (fun _ _ => trivial))) (i4_0.lift (Lift.sub (L' := []) (fun _ _ => trivial))) hr37) ?_); rintro _ w37 ⟨rfl, x37⟩; refine ⟨_, rfl, ?_⟩; replace i4_0 := i4_0.lift (Lift.ext x37 _); replace i6_0 := i6_0.lift (Lift.ext x37 _); replace i8_0 := i8_0.lift (Lift.ext x37 _); replace i10_0 := i10_0.lift (Lift.ext x37 _); replace i12_0 := i12_0.lift (Lift.ext x37 _); replace i14_0 := i14_0.lift (Lift.ext x37 _); replace i16_0 := i16_0.lift (Lift.ext x37 _); replace i19 := i19.lift (Lift.ext x37 _); replace i20_0 := i20_0.lift (Lift.ext x37 _); replace i22_0 := i22_0.lift (Lift.ext x37 _); replace i24_0 := i24_0.lift (Lift.ext x37 _)
  have e38 := e36.trans x37; refine wla rfl rfl (q_minI rfl rfl rfl) ?_; refine wla rfl rfl (q_leI rfl rfl rfl) ?_; refine wlb rfl rfl (q_move (v := (.bool ((decide (r33 ≤ (if r37 < r35 then r37 else r35)))))) rfl rfl) (fun hb39 => ?_) (fun hb39 => ?_)
  · replace H := (if_pos (of_decide_eq_true hb39)).symm.trans H; refine wla rfl rfl (q_move (v := v8_0) rfl rfl) ?_; obtain ⟨r40, hr40, H⟩ := bsi H; refine wls rfl rfl (stp_call (vs := [v8_0, (.pointer none)]) Try.func23 rfl rfl rfl (ar2 rfl rfl) (matrix_Rank_calls r8.1 false v8_0 (.pointer none) r40 _ (i8_0.lift (Lift.sub (L' := []) (fun _ _ => trivial))) (Fd.nil _ _) hr40) ?_); rintro _ w40 ⟨rfl, x40⟩; refine ⟨_, rfl, ?_⟩; replace i4_0 := i4_0.lift (Lift.ext x40 _); replace i6_0 := i6_0.lift (Lift.ext x40 _); replace i8_0 := i8_0.lift (Lift.ext x40 _); replace i10_0 := i10_0.lift (Lift.ext x40 _); replace i12_0 := i12_0.lift (Lift.ext x40 _); replace i14_0 := i14_0.lift (Lift.ext x40 _); replace i16_0 := i16_0.lift (Lift.ext x40 _); replace i19 := i19.lift (Lift.ext x40 _); replace i20_0 := i20_0.lift (Lift.ext x40 _); replace i22_0 := i22_0.lift (Lift.ext x40 _); replace i24_0 := i24_0.lift (Lift.ext x40 _); have e41 := e38.trans x40; refine wla rfl rfl (q_eqI rfl rfl rfl) ?_; refine wla rfl rfl (q_pick_t (v := (.bool ((decide (r40 = 0))))) rfl rfl rfl) ?_; refine wla rfl rfl (q_assign (v := (.bool ((decide (r40 = 0))))) rfl rfl) ?_; refine wl_nil ?_; refine W_th ?_; refine W_ret ?_; obtain rfl := osi H; refine rt1 (.bool ((decide (r40 = 0)))) rfl rfl rfl rfl ?_; exact ⟨rfl, e41⟩
  replace H := (if_neg (of_decide_eq_false hb39)).symm.trans H; refine wlk rfl rfl ?_; refine wlk rfl rfl ?_; refine wlk rfl rfl ?_; refine wla rfl rfl (q_pick_f (v := (.bool false)) rfl rfl rfl) ?_; refine wla rfl rfl (q_assign (v := (.bool false)) rfl rfl) ?_; refine wl_nil ?_; refine W_th ?_; refine W_ret ?_; obtain rfl := osi H; refine rt1 (.bool false) rfl rfl rfl rfl ?_; exact ⟨rfl, e38⟩
end Gk

/- Printed by gen.py: for each Go function a pure function, and that the Go code comes to it. No condition beside the equation that says what the pure function gives. -/
set_option linter.unusedVariables false
set_option linter.unusedSimpArgs false
namespace Gk
open Go Go.Proofs
end Gk

/- What the field's functions come to, in plain Lean. No condition but lengths. -/
set_option linter.unusedSimpArgs false
namespace Gk
open Gf
theorem idx_nat {α : Type} (l : List α) (n : Nat) : idx l (n : Int) = l[n]? := by simp [idx]
theorem idx_lg (a : UInt8) : idx lgT (a.toNat : Int) = some (lg a : Int) := by rw [idx_nat, lgT_get]
theorem idx_pw (n : Nat) (h : n < 510) : idx pwT (n : Int) = some (pw n) := by rw [idx_nat, pwT_get n h]
theorem Mul_eq (a b : UInt8) : field_Mul true a b = some (mul a b) := by
  unfold field_Mul
  rw [if_neg (by simp)]
  by_cases ha : a = 0
  · rw [if_pos ha, ha, zero_mul]
  · by_cases hb : b = 0
    · rw [if_neg ha, if_pos hb, hb, mul_zero]
    · have h1 := lg_lt a
      have h2 := lg_lt b
      have e : wI ((lg a : Int) + (lg b : Int)) = ((lg a + lg b : Nat) : Int) := by rw [wI_of (by omega) (by omega)]; omega
      rw [if_neg ha, if_neg hb]
      simp only [grd, idx_lg, Option.bind_some, e, idx_pw _ (show lg a + lg b < 510 by omega), mul_pw ha hb, if_true]
theorem Inv_eq (a : UInt8) : field_Inv true a = some (if a = 0 then (0, 7) else (inv a, 0)) := by
  unfold field_Inv
  rw [if_neg (by simp)]
  by_cases ha : a = 0
  · rw [if_pos ha, if_pos ha]
  · have h1 := lg_lt a
    have e : wI (255 - (lg a : Int)) = ((255 - lg a : Nat) : Int) := by rw [wI_of (by omega) (by omega)]; omega
    rw [if_neg ha, if_neg ha]
    simp only [grd, idx_lg, Option.bind_some, e, idx_pw _ (show 255 - lg a < 510 by omega), if_true, inv, if_neg ha]
def powZ (a : UInt8) (n : Int) : UInt8 := if n = 0 then 1 else if a = 0 then 0 else pw (lg a * (n % 255).toNat)
theorem Pow_eq (a : UInt8) (n : Int) : field_Pow true a n = some (powZ a n) := by
  unfold field_Pow powZ
  by_cases hn : n = 0
  · simp [hn]
  · by_cases ha : a = 0
    · simp [hn, ha]
    · have h1 := lg_lt a
      have e1 : remI n 255 = some (n.tmod 255) := by simp [remI]
      have b1 : -255 < n.tmod 255 ∧ n.tmod 255 < 255 := ⟨by have := Int.lt_tmod_of_pos n (b := 255) (by decide); omega, Int.tmod_lt_of_pos n (by decide)⟩
      have e2 : wI (n.tmod 255 + 255) = n.tmod 255 + 255 := wI_of (by omega) (by omega)
      have e3 : (n.tmod 255 + 255).tmod 255 = ((n % 255).toNat : Int) := by
        rw [Int.tmod_eq_emod_of_nonneg (by omega)]
        have := Int.mul_tdiv_add_tmod n 255
        omega
      have e4 : remI (n.tmod 255 + 255) 255 = some ((n % 255).toNat : Int) := by simp [remI, e3]
      have hk : (n % 255).toNat < 255 := by omega
      generalize (n % 255).toNat = k at hk e4
      have hm : lg a * k < 65025 := Nat.mul_lt_mul'' h1 hk
      have e5 : wI ((lg a : Int) * (k : Int)) = ((lg a * k : Nat) : Int) := by rw [← Int.natCast_mul, wI_nat (by omega)]
      have e6 : remI ((lg a * k : Nat) : Int) 255 = some (((lg a * k) % 255 : Nat) : Int) := remI_nat _ 255 (by decide)
      rw [if_neg (by simp), if_neg hn, if_neg ha, if_neg hn, if_neg ha]
      simp only [e1, Option.bind_some, e2, e4, grd, if_true, idx_lg, e5, e6]
      rw [idx_pw _ (by omega)]
      simp [pw_mod]
end Gk

/- Rows of bytes, sums of rows, the document's inverses and powers, in plain Lean. No condition. -/
set_option linter.unusedSimpArgs false
set_option linter.unusedVariables false
namespace Gk
open Gf
theorem makeL_nat {α : Type} (n : Nat) (z : α) (h : n ≤ most) : makeL (n : Int) z = some (List.replicate n z) := by
  unfold makeL; rw [if_pos ⟨by omega, by omega⟩]; simp
theorem copyL_all {α : Type} (z : α) (a : List α) : copyL (List.replicate a.length z) 0 a = a := by
  unfold copyL; simp
def sumL (a : List UInt8) (c : UInt8) (b : List UInt8) : List UInt8 := a.mapIdx fun j x => x ^^^ mul c (b.getD j 0)
def sumTo (a : List UInt8) (c : UInt8) (b : List UInt8) (i : Nat) : List UInt8 := a.mapIdx fun j x => if j < i then x ^^^ mul c (b.getD j 0) else x
theorem sumL_len (a : List UInt8) (c : UInt8) (b : List UInt8) : (sumL a c b).length = a.length := by simp [sumL]
theorem sumTo_set (a : List UInt8) (c : UInt8) (b : List UInt8) (i : Nat) (x : UInt8) (h : a[i]? = some x) (y : UInt8) (hb : b[i]? = some y) : (sumTo a c b i).set i (x ^^^ mul c y) = sumTo a c b (i + 1) := by
  apply List.ext_getElem?
  intro j
  simp only [sumTo, List.getElem?_set, List.getElem?_mapIdx, List.length_mapIdx]
  have hi := (List.getElem?_eq_some_iff.1 h).1
  by_cases hj : i = j
  · subst hj
    simp [hi, List.getD, hb]
    rw [(List.getElem?_eq_some_iff.1 h).2]
  · rw [if_neg hj]
    have : j < i + 1 ↔ j < i := by omega
    simp [this]
theorem sumTo_get (a : List UInt8) (c : UInt8) (b : List UInt8) (i : Nat) (x : UInt8) (h : a[i]? = some x) : (sumTo a c b i)[i]? = some x := by
  simp [sumTo, List.getElem?_mapIdx, h]
theorem sumTo_end (a : List UInt8) (c : UInt8) (b : List UInt8) (i : Nat) (h : b.length ≤ i ∨ a.length ≤ i) : sumTo a c b i = sumL a c b := by
  apply List.ext_getElem?
  intro j
  simp only [sumTo, sumL, List.getElem?_mapIdx]
  by_cases hj : j < i
  · simp [hj]
  · rcases h with h | h
    · have : b.getD j 0 = 0 := by simp [List.getD, List.getElem?_eq_none (show b.length ≤ j by omega)]
      simp only [hj, this, mul_zero, xor_zero, if_false]
    · simp [List.getElem?_eq_none (show a.length ≤ j by omega)]
theorem minI (a b : Nat) : (if (b : Int) < (a : Int) then (b : Int) else (a : Int)) = ((min a b : Nat) : Int) := by split <;> omega
theorem wI_succ (i : Nat) (h : i < 9223372036854775807) : wI ((i : Int) + 1) = ((i + 1 : Nat) : Int) := by rw [wI_of (by omega) (by omega)]; omega
theorem most_lt : most < 9223372036854775807 := by decide
theorem Sum_eq (a : List UInt8) (c : UInt8) (b : List UInt8) (h : a.length ≤ most) : field_Sum true a c b = some (sumL a c b) := by
  unfold field_Sum
  rw [if_neg (by simp), makeL_nat _ _ h]
  simp only [Option.bind_some, minI, copyL_all]
  have hm := most_lt
  refine bind_of (x := sumL a c b) (iterC_count (fun i => (sumTo a c b i, (i : Int))) (min a.length b.length) (sumL a c b) ?_ ?_ ?_) rfl
  · refine Prod.ext ?_ rfl
    apply List.ext_getElem?
    intro j
    simp [sumTo, List.getElem?_mapIdx]
  · intro i hi
    have h1 : i < a.length := by omega
    have h2 : i < b.length := by omega
    have e1 : a[i]? = some a[i] := by simp [h1]
    have e2 : b[i]? = some b[i] := by simp [h2]
    rw [if_pos (by omega)]
    simp only [idx_nat, sumTo_get a c b i _ e1, e2, Option.bind_some, Mul_eq, wI_succ i (by omega), Int.toNat_natCast]
    rw [sumTo_set a c b i _ e1 _ e2]
  · rw [if_neg (by omega)]
    simp only [sumTo_end a c b _ (show b.length ≤ min a.length b.length ∨ a.length ≤ min a.length b.length by omega)]
theorem Scale_eq (c : UInt8) (b : List UInt8) (h : b.length ≤ most) : field_Scale true c b = some (b.map (mul c)) := by
  unfold field_Scale
  rw [if_neg (by simp), makeL_nat _ _ h]
  simp only [Option.bind_some]
  rw [Sum_eq _ _ _ (by simpa using h)]
  simp only [Option.bind_some, Option.some.injEq]
  apply List.ext_getElem?
  intro j
  simp only [sumL, List.getElem?_mapIdx, List.getElem?_map, List.getElem?_replicate]
  by_cases hj : j < b.length
  · simp [hj, zero_xor]
  · simp [hj, List.getElem?_eq_none (show b.length ≤ j by omega)]
theorem appL_nil {α : Type} (a : List α) (h : a.length ≤ most) : appL [] a = some a := by
  unfold appL; rw [if_pos (by simpa using h)]; simp
end Gk

/- Polynomials over GF(256), as lists of numbers, the lowest first. Plain. No condition. -/
set_option linter.unusedSimpArgs false
namespace Gf
def co (p : List UInt8) (i : Nat) : UInt8 := p.getD i 0
theorem co_ge {p : List UInt8} {i : Nat} (h : p.length ≤ i) : co p i = 0 := by simp [co, List.getD_eq_getElem?_getD, List.getElem?_eq_none h]
theorem co_lt {p : List UInt8} {i : Nat} (h : i < p.length) : co p i = p[i] := by simp [co, List.getD_eq_getElem?_getD, h]
theorem co_get {p : List UInt8} {i : Nat} (h : i < p.length) : p[i]? = some (co p i) := by rw [co_lt h]; simp [h]
theorem co_rep (n i : Nat) : co (List.replicate n 0) i = 0 := by
  simp only [co, List.getD_eq_getElem?_getD, List.getElem?_replicate]; split <;> rfl
theorem co_map (c : UInt8) (p : List UInt8) (i : Nat) : co (p.map (mul c)) i = mul c (co p i) := by
  simp only [co, List.getD_eq_getElem?_getD, List.getElem?_map]
  cases p[i]? <;> simp [mul_zero]
theorem co_set {p : List UInt8} {j : Nat} (h : j < p.length) (c : UInt8) (i : Nat) : co (p.set j c) i = if i = j then c else co p i := by
  simp only [co, List.getD_eq_getElem?_getD, List.getElem?_set]
  by_cases hij : j = i
  · subst hij; simp [h]
  · simp [hij, Ne.symm hij]
end Gf

/- Interpolation over GF(256): roots, Lagrange's and Newton's way. Plain. No condition. -/
set_option linter.unusedSimpArgs false
set_option linter.unusedVariables false
namespace Gf
def pe (xs : List UInt8) (i : Nat) (x : UInt8) : Nat → UInt8
  | 0 => 1
  | n + 1 => if n = i then pe xs i x n else mul (pe xs i x n) (x ^^^ co xs n)
def sm (f : Nat → UInt8) : Nat → UInt8
  | 0 => 0
  | n + 1 => sm f n ^^^ f n
theorem sm_one (f : Nat → UInt8) (j : Nat) : ∀ n, (∀ i, i < n → i ≠ j → f i = 0) → sm f n = if j < n then f j else 0
  | 0, _ => rfl
  | n + 1, h => by
    unfold sm
    rw [sm_one f j n (fun i hi => h i (by omega))]
    by_cases hj : j < n
    · rw [if_pos hj, if_pos (by omega), h n (by omega) (by omega), xor_zero]
    · rw [if_neg hj, zero_xor]
      by_cases hn : n = j
      · subst hn; rw [if_pos (by omega)]
      · rw [if_neg (by omega)]; exact h n (by omega) hn
theorem sm_congr {f g : Nat → UInt8} : ∀ n, (∀ i, i < n → f i = g i) → sm f n = sm g n
  | 0, _ => rfl
  | n + 1, h => by unfold sm; rw [sm_congr n (fun i hi => h i (by omega)), h n (by omega)]
end Gf

/- Small laws of lists, rows and numbers. No condition but lengths. -/
set_option linter.unusedSimpArgs false
set_option linter.unusedVariables false
namespace Gk
open Gf
theorem idx_co {p : List UInt8} {i : Nat} (h : i < p.length) : idx p (i : Int) = some (co p i) := by rw [idx_nat, co_get h]
theorem subL_nat {α : Type} (l : List α) (a b : Nat) (h1 : a ≤ b) (h2 : b ≤ l.length) : subL l (a : Int) (b : Int) = some ((l.take b).drop a) := by
  unfold subL; rw [if_pos ⟨by omega, by omega, by omega⟩]; simp
theorem wI_add (a b : Nat) (h : a + b < 9223372036854775808) : wI ((a : Int) + (b : Int)) = ((a + b : Nat) : Int) := by rw [wI_of (by omega) (by omega)]; omega
theorem h257 : (257 : Nat) ≤ most := by decide
theorem most_lt' : most < 9223372036854775000 := by decide
theorem eq_of_co {p q : List UInt8} (hl : p.length = q.length) (h : ∀ i, co p i = co q i) : p = q := by
  apply List.ext_getElem hl
  intro i h1 h2
  have := h i
  rwa [co_lt h1, co_lt h2] at this
theorem co_sumL (a : List UInt8) (c : UInt8) (b : List UInt8) (i : Nat) : co (sumL a c b) i = if i < a.length then co a i ^^^ mul c (co b i) else 0 := by
  simp only [co, sumL, List.getD_eq_getElem?_getD, List.getElem?_mapIdx]
  by_cases h : i < a.length
  · simp [h]
  · simp [h, List.getElem?_eq_none (show a.length ≤ i by omega)]
theorem co_tab (n : Nat) (f : Nat → UInt8) (i : Nat) : co ((List.range n).map f) i = if i < n then f i else 0 := by
  simp only [co, List.getD_eq_getElem?_getD, List.getElem?_map]
  by_cases h : i < n
  · simp [h]
  · rw [List.getElem?_eq_none (by simpa using h), if_neg h]; rfl
theorem getD_get {l : List (List UInt8)} {k : Nat} (h : k < l.length) : l[k]? = some (l.getD k []) := by simp [List.getD_eq_getElem?_getD, h]
theorem idx_getD {l : List (List UInt8)} {k : Nat} (h : k < l.length) : idx l (k : Int) = some (l.getD k []) := by rw [idx_nat, getD_get h]
theorem getD_set {l : List (List UInt8)} {j : Nat} (h : j < l.length) (r : List UInt8) (i : Nat) : (l.set j r).getD i [] = if i = j then r else l.getD i [] := by
  simp only [List.getD_eq_getElem?_getD, List.getElem?_set]
  by_cases hij : j = i
  · subst hij; simp [h]
  · simp [hij, Ne.symm hij]
theorem getD_rep {n i : Nat} (r : List UInt8) (h : i < n) : (List.replicate n r).getD i [] = r := by simp [List.getD_eq_getElem?_getD, h]
theorem getD_tab (n : Nat) (f : Nat → List UInt8) (i : Nat) (h : i < n) : ((List.range n).map f).getD i [] = f i := by simp [List.getD_eq_getElem?_getD, h]
theorem rows_ext {a b : List (List UInt8)} (hl : a.length = b.length) (h : ∀ i, i < a.length → a.getD i [] = b.getD i []) : a = b := by
  apply List.ext_getElem hl
  intro i h1 h2
  have := h i h1
  simpa [List.getD_eq_getElem?_getD, h1, h2] using this
theorem idx_0 {l : List (List UInt8)} (h : 0 < l.length) : idx l 0 = some (l.getD 0 []) := by
  have := idx_getD (l := l) (k := 0) h
  rwa [show ((0 : Nat) : Int) = 0 from rfl] at this
theorem appL_ok {α : Type} (a b : List α) (h : a.length + b.length ≤ most) (hb : b.length = 1) : appL a b = some (a ++ b) := by
  unfold appL; rw [if_pos (by omega)]
def updB (row : List UInt8) (f : Nat → UInt8) (k : Nat) : List UInt8 := (List.range row.length).map fun j => if j < k then f j else co row j
theorem updB_len (row : List UInt8) (f : Nat → UInt8) (k : Nat) : (updB row f k).length = row.length := by simp [updB]
theorem co_updB (row : List UInt8) (f : Nat → UInt8) (k i : Nat) (h : i < row.length) : co (updB row f k) i = if i < k then f i else co row i := by
  unfold updB; rw [co_tab, if_pos h]
theorem updB_zero (row : List UInt8) (f : Nat → UInt8) : updB row f 0 = row := eq_of_co (updB_len _ _ _) fun i => by
  by_cases h : i < row.length
  · rw [co_updB _ _ _ _ h, if_neg (by omega)]
  · rw [co_ge (by rw [updB_len]; omega), co_ge (by omega)]
theorem updB_succ (row : List UInt8) (f : Nat → UInt8) (k : Nat) (h : k < row.length) : (updB row f k).set k (f k) = updB row f (k + 1) := eq_of_co (by simp [updB_len]) fun i => by
  rw [co_set (by rw [updB_len]; omega)]
  by_cases hi : i < row.length
  · rw [co_updB _ _ _ _ hi, co_updB _ _ _ _ hi]
    by_cases hik : i = k
    · rw [if_pos hik, if_pos (by omega), hik]
    · rw [if_neg hik]
      by_cases h2 : i < k
      · rw [if_pos h2, if_pos (by omega)]
      · rw [if_neg h2, if_neg (by omega)]
  · rw [if_neg (by omega), co_ge (by rw [updB_len]; omega), co_ge (by rw [updB_len]; omega)]
theorem updB_end (row : List UInt8) (f : Nat → UInt8) : updB row f row.length = (List.range row.length).map f := by
  unfold updB; exact List.map_congr_left fun j hj => by rw [if_pos (List.mem_range.1 hj)]
theorem idx_updB (row : List UInt8) (f : Nat → UInt8) (k i : Nat) (h : i < row.length) : idx (updB row f k) (i : Int) = some (if i < k then f i else co row i) := by
  rw [idx_co (by rw [updB_len]; exact h), co_updB _ _ _ _ h]
def updR (l : List (List UInt8)) (F : Nat → List UInt8) (i : Nat) : List (List UInt8) := (List.range l.length).map fun j => if j < i then F j else l.getD j []
theorem updR_len (l : List (List UInt8)) (F : Nat → List UInt8) (i : Nat) : (updR l F i).length = l.length := by simp [updR]
theorem getD_updR (l : List (List UInt8)) (F : Nat → List UInt8) (i j : Nat) (h : j < l.length) : (updR l F i).getD j [] = if j < i then F j else l.getD j [] := by
  unfold updR; rw [getD_tab _ _ _ h]
theorem updR_zero (l : List (List UInt8)) (F : Nat → List UInt8) : updR l F 0 = l := rows_ext (updR_len _ _ _) fun i h => by
  rw [updR_len] at h
  rw [getD_updR _ _ _ _ h, if_neg (by omega)]
theorem updR_succ (l : List (List UInt8)) (F : Nat → List UInt8) (k : Nat) (h : k < l.length) : (updR l F k).set k (F k) = updR l F (k + 1) := rows_ext (by simp [updR_len]) fun i hi => by
  rw [List.length_set, updR_len] at hi
  rw [getD_set (by rw [updR_len]; omega), getD_updR _ _ _ _ hi, getD_updR _ _ _ _ hi]
  by_cases hik : i = k
  · rw [if_pos hik, if_pos (by omega), hik]
  · rw [if_neg hik]
    by_cases h2 : i < k
    · rw [if_pos h2, if_pos (by omega)]
    · rw [if_neg h2, if_neg (by omega)]
theorem updR_end (l : List (List UInt8)) (F : Nat → List UInt8) : updR l F l.length = (List.range l.length).map F := by
  unfold updR; exact List.map_congr_left fun j hj => by rw [if_pos (List.mem_range.1 hj)]
theorem set_getD (l : List (List UInt8)) (i : Nat) : l.set i (l.getD i []) = l := by
  by_cases h : i < l.length
  · refine rows_ext (by simp) fun j hj => ?_
    rw [getD_set h]
    by_cases e : j = i
    · rw [if_pos e, e]
    · rw [if_neg e]
  · exact List.set_eq_of_length_le (by omega)
theorem idx_set {l : List (List UInt8)} {i : Nat} (h : i < l.length) (r : List UInt8) : idx (l.set i r) (i : Int) = some r := by
  rw [idx_getD (by simpa using h), getD_set h, if_pos rfl]
theorem row_loop {body : List (List UInt8) × Int → Option ((List (List UInt8) × Int) ⊕ List (List UInt8))} (l : List (List UInt8)) (i c : Nat) (h : i < l.length) (hc : (l.getD i []).length = c) (f : Nat → UInt8)
    (hs : ∀ k, k < c → body (l.set i (updB (l.getD i []) f k), (k : Int)) = some (.inl (l.set i ((updB (l.getD i []) f k).set k (f k)), ((k + 1 : Nat) : Int))))
    (he : ∀ s, body (s, (c : Int)) = some (.inr s)) : iterC body (l, 0) = some (l.set i ((List.range c).map f)) := by
  refine iterC_count (fun k => (l.set i (updB (l.getD i []) f k), (k : Int))) c _ ?_ ?_ ?_
  · rw [updB_zero, set_getD]; rfl
  · intro k hk
    rw [hs k hk, updB_succ _ _ _ (by omega)]
  · rw [he, ← hc, updB_end]
theorem rows_loop {body : List (List UInt8) × Int → Option ((List (List UInt8) × Int) ⊕ List (List UInt8))} (l : List (List UInt8)) (n : Nat) (hn : l.length = n) (F : Nat → List UInt8)
    (hs : ∀ i, i < n → body (updR l F i, (i : Int)) = some (.inl ((updR l F i).set i (F i), ((i + 1 : Nat) : Int))))
    (he : ∀ s, body (s, (n : Int)) = some (.inr s)) : iterC body (l, 0) = some ((List.range n).map F) := by
  refine iterC_count (fun i => (updR l F i, (i : Int))) n _ ?_ ?_ ?_
  · rw [updR_zero]; rfl
  · intro k hk
    rw [hs k hk, updR_succ _ _ _ (by omega)]
  · rw [he, ← hn, updR_end]
end Gk

/- Chapter 4 in plain Lean: what makes matrices, and products. No condition but lengths. -/
set_option linter.unusedSimpArgs false
set_option linter.unusedVariables false
namespace Gk
open Gf
theorem size_eq (n : Int) : matrix_size n = some (decide (1 ≤ n ∧ n ≤ 64)) := by
  unfold matrix_size
  by_cases h : 1 ≤ n
  · rw [if_pos h]; simp [h]
  · rw [if_neg h]; simp [h]
theorem blank_eq (n c : Nat) (hn : n ≤ most) (hc : c ≤ most) : matrix_blank (n : Int) (c : Int) = some (List.replicate n (List.replicate c 0)) := by
  unfold matrix_blank
  have hm := most_lt'
  rw [makeL_nat _ _ hn, Option.bind_some]
  refine bind_of ?_ rfl
  obtain ⟨x, e1, e2⟩ := iterC_up (s0 := List.replicate n ([] : List UInt8)) (fun i s => s.length = n ∧ ∀ j, j < i → s.getD j [] = List.replicate c 0) n (fun x : List (List UInt8) => x = List.replicate n (List.replicate c 0))
    (body := fun s9 : List (List UInt8) × Int => (if s9.2 < ((List.replicate n ([] : List UInt8)).length : Int) then ((makeL (c : Int) (0 : UInt8)).bind fun c14 => ((idx s9.1 s9.2).bind fun c19 => some (.inl ((s9.1.set (s9.2 : Int).toNat c14), (wI (s9.2 + 1)))))) else some (.inr s9.1)))
    ⟨by simp, fun j hj => absurd hj (Nat.not_lt_zero _)⟩
    (fun i s hi hI => by
      obtain ⟨hl, hs⟩ := hI
      refine ⟨s.set i (List.replicate c 0), ?_, by simpa using hl, fun j hj => ?_⟩
      · simp only
        rw [if_pos (by rw [List.length_replicate]; omega), makeL_nat _ _ hc, Option.bind_some, idx_getD (by omega), Option.bind_some, wI_succ i (by omega), Int.toNat_natCast]
      · rw [getD_set (by omega)]
        by_cases hji : j = i
        · rw [if_pos hji]
        · rw [if_neg hji]; exact hs j (by omega))
    (fun s hI => ⟨s, by simp, rows_ext (by rw [hI.1]; simp) (fun j hj => by rw [hI.2 j (by omega), getD_rep _ (by omega)])⟩)
  rw [e1, e2]
def Rec (l : List (List UInt8)) (d : Nat) : Prop := ∀ i, i < l.length → (l.getD i []).length = d
theorem New_ok (l : List (List UInt8)) (d : Nat) (h0 : 0 < l.length) (h1 : l.length ≤ 64) (d0 : 0 < d) (d1 : d ≤ 64) (hr : Rec l d) : matrix_New l = some (some l, 0) := by
  unfold matrix_New
  have hm := h257
  have hd := hr 0 h0
  rw [size_eq, Option.bind_some, if_neg (by simp; omega), idx_0 h0, Option.bind_some, hd, size_eq, Option.bind_some, if_neg (by simp; omega), Option.bind_some, hd, blank_eq _ _ (by omega) (by omega), Option.bind_some]
  obtain ⟨x, e1, e2⟩ := iterC_up (s0 := List.replicate l.length (List.replicate d (0 : UInt8))) (fun i s => s.length = l.length ∧ ∀ j, j < l.length → s.getD j [] = if j < i then l.getD j [] else List.replicate d 0) l.length (fun x : List (List UInt8) ⊕ (Option (List (List UInt8)) × Int) => x = .inl l)
    (body := fun s15 : List (List UInt8) × Int => (if s15.2 < (l.length : Int) then ((idx l s15.2).bind fun c18 => ((some (l.getD 0 [])).bind fun c20 => (if (c18.length : Int) = (c20.length : Int) then ((idx s15.1 s15.2).bind fun c23 => some (.inl ((s15.1.set (s15.2 : Int).toNat (copyL c23 0 c18)), (wI (s15.2 + 1))))) else some (.inr (.inr ((none : Option (List (List UInt8))), 1)))))) else some (.inr (.inl s15.1))))
    ⟨by simp, fun j hj => by rw [getD_rep _ hj, if_neg (by omega)]⟩
    (fun i s hi hI => by
      obtain ⟨hl, hs⟩ := hI
      refine ⟨s.set i (l.getD i []), ?_, by simpa using hl, fun j hj => ?_⟩
      · simp only
        rw [if_pos (by omega), idx_getD hi, Option.bind_some, Option.bind_some, hd, hr i hi, if_pos rfl, idx_getD (by omega), Option.bind_some, hs i hi, if_neg (by omega), wI_succ i (by omega), Int.toNat_natCast]
        rw [show copyL (List.replicate d (0 : UInt8)) 0 (l.getD i []) = l.getD i [] from by
          have := copyL_all (0 : UInt8) (l.getD i [])
          rwa [hr i hi] at this]
      · rw [getD_set (by omega)]
        by_cases hji : j = i
        · rw [if_pos hji, if_pos (by omega), hji]
        · rw [if_neg hji, hs j hj]
          by_cases h2 : j < i
          · rw [if_pos h2, if_pos (by omega)]
          · rw [if_neg h2, if_neg (by omega)])
    (fun s hI => ⟨_, by simp, congrArg Sum.inl (rows_ext hI.1 (fun j hj => by rw [hI.2 j (by omega), if_pos (by omega)]))⟩)
  rw [e1, Option.bind_some, e2, Sum.elim_inl]
theorem Size_some (l : List (List UInt8)) (h0 : 0 < l.length) : matrix_Size (some l) = some ((l.length : Int), ((l.getD 0 []).length : Int)) := by
  unfold matrix_Size
  rw [if_neg (by simp), Option.bind_some, idx_0 h0, Option.bind_some]
theorem Row_ok (l : List (List UInt8)) (i : Nat) (h : i < l.length) (hm : (l.getD i []).length ≤ most) : matrix_Row (some l) (i : Int) = some (l.getD i []) := by
  unfold matrix_Row slices_Clone_sbytebyte
  rw [if_neg (by simp), if_neg (by omega), Option.bind_some, if_neg (by omega), idx_getD h, Option.bind_some, appL_nil _ hm, Option.bind_some]
def vdm (xs : List UInt8) (c : Nat) : List (List UInt8) := (List.range xs.length).map fun i => (List.range c).map fun (k : Nat) => powZ (co xs i) (k : Int)
theorem Vandermonde_ok (xs : List UInt8) (c : Nat) (h0 : 0 < xs.length) (h1 : xs.length ≤ 64) (c0 : 0 < c) (c1 : c ≤ 64) : matrix_Vandermonde true xs (c : Int) = some (some (vdm xs c), 0) := by
  unfold matrix_Vandermonde
  have hmo := h257
  rw [if_neg (by decide), size_eq, Option.bind_some, if_neg (by simp; omega), size_eq, Option.bind_some, if_neg (by simp; omega), blank_eq _ _ (by omega) (by omega), Option.bind_some]
  refine bind_of (x := vdm xs c) ?_ rfl
  refine rows_loop _ xs.length (by simp) _ (fun i hi => ?_) (fun s => by simp)
  simp only
  have hU := updR_len (List.replicate xs.length (List.replicate c (0 : UInt8))) (fun i => (List.range c).map fun (k : Nat) => powZ (co xs i) (k : Int)) i
  have hG := getD_updR (List.replicate xs.length (List.replicate c (0 : UInt8))) (fun i => (List.range c).map fun (k : Nat) => powZ (co xs i) (k : Int)) i i (by simpa using hi)
  rw [if_neg (by omega), getD_rep _ hi] at hG
  rw [List.length_replicate] at hU
  generalize updR (List.replicate xs.length (List.replicate c (0 : UInt8))) (fun i => (List.range c).map fun (k : Nat) => powZ (co xs i) (k : Int)) i = s at hU hG ⊢
  rw [if_pos (by omega), idx_co hi, Option.bind_some]
  refine bind_of (row_loop s i c (by omega) (by rw [hG]; simp) (fun (k : Nat) => powZ (co xs i) (k : Int)) (fun k hk => ?_) (fun s => by simp)) (by rw [wI_succ i (by omega)])
  simp only
  rw [if_pos (by omega), idx_set (by omega), Option.bind_some, Pow_eq, Option.bind_some, idx_updB _ _ _ _ (by rw [hG]; simpa using hk), Option.bind_some, wI_succ k (by omega), Int.toNat_natCast, Int.toNat_natCast, List.set_set]
theorem lives4 : law04_lives = some true := by
  unfold law04_lives
  rw [field_New, Option.bind_some]
  have e := Vandermonde_ok [1, 2] 2 (by decide) (by decide) (by decide) (by decide)
  rw [show ((2 : Nat) : Int) = 2 from rfl] at e
  have hv : vdm [1, 2] 2 = [[1, 1], [1, 2]] := by decide +kernel
  rw [e, Option.bind_some, if_pos rfl, hv]
  have e2 := Row_ok [[1, 1], [1, 2]] 1 (by decide) (by decide)
  rw [show ((1 : Nat) : Int) = 1 from rfl] at e2
  rw [e2]
  decide +kernel
end Gk

/- Chapter 4: products of matrices, in plain Lean. No condition but lengths. -/
set_option linter.unusedSimpArgs false
set_option linter.unusedVariables false
namespace Gk
open Gf
def dot (r v : List UInt8) (d : Nat) : UInt8 := sm (fun k => mul (co r k) (co v k)) d
def tm (m : List (List UInt8)) (v : List UInt8) (d : Nat) : List UInt8 := (List.range m.length).map fun i => dot (m.getD i []) v d
def mm (m o : List (List UInt8)) (d c : Nat) : List (List UInt8) := (List.range m.length).map fun i => (List.range c).map fun j => sm (fun k => mul (co (m.getD i []) k) (co (o.getD k []) j)) d
theorem tm_len (m : List (List UInt8)) (v : List UInt8) (d : Nat) : (tm m v d).length = m.length := by simp [tm]
theorem mm_len (m o : List (List UInt8)) (d c : Nat) : (mm m o d c).length = m.length := by simp [mm]
theorem co_tm (m : List (List UInt8)) (v : List UInt8) (d i : Nat) (h : i < m.length) : co (tm m v d) i = dot (m.getD i []) v d := by unfold tm; rw [co_tab, if_pos h]
theorem getD_mm (m o : List (List UInt8)) (d c i : Nat) (h : i < m.length) : (mm m o d c).getD i [] = (List.range c).map fun j => sm (fun k => mul (co (m.getD i []) k) (co (o.getD k []) j)) d := by unfold mm; rw [getD_tab _ _ _ h]
theorem mm_rec (m o : List (List UInt8)) (d c : Nat) : Rec (mm m o d c) c := fun i hi => by
  rw [mm_len] at hi
  rw [getD_mm _ _ _ _ _ hi]; simp
theorem num_loop {body : List UInt8 × Int → Option ((List UInt8 × Int) ⊕ List UInt8)} (l : List UInt8) (n : Nat) (hn : l.length = n) (f : Nat → UInt8)
    (hs : ∀ k, k < n → body (updB l f k, (k : Int)) = some (.inl ((updB l f k).set k (f k), ((k + 1 : Nat) : Int))))
    (he : ∀ s, body (s, (n : Int)) = some (.inr s)) : iterC body (l, 0) = some ((List.range n).map f) := by
  refine iterC_count (fun k => (updB l f k, (k : Int))) n _ ?_ ?_ ?_
  · rw [updB_zero]; rfl
  · intro k hk
    rw [hs k hk, updB_succ _ _ _ (by omega)]
  · rw [he, ← hn, updB_end]
theorem Times_ok (m : List (List UInt8)) (v : List UInt8) (d : Nat) (h0 : 0 < m.length) (h1 : m.length ≤ most) (hr : Rec m d) (hv : v.length = d) (hd : d ≤ most) : matrix_Times (some m) true v = some (tm m v d, 0) := by
  unfold matrix_Times
  have hmo := most_lt'
  rw [Size_some m h0, Option.bind_some, if_neg (by decide), if_neg (by simp), if_pos (by rw [hr 0 h0, hv]), Option.bind_some, makeL_nat _ _ h1, Option.bind_some]
  refine bind_of (num_loop _ m.length (by simp) (fun i => dot (m.getD i []) v d) (fun i hi => ?_) (fun s => by simp)) rfl
  simp only
  have hU := updB_len (List.replicate m.length (0 : UInt8)) (fun i => dot (m.getD i []) v d) i
  have hG := co_updB (List.replicate m.length (0 : UInt8)) (fun i => dot (m.getD i []) v d) i i (by simpa using hi)
  rw [if_neg (by omega), co_rep] at hG
  rw [List.length_replicate] at hU
  generalize updB (List.replicate m.length (0 : UInt8)) (fun i => dot (m.getD i []) v d) i = s at hU hG ⊢
  rw [if_pos (by omega), idx_getD hi, Option.bind_some]
  refine bind_of (iterC_count (fun k => (s.set i (dot (m.getD i []) v k), (k : Int))) d (s.set i (dot (m.getD i []) v d)) ?_ ?_ ?_) (by rw [wI_succ i (by omega)])
  · congr 1
    refine eq_of_co (by simp) fun j => ?_
    rw [co_set (by omega)]
    by_cases e : j = i
    · rw [if_pos e, e, hG]; rfl
    · rw [if_neg e]
  · intro k hk
    have hrk := hr i hi
    simp only
    rw [if_pos (by omega), idx_co (by omega), Option.bind_some, idx_co (by simpa [hU] using hi), Option.bind_some, idx_co (by omega), Option.bind_some, Mul_eq, Option.bind_some, wI_succ k (by omega), Int.toNat_natCast, co_set (by omega), if_pos rfl, List.set_set]
    rfl
  · have hrk := hr i hi
    simp only
    rw [if_neg (by omega)]
theorem Mul_ok (m o : List (List UInt8)) (d c : Nat) (h0 : 0 < m.length) (h1 : m.length ≤ most) (hr : Rec m d) (d0 : 0 < d) (hd : d ≤ most) (ho : o.length = d) (hc : Rec o c) (hcm : c ≤ most) : matrix_Mul (some m) true (some o) = some (some (mm m o d c), 0) := by
  unfold matrix_Mul
  have hmo := most_lt'
  have hc0 := hc 0 (by omega)
  rw [Size_some m h0, Option.bind_some, Size_some o (by omega), Option.bind_some, if_neg (by decide), if_neg (by simp), if_neg (by simp), if_pos (by rw [hr 0 h0, ho]), Option.bind_some, hc0, blank_eq _ _ h1 hcm, Option.bind_some]
  refine bind_of (rows_loop _ m.length (by simp) (fun i => (List.range c).map fun j => sm (fun k => mul (co (m.getD i []) k) (co (o.getD k []) j)) d) (fun i hi => ?_) (fun s => by simp)) rfl
  simp only
  have hU := updR_len (List.replicate m.length (List.replicate c (0 : UInt8))) (fun i => (List.range c).map fun j => sm (fun k => mul (co (m.getD i []) k) (co (o.getD k []) j)) d) i
  have hG := getD_updR (List.replicate m.length (List.replicate c (0 : UInt8))) (fun i => (List.range c).map fun j => sm (fun k => mul (co (m.getD i []) k) (co (o.getD k []) j)) d) i i (by simpa using hi)
  rw [if_neg (by omega), getD_rep _ hi] at hG
  rw [List.length_replicate] at hU
  generalize updR (List.replicate m.length (List.replicate c (0 : UInt8))) (fun i => (List.range c).map fun j => sm (fun k => mul (co (m.getD i []) k) (co (o.getD k []) j)) d) i = s at hU hG ⊢
  rw [if_pos (by omega), idx_getD hi, Option.bind_some]
  refine bind_of (iterC_count (fun k => (s.set i ((List.range c).map fun j => sm (fun k => mul (co (m.getD i []) k) (co (o.getD k []) j)) k), (k : Int))) d (s.set i ((List.range c).map fun j => sm (fun k => mul (co (m.getD i []) k) (co (o.getD k []) j)) d)) ?_ ?_ ?_) (by rw [wI_succ i (by omega)])
  · congr 1
    have : (List.range c).map (fun j => sm (fun k => mul (co (m.getD i []) k) (co (o.getD k []) j)) 0) = s.getD i [] := by
      rw [hG]
      refine eq_of_co (by simp) fun j => ?_
      rw [co_tab, co_rep]
      split <;> rfl
    rw [this, set_getD]
  · intro k hk
    have hrk := hr i hi
    have hck := hc k (by omega)
    simp only
    rw [if_pos (by omega), idx_co (by omega), Option.bind_some, idx_set (by omega), Option.bind_some, Option.bind_some, idx_getD (by omega), Option.bind_some, Sum_eq _ _ _ (by simpa using hcm), Option.bind_some, wI_succ k (by omega), Int.toNat_natCast, List.set_set]
    have : sumL ((List.range c).map fun j => sm (fun k => mul (co (m.getD i []) k) (co (o.getD k []) j)) k) (co (m.getD i []) k) (o.getD k []) = (List.range c).map fun j => sm (fun k => mul (co (m.getD i []) k) (co (o.getD k []) j)) (k + 1) := by
      refine eq_of_co (by simp [sumL_len]) fun j => ?_
      rw [co_sumL, co_tab, co_tab, List.length_map, List.length_range]
      by_cases hj : j < c
      · rw [if_pos hj, if_pos hj, if_pos hj]; rfl
      · rw [if_neg hj, if_neg hj]
    rw [this]
  · have hrk := hr i hi
    simp only
    rw [if_neg (by omega)]
def sqr (b : List UInt8) (n c : Nat) : List (List UInt8) := (List.range n).map fun i => (List.range c).map fun k => co b (i * c + k)
theorem sqr_len (b : List UInt8) (n c : Nat) : (sqr b n c).length = n := by simp [sqr]
theorem sqr_rec (b : List UInt8) (n c : Nat) : Rec (sqr b n c) c := fun i hi => by
  rw [sqr_len] at hi
  unfold sqr; rw [getD_tab _ _ _ hi]; simp
theorem wI_mul (a b : Nat) (h : a * b < 9223372036854775808) : wI ((a : Int) * (b : Int)) = ((a * b : Nat) : Int) := by
  rw [← Int.natCast_mul]; exact wI_nat h
theorem square_eq (b : List UInt8) (n c : Nat) (hn : n ≤ 100) (hc : c ≤ 100) : law04_square b (n : Int) (c : Int) = some (sqr b n c) := by
  unfold law04_square
  have h2 := h257
  rw [makeL_nat _ _ (by omega), Option.bind_some]
  refine bind_of (rows_loop (body := fun s5 : List (List UInt8) × Int => (if s5.2 < ((List.replicate n ([] : List UInt8)).length : Int) then ((makeL (c : Int) (0 : UInt8)).bind fun c8 => ((idx s5.1 s5.2).bind fun c12 => ((idx ((s5.1.set (s5.2 : Int).toNat c8)) s5.2).bind fun c17 => ((iterC (fun s19 : List (List UInt8) × Int => (if s19.2 < (c17.length : Int) then (if (wI ((wI (s5.2 * (c : Int))) + s19.2)) < (b.length : Int) then ((idx s19.1 s5.2).bind fun c25 => ((idx b ((wI ((wI (s5.2 * (c : Int))) + s19.2)))).bind fun c27 => ((idx c25 s19.2).bind fun c28 => some (.inl ((s19.1.set (s5.2 : Int).toNat (c25.set (s19.2 : Int).toNat c27)), (wI (s19.2 + 1))))))) else some (.inl (s19.1, (wI (s19.2 + 1))))) else some (.inr s19.1))) ((s5.1.set (s5.2 : Int).toNat c8), 0)).bind fun x19 => some (.inl (x19, (wI (s5.2 + 1)))))))) else some (.inr s5.1))) (List.replicate n ([] : List UInt8)) n (by simp) (fun i => (List.range c).map fun k => co b (i * c + k)) (fun i hi => ?_) (fun s => by simp)) rfl
  simp only
  have hU := updR_len (List.replicate n ([] : List UInt8)) (fun i => (List.range c).map fun k => co b (i * c + k)) i
  rw [List.length_replicate] at hU
  generalize updR (List.replicate n ([] : List UInt8)) (fun i => (List.range c).map fun k => co b (i * c + k)) i = s at hU ⊢
  have hU2 : i < (s.set i (List.replicate c (0 : UInt8))).length := by rw [List.length_set]; omega
  rw [if_pos (by rw [List.length_replicate]; omega), makeL_nat _ _ (by omega), Option.bind_some, idx_getD (by omega), Option.bind_some, Int.toNat_natCast, idx_set (by omega), Option.bind_some]
  have hic : i * c ≤ 10000 := by
    have := Nat.mul_le_mul (show i ≤ 100 by omega) hc; omega
  have hgi : (s.set i (List.replicate c (0 : UInt8))).getD i [] = List.replicate c 0 := by rw [getD_set (by omega), if_pos rfl]
  have hlc : (List.replicate c (0 : UInt8)).length = c := List.length_replicate ..
  refine bind_of (row_loop _ i c hU2 (by rw [hgi]; simp) (fun k => co b (i * c + k)) (fun k hk => ?_) (fun s => by simp)) (by rw [wI_succ i (by omega), List.set_set])
  simp only
  rw [if_pos (by rw [hlc]; omega), wI_mul i c (by omega), wI_add (i * c) k (by omega), hgi, wI_succ k (by omega)]
  by_cases hb : i * c + k < b.length
  · rw [if_pos (by omega), idx_set hU2, Option.bind_some, idx_co hb, Option.bind_some, idx_updB _ _ _ _ (by rw [hlc]; omega), Option.bind_some, Int.toNat_natCast, List.set_set]
  · rw [if_neg (by omega)]
    have : (updB (List.replicate c (0 : UInt8)) (fun k => co b (i * c + k)) k).set k (co b (i * c + k)) = updB (List.replicate c (0 : UInt8)) (fun k => co b (i * c + k)) k := by
      refine eq_of_co (by simp) fun j => ?_
      rw [co_set (by rw [updB_len, hlc]; exact hk)]
      by_cases e : j = k
      · rw [if_pos e, e, co_updB _ _ _ _ (by rw [hlc]; exact hk), if_neg (by omega), co_rep, co_ge (by omega)]
      · rw [if_neg e]
    rw [this]
theorem side8 (n : Int) : ∃ k : Nat, 1 ≤ k ∧ k ≤ 8 ∧ wI (1 + wI (((UInt64.ofInt n % (8 : UInt64)).toNat : Nat) : Int)) = (k : Int) := by
  have h : (UInt64.ofInt n % (8 : UInt64)).toNat < 8 := by
    rw [UInt64.toNat_mod]; exact Nat.mod_lt _ (by decide)
  refine ⟨1 + (UInt64.ofInt n % (8 : UInt64)).toNat, by omega, by omega, ?_⟩
  generalize (UInt64.ofInt n % (8 : UInt64)).toNat = j at h ⊢
  rw [wI_nat (by omega), wI_of (by omega) (by omega)]; omega
end Gk

/- Linear algebra over GF(256): rows are reduced. Plain Lean. -/
set_option linter.unusedSimpArgs false
set_option linter.unusedVariables false
namespace Gk
open Gf
theorem la_add (f g : Nat → UInt8) : ∀ n, sm (fun i => f i ^^^ g i) n = sm f n ^^^ sm g n
  | 0 => (xor_self 0).symm
  | n + 1 => by unfold sm; rw [la_add f g n, xor_xor_swap]
theorem la_mul (c : UInt8) (f : Nat → UInt8) : ∀ n, sm (fun i => mul c (f i)) n = mul c (sm f n)
  | 0 => (mul_zero c).symm
  | n + 1 => by unfold sm; rw [la_mul c f n, mul_add]
theorem la_zero {f : Nat → UInt8} : ∀ n, (∀ i, i < n → f i = 0) → sm f n = 0
  | 0, _ => rfl
  | n + 1, h => by unfold sm; rw [la_zero n (fun i hi => h i (by omega)), h n (by omega)]; rfl
theorem la_swap (f : Nat → Nat → UInt8) (a : Nat) : ∀ b, sm (fun i => sm (fun j => f i j) b) a = sm (fun j => sm (fun i => f i j) a) b
  | 0 => la_zero a (fun _ _ => rfl)
  | b + 1 => by
    show sm (fun i => sm (fun j => f i j) b ^^^ f i b) a = sm (fun j => sm (fun i => f i j) a) b ^^^ sm (fun i => f i b) a
    rw [la_add, la_swap f a b]
def ld (r : List UInt8) (v : Nat → UInt8) (d : Nat) : UInt8 := sm (fun k => mul (co r k) (v k)) d
theorem ld_lin (r : List UInt8) (a : List UInt8) (x : UInt8) (b : List UInt8) (v : Nat → UInt8) (d : Nat) (h : ∀ i, i < d → co r i = co a i ^^^ mul x (co b i)) : ld r v d = ld a v d ^^^ mul x (ld b v d) := by
  unfold ld
  rw [← la_mul, ← la_add]
  exact sm_congr _ fun i hi => by rw [h i hi, add_mul, mul_assoc]
theorem ld_scl (r : List UInt8) (x : UInt8) (b : List UInt8) (v : Nat → UInt8) (d : Nat) (h : ∀ i, i < d → co r i = mul x (co b i)) : ld r v d = mul x (ld b v d) := by
  unfold ld
  rw [← la_mul]
  exact sm_congr _ fun i hi => by rw [h i hi, mul_assoc]
theorem ld_zero (r : List UInt8) (v : Nat → UInt8) (d : Nat) (h : ∀ i, i < d → co r i = 0) : ld r v d = 0 :=
  la_zero _ fun i hi => by rw [h i hi, zero_mul]
def Ker (l : List (List UInt8)) (d : Nat) (v : Nat → UInt8) : Prop := ∀ i, i < l.length → ld (l.getD i []) v d = 0
structure Red (l0 l : List (List UInt8)) (d : Nat) (ln : List Nat) (c : Nat) : Prop where
  len : l.length = l0.length
  rc : ∀ i, i < l.length → (l.getD i []).length = d
  ker : ∀ v, Ker l d v ↔ Ker l0 d v
  le : ln.length ≤ l.length
  cd : c ≤ d
  lt : ∀ i, i < ln.length → ln.getD i 0 < c
  one : ∀ i, i < ln.length → ∀ k, k < l.length → co (l.getD k []) (ln.getD i 0) = if k = i then 1 else 0
  low : ∀ k, ln.length ≤ k → k < l.length → ∀ j, j < c → co (l.getD k []) j = 0
  alt : ln = List.range c ∨ (ln.length < c ∧ ∃ v : Nat → UInt8, Ker l0 d v ∧ (∃ k, k < c ∧ v k ≠ 0) ∧ ∀ k, c ≤ k → v k = 0)
theorem Red.start (l : List (List UInt8)) (d : Nat) (hr : ∀ i, i < l.length → (l.getD i []).length = d) : Red l l d [] 0 :=
  { len := rfl, rc := hr, ker := fun _ => Iff.rfl, le := Nat.zero_le _, cd := Nat.zero_le _, lt := fun i h => absurd h (by simp), one := fun i h => absurd h (by simp), low := fun k _ _ j h => absurd h (by omega), alt := .inl rfl }
theorem getD_app0 (l : List Nat) (c i : Nat) (h : i < l.length) : (l ++ [c]).getD i 0 = l.getD i 0 := by simp [List.getD_eq_getElem?_getD, List.getElem?_append_left h]
theorem getD_app1 (l : List Nat) (c : Nat) : (l ++ [c]).getD l.length 0 = c := by simp [List.getD_eq_getElem?_getD]
theorem getD_rng (c i : Nat) (h : i < c) : (List.range c).getD i 0 = i := by simp [List.getD_eq_getElem?_getD, h]
theorem Red.skip {l0 l : List (List UInt8)} {d : Nat} {ln : List Nat} {c : Nat} (h : Red l0 l d ln c) (hc : c < d) (hz : ∀ k, ln.length ≤ k → k < l.length → co (l.getD k []) c = 0) : Red l0 l d ln (c + 1) :=
  { len := h.len, rc := h.rc, ker := h.ker, le := h.le, cd := hc, lt := fun i hi => Nat.lt_succ_of_lt (h.lt i hi), one := h.one
    low := fun k h1 h2 j hj => by
      rcases Nat.lt_succ_iff_lt_or_eq.1 hj with h3 | h3
      · exact h.low k h1 h2 j h3
      · rw [h3]; exact hz k h1 h2
    alt := by
      rcases h.alt with ha | ⟨ha, v, hv, ⟨k, hk, hk'⟩, hvz⟩
      · right
        have hlen : ln.length = c := by rw [ha]; simp
        refine ⟨by omega, fun i => if i < c then co (l.getD i []) c else if i = c then 1 else 0, (h.ker _).1 ?_, ⟨c, by omega, by simp⟩, fun k hk => by simp only; rw [if_neg (by omega), if_neg (by omega)]⟩
        intro i hi
        have hone : ∀ j, j < c → co (l.getD i []) j = if i = j then 1 else 0 := fun j hj => by
          have := h.one j (by omega) i hi
          rwa [ha, getD_rng c j hj] at this
        unfold ld
        -- the sum: up to c, at c, beyond
        have hs : ∀ n, n ≤ c → sm (fun k => mul (co (l.getD i []) k) (if k < c then co (l.getD k []) c else if k = c then 1 else 0)) n = if i < n then co (l.getD i []) c else 0 := by
          intro n hn
          rw [sm_one _ i n (fun k hk hki => by rw [hone k (by omega), if_neg (Ne.symm hki), zero_mul])]
          by_cases e : i < n
          · rw [if_pos e, if_pos e, hone i (by omega), if_pos rfl, if_pos (by omega), one_mul]
          · rw [if_neg e, if_neg e]
        have hs2 : ∀ m, sm (fun k => mul (co (l.getD i []) k) (if k < c then co (l.getD k []) c else if k = c then 1 else 0)) (c + 1 + m) = 0 := by
          intro m
          induction m with
          | zero =>
            show sm _ c ^^^ _ = 0
            rw [hs c (Nat.le_refl _)]; simp only; rw [if_neg (Nat.lt_irrefl c), if_pos trivial, mul_one]
            by_cases e : i < c
            · rw [if_pos e, xor_self]
            · rw [if_neg e, zero_xor, hz i (by omega) hi]
          | succ m ih =>
            show sm _ (c + 1 + m) ^^^ mul (co (l.getD i []) (c + 1 + m)) (if c + 1 + m < c then co (l.getD (c + 1 + m) []) c else if c + 1 + m = c then 1 else 0) = 0
            rw [ih, if_neg (by omega), if_neg (by omega), mul_zero, xor_zero]
        have := hs2 (d - (c + 1))
        rwa [show c + 1 + (d - (c + 1)) = d by omega] at this
      · exact .inr ⟨by omega, v, hv, ⟨k, by omega, hk'⟩, fun k hk => hvz k (by omega)⟩ }
theorem Red.lead {l0 l : List (List UInt8)} {d : Nat} {ln : List Nat} {c : Nat} (h : Red l0 l d ln c) (hc : c < d) (j : Nat) (hj : ln.length ≤ j) (hjl : j < l.length) (hx : co (l.getD j []) c ≠ 0)
    (l' : List (List UInt8)) (hl' : l'.length = l.length) (hr' : ∀ i, i < l'.length → (l'.getD i []).length = d)
    (ha : ∀ i, i < d → co (l'.getD ln.length []) i = mul (inv (co (l.getD j []) c)) (co (l.getD j []) i))
    (hk : ∀ k, k < l.length → k ≠ ln.length → ∀ i, i < d → co (l'.getD k []) i = co (l.getD (if k = j then ln.length else k) []) i ^^^ mul (co (l.getD (if k = j then ln.length else k) []) c) (co (l'.getD ln.length []) i)) :
    Red l0 l' d (ln ++ [c]) (c + 1) := by
  have hal : ln.length < l.length := by omega
  have hp0 : ∀ i, i < c → co (l'.getD ln.length []) i = 0 := fun i hi => by rw [ha i (by omega), h.low j hj hjl i hi, mul_zero]
  have hpc : co (l'.getD ln.length []) c = 1 := by rw [ha c hc, inv_mul hx]
  have hkc : ∀ k, k < l.length → k ≠ ln.length → co (l'.getD k []) c = 0 := fun k h1 h2 => by rw [hk k h1 h2 c hc, hpc, mul_one, xor_self]
  have hlow : ∀ k, k < l.length → k ≠ ln.length → ∀ i, i < c → co (l'.getD k []) i = co (l.getD (if k = j then ln.length else k) []) i := fun k h1 h2 i hi => by
    rw [hk k h1 h2 i (by omega), hp0 i hi, mul_zero, xor_zero]
  refine { len := hl'.trans h.len, rc := hr', ker := ?_, le := by simp; omega, cd := hc, lt := ?_, one := ?_, low := ?_, alt := ?_ }
  · intro v
    rw [← h.ker v]
    have hda : ld (l'.getD ln.length []) v d = mul (inv (co (l.getD j []) c)) (ld (l.getD j []) v d) := ld_scl _ _ _ v d ha
    have hdk : ∀ k, k < l.length → k ≠ ln.length → ld (l'.getD k []) v d = ld (l.getD (if k = j then ln.length else k) []) v d ^^^ mul (co (l.getD (if k = j then ln.length else k) []) c) (ld (l'.getD ln.length []) v d) := fun k h1 h2 => ld_lin _ _ _ _ v d (hk k h1 h2)
    constructor
    · intro hv m hm
      have h0 := hv ln.length (by omega)
      by_cases hmj : m = j
      · rw [hmj]
        rw [hda] at h0
        rcases mul_eq_zero h0 with e | e
        · exact absurd e (inv_ne hx)
        · exact e
      · by_cases hma : m = ln.length
        · have hja : j ≠ ln.length := fun e => hmj (hma.trans e.symm)
          have := hv j (by omega)
          rw [hdk j hjl hja, if_pos rfl, h0, mul_zero, xor_zero] at this
          rw [hma]; exact this
        · have := hv m (by omega)
          rw [hdk m hm hma, if_neg hmj, h0, mul_zero, xor_zero] at this
          exact this
    · intro hv m hm
      have h0 : ld (l'.getD ln.length []) v d = 0 := by rw [hda, hv j hjl, mul_zero]
      by_cases hma : m = ln.length
      · rw [hma]; exact h0
      · rw [hdk m (by omega) hma, h0, mul_zero, xor_zero]
        by_cases hmj : m = j
        · rw [if_pos hmj]; exact hv _ hal
        · rw [if_neg hmj]; exact hv m (by omega)
  · intro i hi
    rw [List.length_append] at hi
    by_cases e : i < ln.length
    · rw [getD_app0 _ _ _ e]; exact Nat.lt_succ_of_lt (h.lt i e)
    · have : i = ln.length := by simp at hi; omega
      rw [this, getD_app1]; omega
  · intro i hi k hkl
    rw [hl'] at hkl
    rw [List.length_append] at hi
    by_cases e : i < ln.length
    · rw [getD_app0 _ _ _ e]
      have hp := h.lt i e
      by_cases hka : k = ln.length
      · rw [hka, hp0 _ hp, if_neg (by omega)]
      · rw [hlow k hkl hka _ hp]
        by_cases hkj : k = j
        · rw [if_pos hkj, h.low _ (Nat.le_refl _) hal _ hp, if_neg (by omega)]
        · rw [if_neg hkj]; exact h.one i e k hkl
    · have hia : i = ln.length := by simp at hi; omega
      rw [hia, getD_app1]
      by_cases hka : k = ln.length
      · rw [hka, hpc, if_pos rfl]
      · rw [hkc k hkl hka, if_neg hka]
  · intro k h1 h2 i hi
    rw [hl'] at h2
    rw [List.length_append] at h1
    have hka : k ≠ ln.length := by simp at h1; omega
    rcases Nat.lt_succ_iff_lt_or_eq.1 hi with h3 | h3
    · rw [hlow k h2 hka i h3]
      by_cases hkj : k = j
      · rw [if_pos hkj, h.low _ (Nat.le_refl _) hal _ h3]
      · rw [if_neg hkj]; exact h.low k (by simp at h1; omega) h2 i h3
    · rw [h3]; exact hkc k h2 hka
  · rcases h.alt with e | ⟨e, v, hv, ⟨k, hk1, hk2⟩, hvz⟩
    · left; rw [e, List.range_succ]
    · exact .inr ⟨by simp; omega, v, hv, ⟨k, by omega, hk2⟩, fun k hk => hvz k (by omega)⟩
theorem Red.full {l0 l : List (List UInt8)} {d : Nat} {ln : List Nat} {c : Nat} (h : Red l0 l d ln c) (hf : ln.length = l.length) : ∀ k, c + k ≤ d → Red l0 l d ln (c + k)
  | 0, _ => h
  | k + 1, hk => (h.full hf k (by omega)).skip (by omega) (fun i h1 h2 => by omega)
theorem Red.exist (l : List (List UInt8)) (d : Nat) (hr : ∀ i, i < l.length → (l.getD i []).length = d) : ∀ c, c ≤ d → ∃ l' ln, Red l l' d ln c
  | 0, _ => ⟨l, [], Red.start l d hr⟩
  | c + 1, hc => by
    obtain ⟨l1, ln, h⟩ := Red.exist l d hr c (by omega)
    by_cases hz : ∀ k, ln.length ≤ k → k < l1.length → co (l1.getD k []) c = 0
    · exact ⟨l1, ln, h.skip (by omega) hz⟩
    · have : ∃ j, ln.length ≤ j ∧ j < l1.length ∧ co (l1.getD j []) c ≠ 0 := Classical.byContradiction fun hn => hz fun k h1 h2 => Classical.byContradiction fun h3 => hn ⟨k, h1, h2, h3⟩
      obtain ⟨j, h1, h2, h3⟩ := this
      let piv : List UInt8 := (List.range d).map fun i => mul (inv (co (l1.getD j []) c)) (co (l1.getD j []) i)
      let s : Nat → List UInt8 := fun k => l1.getD (if k = j then ln.length else k) []
      refine ⟨(List.range l1.length).map fun k => if k = ln.length then piv else (List.range d).map fun i => co (s k) i ^^^ mul (co (s k) c) (co piv i), _, h.lead (by omega) j h1 h2 h3 _ (by simp) ?_ ?_ ?_⟩
      · intro i hi
        rw [List.length_map, List.length_range] at hi
        rw [getD_tab _ _ _ hi]
        by_cases e : i = ln.length
        · rw [if_pos e]; simp [piv]
        · rw [if_neg e]; simp
      · intro i hi
        rw [getD_tab _ _ _ (by omega), if_pos rfl, co_tab, if_pos hi]
      · intro k hk hka i hi
        rw [getD_tab _ _ _ hk, if_neg hka, getD_tab _ _ _ (by omega), if_pos rfl, co_tab, if_pos hi]
theorem ker_wide (l : List (List UInt8)) (d : Nat) (hr : ∀ i, i < l.length → (l.getD i []).length = d) (hd : l.length < d) : ∃ v, Ker l d v ∧ ∃ k, k < d ∧ v k ≠ 0 := by
  obtain ⟨l', ln, h⟩ := Red.exist l d hr d (Nat.le_refl _)
  rcases h.alt with e | ⟨_, v, hv, hk, _⟩
  · have := h.le; have := h.len; rw [e, List.length_range] at *; omega
  · exact ⟨v, hv, hk⟩
def comb (A : Nat → Nat → UInt8) (y : Nat → UInt8) (s : Nat) (k : Nat) : UInt8 := sm (fun t => mul (y t) (A t k)) s
theorem ld_comb (r : List UInt8) (A : Nat → Nat → UInt8) (y : Nat → UInt8) (s d : Nat) : ld r (comb A y s) d = sm (fun t => mul (y t) (ld r (A t) d)) s := by
  unfold ld comb
  have h1 : sm (fun k => mul (co r k) (sm (fun t => mul (y t) (A t k)) s)) d = sm (fun k => sm (fun t => mul (y t) (mul (co r k) (A t k))) s) d :=
    sm_congr _ fun k _ => by rw [← la_mul]; exact sm_congr _ fun t _ => mul_left_comm _ _ _
  rw [h1, la_swap]
  exact sm_congr _ fun t _ => la_mul _ _ _
def Ind (l : List (List UInt8)) (d : Nat) (A : Nat → Nat → UInt8) (s : Nat) : Prop := ∀ y, Ker l d (comb A y s) → ∀ t, t < s → y t = 0
theorem ld_unit (r : List UInt8) (p d : Nat) (hp : p < d) : ld r (fun k => if k = p then 1 else 0) d = co r p := by
  unfold ld
  rw [sm_one _ p d (fun i _ hi => by simp only; rw [if_neg hi, mul_zero]), if_pos hp]; simp only; rw [if_pos trivial, mul_one]
theorem Red.ind {l0 l : List (List UInt8)} {d : Nat} {ln : List Nat} {c : Nat} (h : Red l0 l d ln c) : Ind l0 d (fun t k => if k = ln.getD t 0 then 1 else 0) ln.length := by
  intro y hy t ht
  have := (h.ker _).2 hy t (by have := h.le; omega)
  rw [ld_comb] at this
  rw [sm_one _ t ln.length (fun i hi hit => by rw [ld_unit _ _ _ (Nat.lt_of_lt_of_le (h.lt i hi) h.cd), h.one i hi t (by have := h.le; omega), if_neg (Ne.symm hit), mul_zero]), if_pos ht, ld_unit _ _ _ (Nat.lt_of_lt_of_le (h.lt t ht) h.cd), h.one t ht t (by have := h.le; omega), if_pos rfl, mul_one] at this
  exact this
theorem Red.most {l0 l : List (List UInt8)} {d : Nat} {ln : List Nat} (h : Red l0 l d ln d) {A : Nat → Nat → UInt8} {s : Nat} (hA : Ind l0 d A s) : s ≤ ln.length := by
  refine Classical.byContradiction fun hn => ?_
  let B : List (List UInt8) := (List.range ln.length).map fun i => (List.range s).map fun t => ld (l.getD i []) (A t) d
  have hB : B.length = ln.length := by simp [B]
  obtain ⟨y, hy, t, ht, hyt⟩ := ker_wide B s (fun i hi => by rw [hB] at hi; simp only [B]; rw [getD_tab _ _ _ hi]; simp) (by omega)
  refine hyt (hA y ((h.ker _).1 ?_) t ht)
  intro i hi
  by_cases e : i < ln.length
  · have := hy i (by omega)
    simp only [B] at this
    rw [getD_tab _ _ _ e] at this
    rw [ld_comb]
    unfold ld at this
    refine Eq.trans (sm_congr _ fun k hk => ?_) this
    rw [co_tab, if_pos hk, mul_comm]; rfl
  · exact ld_zero _ _ _ fun k hk => h.low i (by omega) hi k hk
end Gk

/- Chapter 4: what reduce does, in plain Lean. No condition but lengths. -/
set_option linter.unusedSimpArgs false
set_option linter.unusedVariables false
namespace Gk
open Gf
theorem find_row (c : Nat) : ∀ (m : List (List UInt8)) (k : Nat), (∀ j, j < m.length → c < (m.getD j []).length) →
    (∃ j, j < m.length ∧ findAt (fun y => matrix_reduce_1 y (c : Int)) (k : Int) m = some ((k + j : Nat) : Int) ∧ co (m.getD j []) c ≠ 0) ∨
    (findAt (fun y => matrix_reduce_1 y (c : Int)) (k : Int) m = some (-1) ∧ ∀ j, j < m.length → co (m.getD j []) c = 0)
  | [], k, _ => .inr ⟨rfl, fun j h => by simp at h⟩
  | r :: m, k, h => by
    have h0 : c < r.length := h 0 (by simp)
    have e : matrix_reduce_1 r (c : Int) = some (!decide (co r c = 0)) := by unfold matrix_reduce_1; rw [idx_co h0, Option.bind_some]
    unfold findAt
    rw [e, Option.bind_some]
    by_cases hz : co r c = 0
    · rw [if_neg (by simp [hz])]
      rcases find_row c m (k + 1) (fun j hj => by have := h (j + 1) (by simp; omega); simpa using this) with ⟨j, h1, h2, h3⟩ | ⟨h2, h3⟩
      · left
        refine ⟨j + 1, by simp; omega, ?_, by simpa using h3⟩
        rw [show ((k : Int) + 1) = ((k + 1 : Nat) : Int) by omega, h2]; congr 1; omega
      · right
        refine ⟨by rw [show ((k : Int) + 1) = ((k + 1 : Nat) : Int) by omega, h2], fun j hj => ?_⟩
        cases j with
        | zero => simpa using hz
        | succ j => simpa using h3 j (by simp at hj; omega)
    · left
      refine ⟨0, by simp, ?_, by simpa using hz⟩
      rw [if_pos (by simp [hz])]; simp
theorem loopEx {S X Y : Type} {body : S → Option (S ⊕ X)} {s0 : S} {g : X → Option Y} {post : X → Prop} {Q : Y → Prop} (h : ∃ x, iterC body s0 = some x ∧ post x) (hg : ∀ x, post x → ∃ y, g x = some y ∧ Q y) : ∃ y, (iterC body s0).bind g = some y ∧ Q y := by
  obtain ⟨x, e, hp⟩ := h
  obtain ⟨y, e2, hq⟩ := hg x hp
  exact ⟨y, by rw [e]; exact e2, hq⟩
theorem loopIn {S X Y Z : Type} {body : S → Option (S ⊕ X)} {s0 : S} {g : X → Option (Y ⊕ Z)} {post : X → Prop} {Q : Y → Prop} (h : ∃ x, iterC body s0 = some x ∧ post x) (hg : ∀ x, post x → ∃ y, g x = some (.inl y) ∧ Q y) : ∃ y, (iterC body s0).bind g = some (.inl y) ∧ Q y := by
  obtain ⟨x, e, hp⟩ := h
  obtain ⟨y, e2, hq⟩ := hg x hp
  exact ⟨y, by rw [e]; exact e2, hq⟩
theorem reduce_ok (l : List (List UInt8)) (d c : Nat) (hn : l.length ≤ 1000) (hd : d ≤ 1000) (hr : ∀ i, i < l.length → (l.getD i []).length = d) (hc : c ≤ d) :
    ∃ y, matrix_reduce true l (c : Int) = some y ∧ ∃ ln : List Nat, y.2 = ln.map (fun (n : Nat) => (n : Int)) ∧ Red l y.1 d ln c := by
  unfold matrix_reduce
  have hm : 1000 < most := by decide
  have hm2 := most_lt'
  refine loopEx (post := fun x : List (List UInt8) × List Int => ∃ ln : List Nat, x.2 = ln.map (fun (n : Nat) => (n : Int)) ∧ Red l x.1 d ln c) (iterC_inv
    (fun s => ∃ (c' : Nat) (ln : List Nat), s.2.2 = (c' : Int) ∧ s.2.1 = ln.map (fun (n : Nat) => (n : Int)) ∧ c' ≤ c ∧ Red l s.1 d ln c') (fun s => c - s.2.2.toNat)
    _ (by
      rintro ⟨s, q, _⟩ ⟨c', ln, rfl, rfl, hc', hR⟩
      simp only at hR ⊢
      have hsl : s.length = l.length := hR.len
      have hle := hR.le
      by_cases hcc : c' < c
      · rw [if_pos (by omega), List.length_map]
        by_cases ha : ln.length < s.length
        · left
          rw [if_pos (by omega), subL_nat _ _ _ (by omega) (Nat.le_refl _), Option.bind_some, lim_of (by simp; omega), Option.bind_some]
          have hsub : ∀ j, (((s.take s.length).drop ln.length).getD j []) = s.getD (ln.length + j) [] := fun j => by simp [List.getD_eq_getElem?_getD, List.getElem?_drop]
          have hsubl : ((s.take s.length).drop ln.length).length = s.length - ln.length := by simp
          rcases find_row c' ((s.take s.length).drop ln.length) 0 (fun j hj => by rw [hsub, hR.rc _ (by omega)]; omega) with ⟨j, hj, hf, hne⟩ | ⟨hf, hz⟩
          · replace hf : findAt (fun y => matrix_reduce_1 y (c' : Int)) 0 ((s.take s.length).drop ln.length) = _ := hf
            rw [hf, Option.bind_some, if_neg (by omega)]
            rw [hsub] at hne
            rw [Nat.zero_add]
            have hjl : ln.length + j < s.length := by omega
            rw [show ((ln.length : Int) + (j : Int)) = ((ln.length + j : Nat) : Int) by omega, wI_nat (by omega), idx_getD hjl, Option.bind_some, idx_getD ha, Option.bind_some, Int.toNat_natCast, Int.toNat_natCast]
            rw [idx_getD (by simp; omega), Option.bind_some, idx_getD (by simp; omega), Option.bind_some]
            have e38 : ((s.set ln.length (s.getD (ln.length + j) [])).set (ln.length + j) (s.getD ln.length [])).getD ln.length [] = s.getD (ln.length + j) [] := by
              rw [getD_set (by simp; omega)]
              by_cases h0 : ln.length = ln.length + j
              · rw [if_pos h0]; exact congrArg (fun k => s.getD k []) h0
              · rw [if_neg h0, getD_set (by omega), if_pos rfl]
            rw [e38, idx_co (by rw [hR.rc _ hjl]; omega), Option.bind_some, Inv_eq, Option.bind_some, if_neg hne, Option.bind_some]
            simp only
            rw [Scale_eq _ _ (by rw [hR.rc _ hjl]; omega), Option.bind_some]
            obtain ⟨piv, hpiv⟩ : ∃ piv, piv = (s.getD (ln.length + j) []).map (mul (inv (co (s.getD (ln.length + j) []) c'))) := ⟨_, rfl⟩
            rw [← hpiv]
            have hpl : piv.length = d := by rw [hpiv, List.length_map, hR.rc _ hjl]
            obtain ⟨s3, hs3⟩ : ∃ s3, s3 = ((s.set ln.length (s.getD (ln.length + j) [])).set (ln.length + j) (s.getD ln.length [])).set ln.length piv := ⟨_, rfl⟩
            rw [← hs3]
            have h3l : s3.length = s.length := by rw [hs3]; simp
            have h3a : s3.getD ln.length [] = piv := by rw [hs3, getD_set (by simp; omega), if_pos rfl]
            have h3k : ∀ k, k < s.length → k ≠ ln.length → s3.getD k [] = s.getD (if k = ln.length + j then ln.length else k) [] := fun k hk hka => by
              rw [hs3, getD_set (by simp; omega), if_neg hka, getD_set (by simp; omega)]
              by_cases h0 : k = ln.length + j
              · rw [if_pos h0, if_pos h0]
              · rw [if_neg h0, if_neg h0, getD_set (by omega), if_neg hka]
            rw [h3l]
            refine loopIn (iterC_up (fun i t => t.length = s.length ∧ t.getD ln.length [] = piv ∧ ∀ k, k < s.length → k ≠ ln.length → t.getD k [] = if k < i then sumL (s3.getD k []) (co (s3.getD k []) c') piv else s3.getD k []) s.length (fun t => t.length = s.length ∧ t.getD ln.length [] = piv ∧ ∀ k, k < s.length → k ≠ ln.length → t.getD k [] = sumL (s3.getD k []) (co (s3.getD k []) c') piv)
              ⟨h3l, h3a, fun k hk hka => by rw [if_neg (by omega)]⟩ (by
                intro i t hi hI
                obtain ⟨h1, h2, h3⟩ := hI
                simp only
                rw [if_pos (by omega)]
                by_cases hia : i = ln.length
                · rw [if_pos (by omega), wI_succ i (by omega)]
                  refine ⟨t, rfl, h1, h2, fun k hk hka => ?_⟩
                  rw [h3 k hk hka]
                  by_cases hki : k < i
                  · rw [if_pos hki, if_pos (by omega)]
                  · rw [if_neg hki, if_neg (by omega)]
                · rw [if_neg (by omega), idx_getD (by omega), Option.bind_some]
                  have hti := h3 i hi hia
                  rw [if_neg (by omega)] at hti
                  have hrl : (s3.getD i []).length = d := by
                    rw [h3k i hi hia]
                    exact hR.rc _ (by split <;> omega)
                  rw [hti, idx_co (by omega), Option.bind_some, idx_getD (by omega), Option.bind_some, h2, Sum_eq _ _ _ (by omega), Option.bind_some, wI_succ i (by omega), Int.toNat_natCast]
                  refine ⟨_, rfl, by simpa using h1, by rw [getD_set (by omega), if_neg (by omega), h2], fun k hk hka => ?_⟩
                  rw [getD_set (by omega)]
                  by_cases hki : k = i
                  · rw [if_pos hki, if_pos (by omega), hki]
                  · rw [if_neg hki, h3 k hk hka]
                    by_cases hlt : k < i
                    · rw [if_pos hlt, if_pos (by omega)]
                    · rw [if_neg hlt, if_neg (by omega)]) (by
                intro t hI
                obtain ⟨h1, h2, h3⟩ := hI
                refine ⟨t, by simp only; rw [if_neg (by omega)], h1, h2, fun k hk hka => ?_⟩
                rw [h3 k hk hka, if_pos hk])) ?_
            rintro s4 ⟨h4l, h4a, h4k⟩
            rw [appL_ok _ _ (by simp; omega) rfl, Option.bind_some, wI_succ c' (by omega)]
            refine ⟨_, rfl, ⟨c' + 1, ln ++ [c'], rfl, by simp, by omega, ?_⟩, by simp only [Int.toNat_natCast]; omega⟩
            refine hR.lead (by omega) (ln.length + j) (by omega) hjl hne s4 h4l (fun i hi => ?_) (fun i hi => ?_) (fun k hk hka i hi => ?_)
            · by_cases hia : i = ln.length
              · rw [hia, h4a, hpl]
              · rw [h4k i (by omega) hia, sumL_len, h3k i (by omega) hia]
                exact hR.rc _ (by split <;> omega)
            · rw [h4a, hpiv, co_map]
            · rw [h4k k hk hka, co_sumL, h4a, if_pos (by rw [h3k k hk hka, hR.rc _ (by split <;> omega)]; exact hi), h3k k hk hka]
          · replace hf : findAt (fun y => matrix_reduce_1 y (c' : Int)) 0 ((s.take s.length).drop ln.length) = _ := hf
            rw [hf, Option.bind_some, if_pos (by decide), wI_succ c' (by omega)]
            refine ⟨_, rfl, ⟨c' + 1, ln, rfl, rfl, by omega, hR.skip (by omega) fun k h1 h2 => ?_⟩, by simp only [Int.toNat_natCast]; omega⟩
            have := hz (k - ln.length) (by omega)
            rwa [hsub, show ln.length + (k - ln.length) = k by omega] at this
        · right
          rw [if_neg (by omega)]
          refine ⟨_, rfl, ln, rfl, ?_⟩
          have := hR.full (by omega) (c - c') (by omega)
          rwa [show c' + (c - c') = c by omega] at this
      · right
        rw [if_neg (by omega)]
        obtain rfl : c' = c := by omega
        exact ⟨_, rfl, ln, rfl, hR⟩) (l, [], 0) ⟨0, [], rfl, rfl, Nat.zero_le _, Red.start l d hr⟩) (fun x hx => ⟨_, rfl, hx⟩)
end Gk

/- Chapter 4: ranks, in plain Lean; the law MatrixRules. No condition but lengths. -/
set_option linter.unusedSimpArgs false
set_option linter.unusedVariables false
namespace Gk
open Gf
theorem Clone_rows_eq (l : List (List UInt8)) (h : l.length ≤ most) : slices_Clone_rows l = some l := appL_nil l h
theorem Rank_ok (m : List (List UInt8)) (d : Nat) (h0 : 0 < m.length) (hn : m.length ≤ 1000) (hd : d ≤ 1000) (hr : Rec m d) : ∃ l' ln, matrix_Rank (some m) true = some (ln.length : Int) ∧ Red m l' d ln d := by
  have hm : 1000 < most := by decide
  obtain ⟨y, e, ln, e2, hR⟩ := reduce_ok m d d hn hd hr (Nat.le_refl _)
  refine ⟨y.1, ln, ?_, hR⟩
  unfold matrix_Rank
  rw [if_neg (by simp), if_neg (by simp), Size_some m h0, Option.bind_some, Option.bind_some, Clone_rows_eq m (by omega), Option.bind_some]
  simp only
  rw [hr 0 h0, e, Option.bind_some, e2]
  simp
theorem Rank_nofield (m : Option (List (List UInt8))) : matrix_Rank m false = some 0 := by
  unfold matrix_Rank
  by_cases h : m.isNone = true
  · rw [if_pos h]
  · rw [if_neg h, if_pos (by simp)]
theorem ld_mm (m o : List (List UInt8)) (d c i : Nat) (v : Nat → UInt8) (hi : i < m.length) : ld ((mm m o d c).getD i []) v c = ld (m.getD i []) (fun k => ld (o.getD k []) v c) d := by
  rw [getD_mm _ _ _ _ _ hi]
  unfold ld
  have h1 : ∀ k, k < c → mul (co ((List.range c).map fun j => sm (fun k => mul (co (m.getD i []) k) (co (o.getD k []) j)) d) k) (v k) = sm (fun j => mul (co (m.getD i []) j) (mul (co (o.getD j []) k) (v k))) d := fun k hk => by
    rw [co_tab, if_pos hk, mul_comm, ← la_mul]
    exact sm_congr _ fun j _ => by rw [mul_left_comm, mul_comm (v k)]
  rw [sm_congr c h1, la_swap]
  exact sm_congr _ fun j _ => la_mul _ _ _
theorem ind_left {m o : List (List UInt8)} {d c : Nat} {A : Nat → Nat → UInt8} {s : Nat} (h : Ind (mm m o d c) c A s) : Ind m d (fun t k => ld (o.getD k []) (A t) c) s := by
  intro y hy
  refine h y fun i hi => ?_
  rw [mm_len] at hi
  rw [ld_mm _ _ _ _ _ _ hi]
  refine Eq.trans (sm_congr d fun k _ => ?_) (hy i hi)
  simp only
  rw [ld_comb]; rfl
theorem ind_right {m o : List (List UInt8)} {d c : Nat} {A : Nat → Nat → UInt8} {s : Nat} (ho : o.length = d) (h : Ind (mm m o d c) c A s) : Ind o c A s := by
  intro y hy
  refine h y fun i hi => ?_
  rw [mm_len] at hi
  rw [ld_mm _ _ _ _ _ _ hi]
  exact la_zero d fun k hk => by simp only; rw [hy k (by omega), mul_zero]
theorem tm_mm (m o : List (List UInt8)) (d c : Nat) (v : List UInt8) (ho : o.length = d) : tm (mm m o d c) v c = tm m (tm o v c) d := by
  refine eq_of_co (by simp [tm_len, mm_len]) fun i => ?_
  by_cases hi : i < m.length
  · rw [co_tm _ _ _ _ (by rw [mm_len]; exact hi), co_tm _ _ _ _ hi]
    have := ld_mm m o d c i (co v) hi
    unfold ld at this
    unfold dot
    rw [this]
    exact sm_congr d fun k hk => by rw [co_tm _ _ _ _ (by omega)]; rfl
  · rw [co_ge (by rw [tm_len, mm_len]; omega), co_ge (by rw [tm_len]; omega)]
theorem law04_MatrixRules_true (n k c : Int) (a b v : List UInt8) (lo0 : -9223372036854775808 ≤ n) (hi0 : n ≤ 9223372036854775807) (lo1 : -9223372036854775808 ≤ k) (hi1 : k ≤ 9223372036854775807) (lo2 : -9223372036854775808 ≤ c) (hi2 : c ≤ 9223372036854775807) : law04_MatrixRules n k c a b v = some true := by
  have h2 := h257
  unfold law04_MatrixRules
  obtain ⟨n, n0, n1, en⟩ := side8 n
  obtain ⟨k, k0, k1, ek⟩ := side8 k
  obtain ⟨c, c0, c1, ec⟩ := side8 c
  simp only [en, ek, ec]
  rw [lives4, Option.bind_some, if_neg (by decide), field_New, Option.bind_some, square_eq _ _ _ (by omega) (by omega), Option.bind_some]
  have lx := sqr_len a n k
  have ly := sqr_len b k c
  have rx := sqr_rec a n k
  have ry := sqr_rec b k c
  have sv := square_eq v 1 c (by omega) (by omega)
  have lv := sqr_len v 1 c
  have rv := sqr_rec v 1 c
  rw [show ((1 : Nat) : Int) = 1 from rfl] at sv
  rw [New_ok _ k (by omega) (by omega) (by omega) (by omega) rx, Option.bind_some, square_eq _ _ _ (by omega) (by omega), Option.bind_some, New_ok _ c (by omega) (by omega) (by omega) (by omega) ry, Option.bind_some]
  generalize sqr a n k = x at lx rx ⊢
  generalize sqr b k c = y at ly ry ⊢
  have lp := mm_len x y k c
  have rp := mm_rec x y k c
  simp only
  rw [Mul_ok x y k c (by omega) (by omega) rx (by omega) (by omega) ly ry (by omega), Option.bind_some, sv, Option.bind_some, idx_0 (by omega), Option.bind_some]
  have lz := rv 0 (by omega)
  generalize (sqr v 1 c).getD 0 [] = z at lz ⊢
  simp only
  have lt := tm_len y z c
  rw [Times_ok _ z c (by omega) (by omega) rp lz (by omega), Option.bind_some, Times_ok y z c (by omega) (by omega) ry lz (by omega), Option.bind_some]
  simp only
  rw [Times_ok x _ k (by omega) (by omega) rx (by omega) (by omega), Option.bind_some]
  simp only
  rw [if_pos trivial, if_pos trivial, if_pos trivial, if_pos trivial, if_pos trivial, if_pos trivial, if_pos (tm_mm x y k c z ly)]
  obtain ⟨l1, ln1, e1, R1⟩ := Rank_ok (mm x y k c) c (by omega) (by omega) (by omega) rp
  obtain ⟨l2, ln2, e2, R2⟩ := Rank_ok x k (by omega) (by omega) (by omega) rx
  obtain ⟨l3, ln3, e3, R3⟩ := Rank_ok y c (by omega) (by omega) (by omega) ry
  have b1 := R2.most (ind_left R1.ind)
  have b2 := R3.most (ind_right ly R1.ind)
  rw [e1, Option.bind_some, e2, Option.bind_some, e3, Option.bind_some, if_pos (by split <;> omega), Rank_nofield, Option.bind_some]
  rfl
end Gk

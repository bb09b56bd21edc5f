/- Parts H4, Gj, Mb, Fb, Gp, L4a, Gq, Gw, Ho, Fr, Go, I4, Gt, one behind the other. What is proved: said at the head of each part. No condition beside those said there. -/
import Derived.Test.YtnjmikedppblhaaRows
import Derived.Orders
import Derived.Deep.Draws
import Derived.Laws.World
import Derived.KernelRfl
import Derived.OrdersIn
import Derived.TacticsIn
import Derived.RangeFuncCalls
import Derived.Deep.LoopGhost
import Derived.Tactics
import Derived.Sort.LoopGhostIn
import Derived.RangeFuncLeaves
import Derived.RangeFuncNested
import Derived.RangeFuncRecord
import Derived.Laws.Sem
import Derived.OwnWalk
import Derived.RangeFuncWrites
import Derived.Laws.IdiomCopy
import Derived.WalkKit
import Derived.ProofKit
import Derived.OpenShut
import Derived.ChangeOld
import Derived.Below
import Derived.Test.YtnjmikedppblhaaProg
import Derived.MapKept
import Derived.Laws.CopyRow
import Derived.Laws.Cells
import Derived.Lib.AppendZerosOnto
import Derived.Test.YtnjmikedppblhaaZPMatrixSolves1
/- Printed by gen.py: for each Go function a pure function, and that the Go code comes to it. No condition beside the equation that says what the pure function gives. -/
set_option linter.unusedVariables false
set_option linter.unusedSimpArgs false
namespace Gk
open Go Go.Proofs
noncomputable def matrix_size (a0n : Int) : Option Bool :=
(if 1 ≤ a0n then some (decide (a0n ≤ 64))
else some false)
set_option maxRecDepth 100000 in
set_option maxHeartbeats 8000000 in
theorem matrix_size_calls (a0n : Int) (r : Bool) (w0 : World) (H : matrix_size a0n = some r) :
    Calls Try.prog 22 [(i64 a0n)].toArray w0 (fun e w' => e = .returned (.bool r) ∧ Ext w0 w') := by
  have hE : Ext w0 w0 := Ext.refl w0; unfold matrix_size at H; refine calls_W (n := 9) Try.func22 rfl rfl rfl ?_; refine W_seq ?_; refine W_reg (by kernel_rfl) ?_; refine wla rfl rfl (q_assign (v := (.bool false)) rfl rfl) ?_; refine wl_nil ?_; refine W_th ?_; refine W_seq ?_; refine W_reg (by kernel_rfl) ?_; refine wla rfl rfl (q_move (v := (i64 a0n)) rfl rfl) ?_; refine wla rfl rfl (q_geI rfl rfl rfl) ?_; refine wlb rfl rfl (q_move (v := (.bool ((decide (1 ≤ a0n))))) rfl rfl) (fun hb1 => ?_) (fun hb1 => ?_)
  · replace H := (if_pos (of_decide_eq_true hb1)).symm.trans H; refine wla rfl rfl (q_move (v := (i64 a0n)) rfl rfl) ?_; refine wla rfl rfl (q_leI rfl rfl rfl) ?_; refine wla rfl rfl (q_pick_t (v := (.bool ((decide (a0n ≤ 64))))) rfl rfl rfl) ?_; refine wla rfl rfl (q_assign (v := (.bool ((decide (a0n ≤ 64))))) rfl rfl) ?_; refine wl_nil ?_; refine W_th ?_; refine W_ret ?_; obtain rfl := osi H; refine rt1 (.bool ((decide (a0n ≤ 64)))) rfl rfl rfl rfl ?_; exact ⟨rfl, hE⟩
  replace H := (if_neg (of_decide_eq_false hb1)).symm.trans H; refine wlk rfl rfl ?_; refine wlk rfl rfl ?_; refine wla rfl rfl (q_pick_f (v := (.bool false)) rfl rfl rfl) ?_; refine wla rfl rfl (q_assign (v := (.bool false)) rfl rfl) ?_; refine wl_nil ?_; refine W_th ?_; refine W_ret ?_; obtain rfl := osi H; refine rt1 (.bool false) rfl rfl rfl rfl ?_; exact ⟨rfl, hE⟩
noncomputable def matrix_blank (a0rows : Int) (a1columns : Int) : Option (List (List UInt8)) :=
((makeL a0rows ([] : List UInt8)).bind fun c1 =>
((iterC (fun s9 : List (List UInt8) × Int =>
(if s9.2 < (c1.length : Int) then
((makeL a1columns (0 : UInt8)).bind fun c14 =>
((idx s9.1 s9.2).bind fun c19 => some (.inl ((s9.1.set (s9.2 : Int).toNat c14), (wI (s9.2 + 1))))))
else some (.inr s9.1))) (c1, 0)).bind fun x9 => some x9))
set_option maxRecDepth 100000 in
set_option maxHeartbeats 8000000 in
theorem matrix_blank_calls (a0rows : Int) (a1columns : Int) (r : List (List UInt8)) (w0 : World) (H : matrix_blank a0rows a1columns = some r) :
    Calls Try.prog 23 [(i64 a0rows), (i64 a1columns)].toArray w0 (fun e w' => ∃ u0 : Value, e = .returned u0 ∧ Ext w0 w' ∧ MxO w0 w' u0 r) := by
  have hE : Ext w0 w0 := Ext.refl w0; unfold matrix_blank at H; refine calls_W (n := 29) Try.func23 rfl rfl rfl ?_; refine W_seq ?_; refine W_reg (by kernel_rfl) ?_; refine wla rfl rfl (q_assign (v := (.pointer none)) rfl rfl) ?_; refine wl_nil ?_; refine W_th ?_; refine W_seq ?_; refine W_reg (by kernel_rfl) ?_; refine wla rfl rfl (q_move (v := (i64 a0rows)) rfl rfl) ?_; obtain ⟨c1, hc1, H⟩ := bsi H; refine wls rfl rfl (stp_makeD (e2 := 5) [] rfl T27 rfl rfl hc1 ?_); intro G2 v2 w2 o2 n2 g2 l2; have x2 := grown_ext g2; have n4 := Nw.ext hE n2; have e3 := hE.trans x2; refine wla rfl rfl (q_buildM rfl rfl (OwD.shape o2)) ?_; refine wls rfl rfl (stp_boxL (v := (.agg #[v2])) (cs := #[v2]) [G2] rfl rfl rfl ?_); intro g5 w5 o5 n5 g5r l5; have x5 := grown_ext g5r; have q6 : Nq G2 (bp g5) := o2.nq n5; replace o2 := o2.ext x5; have n8 := Nw.ext e3 n5; have e7 := e3.trans x5; refine wla rfl rfl (q_assign (v := (bp g5)) rfl rfl) ?_; refine wl_nil ?_; refine W_th ?_; refine W_seq ?_; refine W_seq ?_; refine W_reg (by kernel_rfl) ?_; refine wla rfl rfl (q_move (v := (bp g5)) rfl rfl) ?_; refine wla rfl rfl (q_nilP rfl rfl) ?_; refine wla rfl rfl (q_fldP rfl fieldAtM rfl) ?_; refine wlq rfl rfl (q_loadB (u := v2) rfl Try.isAgg27 rfl o5 rfl) ?_; refine wla rfl rfl (q_len rfl T27.sl rfl o2.rd) ?_; refine wla rfl rfl (q_move (v := (i64 0)) rfl rfl) ?_; refine wl_nil ?_; refine W_th ?_; obtain ⟨x9, G9, H⟩ := bsi H; refine W_mid (fun f w => ∃ Gbbpg5_27 : Value, f 5 = (bp g5) ∧ f 29 = undef ∧ Ext w0 w ∧ OwD w 22 5 Gbbpg5_27 v2 x9 ∧ Nw w0 Gbbpg5_27 ∧ Blk w g5 56 #[v2] ∧ Nw w0 (bp g5) ∧ Nq Gbbpg5_27 (bp g5)) ?_ ?_
  · refine W_block ?_; refine W_loop (fun s9 f w => ∃ Gbbpg5_25 : Value, f 1 = (i64 a1columns) ∧ f 5 = (bp g5) ∧ f 15 = (i64 ((c1.length : Int))) ∧ f 16 = (i64 s9.2) ∧ f 29 = undef ∧ Ext w0 w ∧ OwD w 22 5 Gbbpg5_25 v2 s9.1 ∧ Nw w0 Gbbpg5_25 ∧ Blk w g5 56 #[v2] ∧ Nw w0 (bp g5) ∧ Nq Gbbpg5_25 (bp g5)) G9 ?_ ?_
    · exact ⟨G2, rfl, rfl, rfl, rfl, rfl, e7, o2, n4, o5, n8, q6⟩
    rintro s9 _ _ w10 ⟨Gbbpg5_10, s1_10, s5_10, s15_10, s16_10, s29_10, hE10, o0_10, n0_10, o1_10, n1_10, q0_1_10⟩ H9 hr9; refine W_seq ?_; refine W_reg (by kernel_rfl) ?_; refine wla rfl rfl (q_ltI rfl s16_10 s15_10) ?_; refine wl_nil ?_; refine W_th ?_; refine W_seq ?_; refine W_cond _ rfl rfl (fun hb11 => ?_) (fun hb11 => ?_)
    · replace H9 := (if_pos (of_decide_eq_true hb11)).symm.trans H9; refine W_skip ?_; refine W_th ?_; refine W_seq ?_; refine W_block ?_; refine W_seq ?_; refine W_reg (by kernel_rfl) ?_; refine wla rfl rfl (q_move (v := (i64 s9.2)) rfl s16_10) ?_; refine wla rfl rfl (q_assign (v := (i64 s9.2)) rfl rfl) ?_; refine wl_nil ?_; refine W_th ?_; refine W_draw [3] [(0, 0), (1, 0), (2, 0), (3, 1), (4, 0), (5, 0), (6, 2), (7, 0), (8, 2)] mixed (by kernel_rfl) (by kernel_rfl) (by kernel_rfl) (by kernel_rfl) ?_; have x12 := Ext.drew w10; replace o0_10 := o0_10.ext x12; replace o1_10 := o1_10.ext x12; have e13 := hE10.trans x12; refine wsa rfl rfl rfl (q_move (v := (bp g5)) rfl s5_10) ?_; refine wsa rfl rfl rfl (q_nilP rfl rfl) ?_; refine wsa rfl rfl rfl (q_fldP rfl fieldAtM rfl) ?_; refine wsq rfl rfl rfl (q_loadB (u := v2) rfl Try.isAgg27 rfl o1_10 rfl) ?_; refine wsa rfl rfl rfl (q_move (v := (i64 s9.2)) rfl rfl) ?_; refine wsa rfl rfl rfl (q_move (v := (i64 a1columns)) rfl s1_10) ?_; obtain ⟨c14, hc14, H9⟩ := bsi H9; refine wss rfl rfl rfl (stp_make (L := [Gbbpg5_10, (bp g5)]) (R := (Sc u8)) rfl T22 rfl rfl hc14 (fun _ _ => rfl) ?_); intro v14 w14 o14 n14 g14 l14; refine ⟨grown_ext g14, ?_⟩; have x14 := grown_ext g14; have q15 : Nq Gbbpg5_10 v14 := o0_10.nq n14; have q16 : Nq (bp g5) v14 := o1_10.nq n14; replace o0_10 := o0_10.ext x14; replace o1_10 := o1_10.ext x14; have n18 := Nw.ext e13 n14; have e17 := e13.trans x14; obtain ⟨c19, hc19, H9⟩ := bsi H9; refine wsa rfl rfl rfl (q_adr rfl T27 rfl rfl o0_10.rd hc19) ?_; refine wsn rfl (by kernel_rfl) rfl rfl (stp_storeRow (x := v14) [v14] [(bp g5)] rfl T27 rfl rfl o0_10 hc19 o14 q15.symm ?_); intro G21 w20 o20 g20 hG20 l20; replace o14 := o14.other (Sc.stab _) g20 q15.symm l20; replace o1_10 := o1_10.other g20 q0_1_10.symm; have e22 := e17.grown g20 n0_10; have q23 : Nq (bp g5) G21 := OwD.relist hG20 q0_1_10.symm q16
      have n24 : Nw w0 G21 := fun k hk => (hG20 k hk).elim (n0_10 k) (n18 k)
      refine ws_nil ?_; refine bk_n ?_; refine W_th ?_; refine W_reg (by kernel_rfl) ?_; refine wla rfl rfl (q_addI rfl s16_10 rfl) ?_; refine wla rfl rfl (q_move (v := (i64 ((wI (s9.2 + 1))))) rfl rfl) ?_; refine wl_nil ?_; obtain rfl := osi H9; exact ⟨_, rfl, G21, s1_10, s5_10, s15_10, rfl, s29_10, e22, o20, n24, o1_10, n1_10, q23.symm⟩
    replace H9 := (if_neg (of_decide_eq_false hb11)).symm.trans H9; refine W_exit ?_; refine th_x ?_; obtain rfl := osi H9; obtain rfl := hr9 _ rfl; refine th_x ?_; refine bk_x ?_; exact ⟨Gbbpg5_10, s5_10, s29_10, hE10, o0_10, n0_10, o1_10, n1_10, q0_1_10⟩
  rintro _ w26 ⟨Gbbpg5_26, s5_26, s29_26, hE26, o0_26, n0_26, o1_26, n1_26, q0_1_26⟩; refine W_th ?_; refine W_seq ?_; refine W_reg (by kernel_rfl) ?_; refine wla rfl rfl (q_move (v := (bp g5)) rfl s5_26) ?_; refine wla rfl rfl (q_assign (v := (bp g5)) rfl rfl) ?_; refine wl_nil ?_; refine W_th ?_; refine W_ret ?_; obtain rfl := osi H; refine rt1 (bp g5) rfl rfl rfl s29_26 ?_; exact ⟨(bp g5), rfl, hE26, ⟨_, _, _, rfl, n1_26, o1_26, n0_26, o0_26, q0_1_26.symm⟩⟩
noncomputable def matrix_New (a0rows : List (List UInt8)) : Option (Option (List (List UInt8)) × Int) :=
((matrix_size (a0rows.length : Int)).bind fun r1 =>
(if (!r1) = true then some ((none : Option (List (List UInt8))), 2)
else
((idx a0rows 0).bind fun c4 =>
((matrix_size (c4.length : Int)).bind fun r6 =>
(if (!r6) = true then some ((none : Option (List (List UInt8))), 2)
else
((idx a0rows 0).bind fun c9 =>
((matrix_blank (a0rows.length : Int) (c9.length : Int)).bind fun r11 =>
((iterC (fun s15 : List (List UInt8) × Int =>
(if s15.2 < (a0rows.length : Int) then
((idx a0rows s15.2).bind fun c18 =>
((idx a0rows 0).bind fun c20 =>
(if (c18.length : Int) = (c20.length : Int) then
((idx s15.1 s15.2).bind fun c23 => some (.inl ((s15.1.set (s15.2 : Int).toNat (copyL c23 0 c18)), (wI (s15.2 + 1)))))
else some (.inr (.inr ((none : Option (List (List UInt8))), 1))))))
else some (.inr (.inl s15.1)))) (r11, 0)).bind (Sum.elim (fun y15 => some ((some y15), 0)) (fun q15 => some q15))))))))))
set_option maxRecDepth 100000 in
set_option maxHeartbeats 8000000 in
theorem matrix_New_calls (a0rows : List (List UInt8)) (p0 : Value) (r : Option (List (List UInt8)) × Int) (w0 : World) (L0 : List Value) (hL0 : Old w0 L0) (hp0 : Rw w0 [] p0 a0rows) (H : matrix_New a0rows = some r) :
    Calls Try.prog 8 [p0].toArray w0 (fun e w' => ∃ u0 : Value, e = .returned (.tuple #[u0, (i64 r.2)]) ∧ Ext w0 w' ∧ Mx w' L0 u0 r.1) := by
  have hE : Ext w0 w0 := Ext.refl w0; unfold matrix_New at H; refine calls_W (n := 51) Try.func8 rfl rfl rfl ?_; refine W_seq ?_; refine W_reg (by kernel_rfl) ?_; refine wla rfl rfl (q_assign (v := (.pointer none)) rfl rfl) ?_; refine wla rfl rfl (q_assign (v := (i64 0)) rfl rfl) ?_; refine wl_nil ?_; refine W_th ?_; refine W_seq ?_; refine W_seq ?_; refine W_reg (by kernel_rfl) ?_; refine wla rfl rfl (q_move (v := p0) rfl rfl) ?_; refine wla rfl rfl (q_len rfl T27.sl rfl (hp0.lift (Lift.ext hE _))) ?_; obtain ⟨r1, hr1, H⟩ := bsi H; refine wls rfl rfl (stp_call (vs := [(i64 ((a0rows.length : Int)))]) Try.func22 rfl rfl rfl (ar1 rfl) (matrix_size_calls (a0rows.length : Int)  r1 _  hr1) ?_); rintro _ w1 ⟨rfl, x1⟩; refine ⟨_, rfl, ?_⟩; have e2 := hE.trans x1; refine wla rfl rfl (q_not rfl rfl) ?_; refine wlb rfl rfl (q_move (v := (.bool ((!r1)))) rfl rfl) (fun hb3 => ?_) (fun hb3 => ?_)
  · replace H := (if_pos hb3).symm.trans H; refine wlk rfl rfl ?_; refine wlk rfl rfl ?_; refine wlk rfl rfl ?_; refine wlk rfl rfl ?_; refine wlk rfl rfl ?_; refine wlk rfl rfl ?_; refine wla rfl rfl (q_pick_t (v := (.bool true)) rfl rfl rfl) ?_; refine wl_nil ?_; refine W_th ?_; refine W_cond true rfl rfl (fun _ => ?_) (fun hb => by cases hb); refine W_seq ?_; refine W_reg (by kernel_rfl) ?_; refine wla rfl rfl (q_assign (v := (.pointer none)) rfl rfl) ?_; refine wla rfl rfl (q_assign (v := (i64 2)) rfl rfl) ?_; refine wl_nil ?_; refine W_th ?_; refine W_ret ?_; refine th_r ?_; obtain rfl := osi H; refine rt2 (.pointer none) (i64 2) rfl rfl rfl rfl rfl rfl ?_; exact ⟨(.pointer none), rfl, e2, (Mx.nil _ _)⟩
  replace H := (if_neg (ne_true_of_eq_false hb3)).symm.trans H; refine wla rfl rfl (q_move (v := p0) rfl rfl) ?_; obtain ⟨c4, hc4, H⟩ := bsi H; refine wla rfl rfl (q_adr rfl T27 rfl rfl (hp0.lift (Lift.ext e2 _)) hc4) ?_; refine wlq_load rfl rfl rfl T27 rfl hp0 hc4 e2 (fun v5 ha5 => ?_); refine wla rfl rfl (q_len rfl T22.sl rfl (ha5.lift (Lift.ext e2 _))) ?_; obtain ⟨r6, hr6, H⟩ := bsi H; refine wls rfl rfl (stp_call (vs := [(i64 ((c4.length : Int)))]) Try.func22 rfl rfl rfl (ar1 rfl) (matrix_size_calls (c4.length : Int)  r6 _  hr6) ?_); rintro _ w6 ⟨rfl, x6⟩; refine ⟨_, rfl, ?_⟩; have e7 := e2.trans x6; refine wla rfl rfl (q_not rfl rfl) ?_; refine wla rfl rfl (q_pick_f (v := (.bool ((!r6)))) rfl rfl rfl) ?_; refine wl_nil ?_; refine W_th ?_; refine W_cond _ rfl rfl (fun hb8 => ?_) (fun hb8 => ?_)
  · replace H := (if_pos hb8).symm.trans H; refine W_seq ?_; refine W_reg (by kernel_rfl) ?_; refine wla rfl rfl (q_assign (v := (.pointer none)) rfl rfl) ?_; refine wla rfl rfl (q_assign (v := (i64 2)) rfl rfl) ?_; refine wl_nil ?_; refine W_th ?_; refine W_ret ?_; refine th_r ?_; obtain rfl := osi H; refine rt2 (.pointer none) (i64 2) rfl rfl rfl rfl rfl rfl ?_; exact ⟨(.pointer none), rfl, e7, (Mx.nil _ _)⟩
  replace H := (if_neg (ne_true_of_eq_false hb8)).symm.trans H; refine W_skip ?_; refine W_th ?_; refine W_seq ?_; refine W_reg (by kernel_rfl) ?_; refine wla rfl rfl (q_move (v := p0) rfl rfl) ?_; refine wla rfl rfl (q_len rfl T27.sl rfl (hp0.lift (Lift.ext e7 _))) ?_; refine wla rfl rfl (q_move (v := p0) rfl rfl) ?_; obtain ⟨c9, hc9, H⟩ := bsi H; refine wla rfl rfl (q_adr rfl T27 rfl rfl (hp0.lift (Lift.ext e7 _)) hc9) ?_; refine wlq_load rfl rfl rfl T27 rfl hp0 hc9 e7 (fun v10 ha10 => ?_); refine wla rfl rfl (q_len rfl T22.sl rfl (ha10.lift (Lift.ext e7 _))) ?_; obtain ⟨r11, hr11, H⟩ := bsi H; refine wls rfl rfl (stp_call (vs := [(i64 ((a0rows.length : Int))), (i64 ((c9.length : Int)))]) Try.func23 rfl rfl rfl (ar2 rfl rfl) (matrix_blank_calls (a0rows.length : Int) (c9.length : Int)  r11 _  hr11) ?_); rintro _ w11 ⟨v11, rfl, x11, i11_0⟩; refine ⟨_, rfl, ?_⟩; obtain ⟨g11, uv11, G11, rfl, nB11, hB11, nG11, hD11, hq11⟩ := i11_0; have n12 := Nw.ext e7 nB11; have n13 := Nw.ext e7 nG11; have e14 := e7.trans x11; refine wla rfl rfl (q_assign (v := (bp g11)) rfl rfl) ?_; refine wl_nil ?_; refine W_th ?_; refine W_seq ?_; refine W_seq ?_; refine W_reg (by kernel_rfl) ?_; refine wla rfl rfl (q_move (v := p0) rfl rfl) ?_; refine wla rfl rfl (q_len rfl T27.sl rfl (hp0.lift (Lift.ext e14 _))) ?_; refine wla rfl rfl (q_move (v := (i64 0)) rfl rfl) ?_; refine wl_nil ?_; refine W_th ?_; obtain ⟨x15, G15, H⟩ := bsi H; refine W_mid (fun f w => ∃ y15, x15 = .inl y15 ∧ ∃ Gbbpg11_30 : Value, f 4 = (bp g11) ∧ f 51 = undef ∧ Ext w0 w ∧ OwD w 22 5 Gbbpg11_30 uv11 y15 ∧ Nw w0 Gbbpg11_30 ∧ Blk w g11 56 #[uv11] ∧ Nw w0 (bp g11) ∧ Nq Gbbpg11_30 (bp g11)) ?_ ?_
  · refine W_block ?_; refine W_loop (fun s15 f w => ∃ Gbbpg11_28 : Value, f 0 = p0 ∧ f 4 = (bp g11) ∧ f 26 = p0 ∧ f 27 = (i64 ((a0rows.length : Int))) ∧ f 28 = (i64 s15.2) ∧ f 51 = undef ∧ Ext w0 w ∧ OwD w 22 5 Gbbpg11_28 uv11 s15.1 ∧ Nw w0 Gbbpg11_28 ∧ Blk w g11 56 #[uv11] ∧ Nw w0 (bp g11) ∧ Nq Gbbpg11_28 (bp g11)) G15 ?_ ?_
    · exact ⟨G11, rfl, rfl, rfl, rfl, rfl, rfl, e14, hD11, n13, hB11, n12, hq11.symm⟩
    rintro s15 _ _ w16 ⟨Gbbpg11_16, s0_16, s4_16, s26_16, s27_16, s28_16, s51_16, hE16, o0_16, n0_16, o1_16, n1_16, q0_1_16⟩ H15 hr15; refine W_seq ?_; refine W_reg (by kernel_rfl) ?_; refine wla rfl rfl (q_ltI rfl s28_16 s27_16) ?_; refine wl_nil ?_; refine W_th ?_; refine W_seq ?_; refine W_cond _ rfl rfl (fun hb17 => ?_) (fun hb17 => ?_)
    · replace H15 := (if_pos (of_decide_eq_true hb17)).symm.trans H15; refine W_skip ?_; refine W_th ?_; refine W_seq ?_; refine W_block ?_; refine W_seq ?_; refine W_reg (by kernel_rfl) ?_; refine wla rfl rfl (q_move (v := (i64 s15.2)) rfl s28_16) ?_; obtain ⟨c18, hc18, H15⟩ := bsi H15; refine wla rfl rfl (q_adr rfl T27 s26_16 s28_16 (hp0.lift (Lift.ext hE16 _)) hc18) ?_; refine wlq_load rfl rfl rfl T27 rfl hp0 hc18 hE16 (fun v19 ha19 => ?_); refine wla rfl rfl (q_assign (v := (i64 s15.2)) rfl rfl) ?_; refine wla rfl rfl (q_assign (v := v19) rfl rfl) ?_; refine wl_nil ?_; refine W_th ?_; refine W_seq ?_; refine W_seq ?_; refine W_reg (by kernel_rfl) ?_; refine wla rfl rfl (q_move (v := v19) rfl rfl) ?_; refine wla rfl rfl (q_len rfl T22.sl rfl (ha19.lift (Lift.ext hE16 _))) ?_; refine wla rfl rfl (q_move (v := p0) rfl s0_16) ?_; obtain ⟨c20, hc20, H15⟩ := bsi H15; refine wla rfl rfl (q_adr rfl T27 rfl rfl (hp0.lift (Lift.ext hE16 _)) hc20) ?_; refine wlq_load rfl rfl rfl T27 rfl hp0 hc20 hE16 (fun v21 ha21 => ?_); refine wla rfl rfl (q_len rfl T22.sl rfl (ha21.lift (Lift.ext hE16 _))) ?_; refine wla rfl rfl (q_neI rfl rfl rfl) ?_; refine wl_nil ?_; refine W_th ?_; refine W_cond _ rfl rfl (fun hb22 => ?_) (fun hb22 => ?_)
      · replace H15 := (if_neg (ndec_t hb22)).symm.trans H15; refine W_seq ?_; refine W_reg (by kernel_rfl) ?_; refine wla rfl rfl (q_assign (v := (.pointer none)) rfl rfl) ?_; refine wla rfl rfl (q_assign (v := (i64 1)) rfl rfl) ?_; refine wl_nil ?_; refine W_th ?_; refine W_ret ?_; refine th_r ?_; refine bk_r ?_; refine th_r ?_; obtain rfl := osi H15; obtain rfl := hr15 _ rfl; simp only [Sum.elim_inr] at H; refine th_r ?_; refine bk_r ?_; refine th_r ?_; refine th_r ?_; obtain rfl := osi H; refine rt2 (.pointer none) (i64 1) rfl rfl rfl rfl rfl s51_16 ?_; exact ⟨(.pointer none), rfl, hE16, (Mx.nil _ _)⟩
      replace H15 := (if_pos (ndec_f hb22)).symm.trans H15; refine W_skip ?_; refine W_th ?_; refine W_reg (by kernel_rfl) ?_; refine wla rfl rfl (q_move (v := (bp g11)) rfl s4_16) ?_; refine wla rfl rfl (q_nilP rfl rfl) ?_; refine wla rfl rfl (q_fldP rfl fieldAtM rfl) ?_; refine wlq rfl rfl (q_loadB (u := uv11) rfl Try.isAgg27 rfl o1_16 rfl) ?_; refine wla rfl rfl (q_move (v := (i64 s15.2)) rfl rfl) ?_; obtain ⟨c23, hc23, H15⟩ := bsi H15; refine wla rfl rfl (q_adr rfl T27 rfl rfl o0_16.rd hc23) ?_; refine wlq_loadD rfl rfl rfl T27 rfl o0_16 hc23 (fun v24 hD24 => ?_); refine wla rfl rfl (q_move (v := v19) rfl rfl) ?_; refine wls rfl rfl (stp_copyD (off := 0) (dv := v24) (s := v19) [] ((bp g11) :: L0) rfl T22 rfl rfl o0_16 hD24 hc23 (drow_whole o0_16 hD24 hc23) (by decide) (Int.natCast_nonneg _) (ha19.lift (Lift.ext hE16 _)) ?_); intro w26 o26 g26 l26; replace o1_16 := o1_16.other g26 q0_1_16.symm; have e27 := hE16.grown g26 n0_16; refine wl_nil ?_; refine bk_n ?_; refine W_th ?_; refine W_reg (by kernel_rfl) ?_; refine wla rfl rfl (q_addI rfl s28_16 rfl) ?_; refine wla rfl rfl (q_move (v := (i64 ((wI (s15.2 + 1))))) rfl rfl) ?_; refine wl_nil ?_; obtain rfl := osi H15; exact ⟨_, rfl, Gbbpg11_16, s0_16, s4_16, s26_16, s27_16, rfl, s51_16, e27, o26, n0_16, o1_16, n1_16, q0_1_16⟩
    replace H15 := (if_neg (of_decide_eq_false hb17)).symm.trans H15; refine W_exit ?_; refine th_x ?_; obtain rfl := osi H15; obtain rfl := hr15 _ rfl; refine th_x ?_; refine bk_x ?_; exact ⟨_, rfl, Gbbpg11_16, s4_16, s51_16, hE16, o0_16, n0_16, o1_16, n1_16, q0_1_16⟩
  rintro _ w29 ⟨y15, rfl, Gbbpg11_29, s4_29, s51_29, hE29, o0_29, n0_29, o1_29, n1_29, q0_1_29⟩; simp only [Sum.elim_inl] at H; refine W_th ?_; refine W_seq ?_; refine W_reg (by kernel_rfl) ?_; refine wla rfl rfl (q_move (v := (bp g11)) rfl s4_29) ?_; refine wla rfl rfl (q_assign (v := (bp g11)) rfl rfl) ?_; refine wla rfl rfl (q_assign (v := (i64 0)) rfl rfl) ?_; refine wl_nil ?_; refine W_th ?_; refine W_ret ?_; obtain rfl := osi H; refine rt2 (bp g11) (i64 0) rfl rfl rfl rfl rfl s51_29 ?_; exact ⟨(bp g11), rfl, hE29, (Mx.mk o1_29 (hL0 _ (n1_29 _ (hs_bp' _))) (o0_29.rw L0 (fun k hk => hL0 k (n0_29 k hk))))⟩
noncomputable def matrix_Size (a0m : Option (List (List UInt8))) : Option (Int × Int) :=
(if a0m.isNone = true then some (0, 0)
else
((a0m).bind fun c4 =>
((idx c4 0).bind fun c5 => some ((c4.length : Int), (c5.length : Int)))))
set_option maxRecDepth 100000 in
set_option maxHeartbeats 8000000 in
theorem matrix_Size_calls (a0m : Option (List (List UInt8))) (p0 : Value) (r : Int × Int) (w0 : World) (hp0 : Mx w0 [] p0 a0m) (H : matrix_Size a0m = some r) :
    Calls Try.prog 24 [p0].toArray w0 (fun e w' => e = .returned (.tuple #[(i64 r.1), (i64 r.2)]) ∧ Ext w0 w') := by
  have hE : Ext w0 w0 := Ext.refl w0; unfold matrix_Size at H; refine calls_W (n := 18) Try.func24 rfl rfl rfl ?_; refine W_seq ?_; refine W_reg (by kernel_rfl) ?_; refine wla rfl rfl (q_assign (v := (i64 0)) rfl rfl) ?_; refine wla rfl rfl (q_assign (v := (i64 0)) rfl rfl) ?_; refine wl_nil ?_; refine W_th ?_; refine W_seq ?_; refine W_seq ?_; refine W_reg (by kernel_rfl) ?_; refine wla rfl rfl (q_move (v := p0) rfl rfl) ?_; refine wla rfl rfl (q_eqM rfl rfl rfl rfl (hp0.lift (Lift.ext hE _))) ?_; refine wl_nil ?_; refine W_th ?_; refine W_cond _ rfl rfl (fun hb1 => ?_) (fun hb1 => ?_)
  · replace H := (if_pos hb1).symm.trans H; refine W_seq ?_; refine W_reg (by kernel_rfl) ?_; refine wla rfl rfl (q_assign (v := (i64 0)) rfl rfl) ?_; refine wla rfl rfl (q_assign (v := (i64 0)) rfl rfl) ?_; refine wl_nil ?_; refine W_th ?_; refine W_ret ?_; refine th_r ?_; obtain rfl := osi H; refine rt2 (i64 0) (i64 0) rfl rfl rfl rfl rfl rfl ?_; exact ⟨rfl, hE⟩
  replace H := (if_neg (ne_true_of_eq_false hb1)).symm.trans H; refine W_skip ?_; refine W_th ?_; refine W_seq ?_; refine W_draw [3, 8, 10] [(0, 0), (1, 0), (2, 0), (3, 1), (4, 0), (5, 0), (6, 0), (7, 0), (8, 1), (9, 0), (10, 1), (11, 0), (12, 0), (13, 0)] mixed (by kernel_rfl) (by kernel_rfl) (by kernel_rfl) (by kernel_rfl) ?_; have x2 := Ext.drew w0; have e3 := hE.trans x2; refine wsa rfl rfl rfl (q_move (v := p0) rfl rfl) ?_; obtain ⟨c4, hc4, H⟩ := bsi H; obtain ⟨g4, uv4, hv4, hB4, hR4⟩ := MxT.some hp0 hc4; refine wsa rfl rfl rfl (q_nilP (g := g4) (m := 0) rfl (Eq.trans rfl hv4)) ?_; refine wsa rfl rfl rfl (q_fldP rfl fieldAtM rfl) ?_; refine wsq rfl rfl rfl (q_loadB (u := uv4) rfl Try.isAgg27 rfl (hB4.ext e3) rfl) ?_; refine wsa rfl rfl rfl (q_len rfl T27.sl rfl (hR4.lift (Lift.ext e3 _))) ?_; refine wsa rfl rfl rfl (q_move (v := p0) rfl rfl) ?_; refine wsa rfl rfl rfl (q_nilP (g := g4) (m := 0) rfl (Eq.trans rfl hv4)) ?_; refine wsa rfl rfl rfl (q_fldP rfl fieldAtM rfl) ?_; refine wsq rfl rfl rfl (q_loadB (u := uv4) rfl Try.isAgg27 rfl (hB4.ext e3) rfl) ?_; obtain ⟨c5, hc5, H⟩ := bsi H; refine wsa rfl rfl rfl (q_adr rfl T27 rfl rfl (hR4.lift (Lift.ext e3 _)) hc5) ?_; refine wsq_load rfl rfl rfl rfl T27 rfl hR4 hc5 e3 (fun v6 ha6 => ?_); refine wsa rfl rfl rfl (q_len rfl T22.sl rfl (ha6.lift (Lift.ext e3 _))) ?_; refine wsa rfl rfl rfl (q_assign (v := (i64 ((c4.length : Int)))) rfl rfl) ?_; refine wsa rfl rfl rfl (q_assign (v := (i64 ((c5.length : Int)))) rfl rfl) ?_; refine ws_nil ?_; refine W_th ?_; refine W_ret ?_; obtain rfl := osi H; refine rt2 (i64 ((c4.length : Int))) (i64 ((c5.length : Int))) rfl rfl rfl rfl rfl rfl ?_; exact ⟨rfl, e3⟩
noncomputable def matrix_Row (a0m : Option (List (List UInt8))) (a1i : Int) : Option (List UInt8) :=
(if a0m.isNone = true then some ([] : List UInt8)
else
(if a1i < 0 then some ([] : List UInt8)
else
((a0m).bind fun c3 =>
(if (c3.length : Int) ≤ a1i then some ([] : List UInt8)
else
((idx c3 a1i).bind fun c5 =>
((slices_Clone_sbytebyte c5).bind fun r7 => some r7))))))
set_option maxRecDepth 100000 in
set_option maxHeartbeats 8000000 in
theorem matrix_Row_calls (a0m : Option (List (List UInt8))) (a1i : Int) (p0 : Value) (r : List UInt8) (w0 : World) (hp0 : Mx w0 [] p0 a0m) (H : matrix_Row a0m a1i = some r) :
    Calls Try.prog 20 [p0, (i64 a1i)].toArray w0 (fun e w' => ∃ u0 : Value, e = .returned u0 ∧ Ext w0 w' ∧ Nw w0 u0 ∧ OwK (Sc u8) w' [] 5 u0 r) := by
  have hE : Ext w0 w0 := Ext.refl w0; unfold matrix_Row at H; refine calls_W (n := 28) Try.func20 rfl rfl rfl ?_; refine W_seq ?_; refine W_reg (by kernel_rfl) ?_; refine wla rfl rfl (q_assign (v := (.slice none 0 0)) rfl rfl) ?_; refine wl_nil ?_; refine W_th ?_; refine W_seq ?_; refine W_seq ?_; refine W_reg (by kernel_rfl) ?_; refine wla rfl rfl (q_move (v := p0) rfl rfl) ?_; refine wla rfl rfl (q_eqM rfl rfl rfl rfl (hp0.lift (Lift.ext hE _))) ?_; refine wlb rfl rfl (q_move (v := (.bool a0m.isNone)) rfl rfl) (fun hb1 => ?_) (fun hb1 => ?_)
  · replace H := (if_pos hb1).symm.trans H; refine wlk rfl rfl ?_; refine wlk rfl rfl ?_; refine wla rfl rfl (q_pick_t (v := (.bool true)) rfl rfl rfl) ?_; refine wla rfl rfl (q_move (v := (.bool true)) rfl rfl) ?_; refine wlk rfl rfl ?_; refine wlk rfl rfl ?_; refine wlk rfl rfl ?_; refine wlk rfl rfl ?_; refine wlk rfl rfl ?_; refine wlk rfl rfl ?_; refine wlk rfl rfl ?_; refine wla rfl rfl (q_pick_t (v := (.bool true)) rfl rfl rfl) ?_; refine wl_nil ?_; refine W_th ?_; refine W_cond true rfl rfl (fun _ => ?_) (fun hb => by cases hb); refine W_seq ?_; refine W_reg (by kernel_rfl) ?_; refine wla rfl rfl (q_assign (v := (.slice none 0 0)) rfl rfl) ?_; refine wl_nil ?_; refine W_th ?_; refine W_ret ?_; refine th_r ?_; obtain rfl := osi H; refine rt1 (.slice none 0 0) rfl rfl rfl rfl ?_; exact ⟨(.slice none 0 0), rfl, hE, Nw.nil _, (OwK.nil _ _ _ _)⟩
  replace H := (if_neg (ne_true_of_eq_false hb1)).symm.trans H; refine wla rfl rfl (q_move (v := (i64 a1i)) rfl rfl) ?_; refine wla rfl rfl (q_ltI rfl rfl rfl) ?_; refine wla rfl rfl (q_pick_f (v := (.bool ((decide (a1i < 0))))) rfl rfl rfl) ?_; refine wlb rfl rfl (q_move (v := (.bool ((decide (a1i < 0))))) rfl rfl) (fun hb2 => ?_) (fun hb2 => ?_)
  · replace H := (if_pos (of_decide_eq_true hb2)).symm.trans H; refine wlk rfl rfl ?_; refine wlk rfl rfl ?_; refine wlk rfl rfl ?_; refine wlk rfl rfl ?_; refine wlk rfl rfl ?_; refine wlk rfl rfl ?_; refine wlk rfl rfl ?_; refine wla rfl rfl (q_pick_t (v := (.bool true)) rfl rfl rfl) ?_; refine wl_nil ?_; refine W_th ?_; refine W_cond true rfl rfl (fun _ => ?_) (fun hb => by cases hb); refine W_seq ?_; refine W_reg (by kernel_rfl) ?_; refine wla rfl rfl (q_assign (v := (.slice none 0 0)) rfl rfl) ?_; refine wl_nil ?_; refine W_th ?_; refine W_ret ?_; refine th_r ?_; obtain rfl := osi H; refine rt1 (.slice none 0 0) rfl rfl rfl rfl ?_; exact ⟨(.slice none 0 0), rfl, hE, Nw.nil _, (OwK.nil _ _ _ _)⟩
  replace H := (if_neg (of_decide_eq_false hb2)).symm.trans H; refine wla rfl rfl (q_move (v := (i64 a1i)) rfl rfl) ?_; refine wla rfl rfl (q_move (v := p0) rfl rfl) ?_; obtain ⟨c3, hc3, H⟩ := bsi H; obtain ⟨g3, uv3, hv3, hB3, hR3⟩ := MxT.some hp0 hc3; refine wla rfl rfl (q_nilP (g := g3) (m := 0) rfl (Eq.trans rfl hv3)) ?_; refine wla rfl rfl (q_fldP rfl fieldAtM rfl) ?_; refine wlq rfl rfl (q_loadB (u := uv3) rfl Try.isAgg27 rfl (hB3.ext hE) rfl) ?_; refine wla rfl rfl (q_len rfl T27.sl rfl (hR3.lift (Lift.ext hE _))) ?_; refine wla rfl rfl (q_geI rfl rfl rfl) ?_; refine wla rfl rfl (q_pick_f (v := (.bool ((decide ((c3.length : Int) ≤ a1i))))) rfl rfl rfl) ?_; refine wl_nil ?_; refine W_th ?_; refine W_cond _ rfl rfl (fun hb4 => ?_) (fun hb4 => ?_)
  · replace H := (if_pos (of_decide_eq_true hb4)).symm.trans H; refine W_seq ?_; refine W_reg (by kernel_rfl) ?_; refine wla rfl rfl (q_assign (v := (.slice none 0 0)) rfl rfl) ?_; refine wl_nil ?_; refine W_th ?_; refine W_ret ?_; refine th_r ?_; obtain rfl := osi H; refine rt1 (.slice none 0 0) rfl rfl rfl rfl ?_; exact ⟨(.slice none 0 0), rfl, hE, Nw.nil _, (OwK.nil _ _ _ _)⟩
  replace H := (if_neg (of_decide_eq_false hb4)).symm.trans H; refine W_skip ?_; refine W_th ?_; refine W_seq ?_; refine W_reg (by kernel_rfl) ?_; refine wla rfl rfl (q_move (v := p0) rfl rfl) ?_; refine wla rfl rfl (q_nilP (g := g3) (m := 0) rfl (Eq.trans rfl hv3)) ?_; refine wla rfl rfl (q_fldP rfl fieldAtM rfl) ?_; refine wlq rfl rfl (q_loadB (u := uv3) rfl Try.isAgg27 rfl (hB3.ext hE) rfl) ?_; refine wla rfl rfl (q_move (v := (i64 a1i)) rfl rfl) ?_; obtain ⟨c5, hc5, H⟩ := bsi H; refine wla rfl rfl (q_adr rfl T27 rfl rfl (hR3.lift (Lift.ext hE _)) hc5) ?_; refine wlq_load rfl rfl rfl T27 rfl hR3 hc5 hE (fun v6 ha6 => ?_); obtain ⟨r7, hr7, H⟩ := bsi H; refine wls rfl rfl (stp_call (vs := [v6]) Try.func33 rfl rfl rfl (ar1 rfl) (slices_Clone_sbytebyte_calls c5 v6 r7 _ (ha6.lift (Lift.ext hE _)) hr7) ?_); rintro _ w7 ⟨v7, rfl, x7, n7_0, o7_0⟩; refine ⟨_, rfl, ?_⟩; have o7 : OwK (Sc u8) w7 (v7 :: []) 5 v7 r7 := OwK.scal o7_0 _; have n9 := Nw.ext hE n7_0; have e8 := hE.trans x7; refine wla rfl rfl (q_assign (v := v7) rfl rfl) ?_; refine wl_nil ?_; refine W_th ?_; refine W_ret ?_; obtain rfl := osi H; refine rt1 v7 rfl rfl rfl rfl ?_; exact ⟨v7, rfl, e8, n9, (o7.weak (Sc.stab _) (fun _ _ => trivial))⟩
noncomputable def matrix_Vandermonde (a0f : Bool) (a1xs : List UInt8) (a2columns : Int) : Option (Option (List (List UInt8)) × Int) :=
(if (!a0f) = true then some ((none : Option (List (List UInt8))), 1)
else
((matrix_size (a1xs.length : Int)).bind fun r2 =>
(if (!r2) = true then some ((none : Option (List (List UInt8))), 2)
else
((matrix_size a2columns).bind fun r5 =>
(if (!r5) = true then some ((none : Option (List (List UInt8))), 2)
else
((matrix_blank (a1xs.length : Int) a2columns).bind fun r8 =>
((iterC (fun s12 : List (List UInt8) × Int =>
(if s12.2 < (a1xs.length : Int) then
((idx a1xs s12.2).bind fun c15 =>
((iterC (fun s16 : List (List UInt8) × Int =>
(if s16.2 < a2columns then
((idx s16.1 s12.2).bind fun c21 =>
((field_Pow a0f c15 s16.2).bind fun r23 =>
((idx c21 s16.2).bind fun c25 => some (.inl ((s16.1.set (s12.2 : Int).toNat (c21.set (s16.2 : Int).toNat r23)), (wI (s16.2 + 1)))))))
else some (.inr s16.1))) (s12.1, 0)).bind fun x16 => some (.inl (x16, (wI (s12.2 + 1))))))
else some (.inr s12.1))) (r8, 0)).bind fun x12 => some ((some x12), 0))))))))
set_option maxRecDepth 100000 in
set_option maxHeartbeats 8000000 in
theorem matrix_Vandermonde_calls (a0f : Bool) (a1xs : List UInt8) (a2columns : Int) (p0 : Value) (p1 : Value) (r : Option (List (List UInt8)) × Int) (w0 : World) (L0 : List Value) (hL0 : Old w0 L0) (hp0 : Fd w0 [] p0 a0f) (hp1 : By w0 [] p1 a1xs) (H : matrix_Vandermonde a0f a1xs a2columns = some r) :
    Calls Try.prog 19 [p0, p1, (i64 a2columns)].toArray w0 (fun e w' => ∃ u0 : Value, e = .returned (.tuple #[u0, (i64 r.2)]) ∧ Ext w0 w' ∧ Mx w' L0 u0 r.1) := by
  have hE : Ext w0 w0 := Ext.refl w0; unfold matrix_Vandermonde at H; refine calls_W (n := 56) Try.func19 rfl rfl rfl ?_; refine W_seq ?_; refine W_reg (by kernel_rfl) ?_; refine wla rfl rfl (q_assign (v := (.pointer none)) rfl rfl) ?_; refine wla rfl rfl (q_assign (v := (i64 0)) rfl rfl) ?_; refine wl_nil ?_; refine W_th ?_; refine W_seq ?_; refine W_block ?_; refine W_seq ?_; refine W_reg (by kernel_rfl) ?_; refine wla rfl rfl (q_move (v := p0) rfl rfl) ?_; refine wla rfl rfl (q_eqF rfl rfl rfl rfl (hp0.lift (Lift.ext hE _))) ?_; refine wla rfl rfl (q_assign (v := (.bool ((!a0f)))) rfl rfl) ?_; refine wl_nil ?_; refine W_th ?_; refine W_cond _ rfl rfl (fun hb1 => ?_) (fun hb1 => ?_)
  · replace H := (if_pos hb1).symm.trans H; refine W_seq ?_; refine W_reg (by kernel_rfl) ?_; refine wla rfl rfl (q_assign (v := (.pointer none)) rfl rfl) ?_; refine wla rfl rfl (q_assign (v := (i64 1)) rfl rfl) ?_; refine wl_nil ?_; refine W_th ?_; refine W_ret ?_; refine bk_r ?_; refine th_r ?_; obtain rfl := osi H; refine rt2 (.pointer none) (i64 1) rfl rfl rfl rfl rfl rfl ?_; exact ⟨(.pointer none), rfl, hE, (Mx.nil _ _)⟩
  replace H := (if_neg (ne_true_of_eq_false hb1)).symm.trans H; refine W_seq ?_; refine W_reg (by kernel_rfl) ?_; refine wla rfl rfl (q_move (v := p1) rfl rfl) ?_; refine wla rfl rfl (q_len rfl T22.sl rfl (hp1.lift (Lift.ext hE _))) ?_; obtain ⟨r2, hr2, H⟩ := bsi H; refine wls rfl rfl (stp_call (vs := [(i64 ((a1xs.length : Int)))]) Try.func22 rfl rfl rfl (ar1 rfl) (matrix_size_calls (a1xs.length : Int)  r2 _  hr2) ?_); rintro _ w2 ⟨rfl, x2⟩; refine ⟨_, rfl, ?_⟩; have e3 := hE.trans x2; refine wla rfl rfl (q_not rfl rfl) ?_; refine wlb rfl rfl (q_move (v := (.bool ((!r2)))) rfl rfl) (fun hb4 => ?_) (fun hb4 => ?_)
  · replace H := (if_pos hb4).symm.trans H; refine wlk rfl rfl ?_; refine wlk rfl rfl ?_; refine wlk rfl rfl ?_; refine wla rfl rfl (q_pick_t (v := (.bool true)) rfl rfl rfl) ?_; refine wla rfl rfl (q_assign (v := (.bool true)) rfl rfl) ?_; refine wl_nil ?_; refine W_th ?_; refine W_cond true rfl rfl (fun _ => ?_) (fun hb => by cases hb); refine W_seq ?_; refine W_reg (by kernel_rfl) ?_; refine wla rfl rfl (q_assign (v := (.pointer none)) rfl rfl) ?_; refine wla rfl rfl (q_assign (v := (i64 2)) rfl rfl) ?_; refine wl_nil ?_; refine W_th ?_; refine W_ret ?_; refine bk_r ?_; refine th_r ?_; obtain rfl := osi H; refine rt2 (.pointer none) (i64 2) rfl rfl rfl rfl rfl rfl ?_; exact ⟨(.pointer none), rfl, e3, (Mx.nil _ _)⟩
  replace H := (if_neg (ne_true_of_eq_false hb4)).symm.trans H; refine wla rfl rfl (q_move (v := (i64 a2columns)) rfl rfl) ?_; obtain ⟨r5, hr5, H⟩ := bsi H; refine wls rfl rfl (stp_call (vs := [(i64 a2columns)]) Try.func22 rfl rfl rfl (ar1 rfl) (matrix_size_calls a2columns  r5 _  hr5) ?_); rintro _ w5 ⟨rfl, x5⟩; refine ⟨_, rfl, ?_⟩; have e6 := e3.trans x5; refine wla rfl rfl (q_not rfl rfl) ?_; refine wla rfl rfl (q_pick_f (v := (.bool ((!r5)))) rfl rfl rfl) ?_; refine wla rfl rfl (q_assign (v := (.bool ((!r5)))) rfl rfl) ?_; refine wl_nil ?_; refine W_th ?_; refine W_cond _ rfl rfl (fun hb7 => ?_) (fun hb7 => ?_)
  · replace H := (if_pos hb7).symm.trans H; refine W_seq ?_; refine W_reg (by kernel_rfl) ?_; refine wla rfl rfl (q_assign (v := (.pointer none)) rfl rfl) ?_; refine wla rfl rfl (q_assign (v := (i64 2)) rfl rfl) ?_; refine wl_nil ?_; refine W_th ?_; refine W_ret ?_; refine bk_r ?_; refine th_r ?_; obtain rfl := osi H; refine rt2 (.pointer none) (i64 2) rfl rfl rfl rfl rfl rfl ?_; exact ⟨(.pointer none), rfl, e6, (Mx.nil _ _)⟩
  replace H := (if_neg (ne_true_of_eq_false hb7)).symm.trans H; refine W_skip ?_; refine bk_n ?_; refine W_th ?_; refine W_seq ?_; refine W_reg (by kernel_rfl) ?_; refine wla rfl rfl (q_move (v := p1) rfl rfl) ?_; refine wla rfl rfl (q_len rfl T22.sl rfl (hp1.lift (Lift.ext e6 _))) ?_; refine wla rfl rfl (q_move (v := (i64 a2columns)) rfl rfl) ?_; obtain ⟨r8, hr8, H⟩ := bsi H; refine wls rfl rfl (stp_call (vs := [(i64 ((a1xs.length : Int))), (i64 a2columns)]) Try.func23 rfl rfl rfl (ar2 rfl rfl) (matrix_blank_calls (a1xs.length : Int) a2columns  r8 _  hr8) ?_); rintro _ w8 ⟨v8, rfl, x8, i8_0⟩; refine ⟨_, rfl, ?_⟩; obtain ⟨g8, uv8, G8, rfl, nB8, hB8, nG8, hD8, hq8⟩ := i8_0; have n9 := Nw.ext e6 nB8; have n10 := Nw.ext e6 nG8; have e11 := e6.trans x8; refine wla rfl rfl (q_assign (v := (bp g8)) rfl rfl) ?_; refine wl_nil ?_; refine W_th ?_; refine W_seq ?_; refine W_seq ?_; refine W_reg (by kernel_rfl) ?_; refine wla rfl rfl (q_move (v := p1) rfl rfl) ?_; refine wla rfl rfl (q_len rfl T22.sl rfl (hp1.lift (Lift.ext e11 _))) ?_; refine wla rfl rfl (q_move (v := (i64 0)) rfl rfl) ?_; refine wl_nil ?_; refine W_th ?_; obtain ⟨x12, G12, H⟩ := bsi H; refine W_mid (fun f w => ∃ Gbbpg8_33 : Value, f 8 = (bp g8) ∧ f 56 = undef ∧ Ext w0 w ∧ OwD w 22 5 Gbbpg8_33 uv8 x12 ∧ Nw w0 Gbbpg8_33 ∧ Blk w g8 56 #[uv8] ∧ Nw w0 (bp g8) ∧ Nq Gbbpg8_33 (bp g8)) ?_ ?_
  · refine W_block ?_; refine W_loop (fun s12 f w => ∃ Gbbpg8_31 : Value, f 0 = p0 ∧ f 2 = (i64 a2columns) ∧ f 8 = (bp g8) ∧ f 29 = p1 ∧ f 30 = (i64 ((a1xs.length : Int))) ∧ f 31 = (i64 s12.2) ∧ f 56 = undef ∧ Ext w0 w ∧ OwD w 22 5 Gbbpg8_31 uv8 s12.1 ∧ Nw w0 Gbbpg8_31 ∧ Blk w g8 56 #[uv8] ∧ Nw w0 (bp g8) ∧ Nq Gbbpg8_31 (bp g8)) G12 ?_ ?_
    · exact ⟨G8, rfl, rfl, rfl, rfl, rfl, rfl, rfl, e11, hD8, n10, hB8, n9, hq8.symm⟩
    rintro s12 _ _ w13 ⟨Gbbpg8_13, s0_13, s2_13, s8_13, s29_13, s30_13, s31_13, s56_13, hE13, o0_13, n0_13, o1_13, n1_13, q0_1_13⟩ H12 hr12; refine W_seq ?_; refine W_reg (by kernel_rfl) ?_; refine wla rfl rfl (q_ltI rfl s31_13 s30_13) ?_; refine wl_nil ?_; refine W_th ?_; refine W_seq ?_; refine W_cond _ rfl rfl (fun hb14 => ?_) (fun hb14 => ?_)
    · replace H12 := (if_pos (of_decide_eq_true hb14)).symm.trans H12; refine W_skip ?_; refine W_th ?_; refine W_seq ?_; refine W_block ?_; refine W_seq ?_; refine W_reg (by kernel_rfl) ?_; refine wla rfl rfl (q_move (v := (i64 s12.2)) rfl s31_13) ?_; obtain ⟨c15, hc15, H12⟩ := bsi H12; refine wla rfl rfl (q_adr rfl T22 s29_13 s31_13 (hp1.lift (Lift.ext hE13 _)) hc15) ?_; refine wlq rfl rfl (q_loadS rfl T22 rfl (hp1.lift (Lift.ext hE13 _)) hc15) ?_; refine wla rfl rfl (q_assign (v := (i64 s12.2)) rfl rfl) ?_; refine wla rfl rfl (q_assign (v := (u8 c15)) rfl rfl) ?_; refine wl_nil ?_; refine W_th ?_; refine W_seq ?_; refine W_reg (by kernel_rfl) ?_; refine wla rfl rfl (q_move (v := (i64 a2columns)) rfl s2_13) ?_; refine wla rfl rfl (q_move (v := (i64 0)) rfl rfl) ?_; refine wl_nil ?_; refine W_th ?_; obtain ⟨x16, G16, H12⟩ := bsi H12; refine W_mid (fun f w => ∃ Gbbpg8_30 : Value, f 0 = p0 ∧ f 2 = (i64 a2columns) ∧ f 8 = (bp g8) ∧ f 29 = p1 ∧ f 30 = (i64 ((a1xs.length : Int))) ∧ f 31 = (i64 s12.2) ∧ f 56 = undef ∧ Ext w0 w ∧ OwD w 22 5 Gbbpg8_30 uv8 x16 ∧ Nw w0 Gbbpg8_30 ∧ Blk w g8 56 #[uv8] ∧ Nw w0 (bp g8) ∧ Nq Gbbpg8_30 (bp g8)) ?_ ?_
      · refine W_block ?_; refine W_loop (fun s16 f w => ∃ Gbbpg8_28 : Value, f 0 = p0 ∧ f 2 = (i64 a2columns) ∧ f 8 = (bp g8) ∧ f 9 = (i64 s12.2) ∧ f 10 = (u8 c15) ∧ f 29 = p1 ∧ f 30 = (i64 ((a1xs.length : Int))) ∧ f 31 = (i64 s12.2) ∧ f 36 = (i64 a2columns) ∧ f 37 = (i64 s16.2) ∧ f 56 = undef ∧ Ext w0 w ∧ OwD w 22 5 Gbbpg8_28 uv8 s16.1 ∧ Nw w0 Gbbpg8_28 ∧ Blk w g8 56 #[uv8] ∧ Nw w0 (bp g8) ∧ Nq Gbbpg8_28 (bp g8)) G16 ?_ ?_
        · exact ⟨Gbbpg8_13, s0_13, s2_13, s8_13, rfl, rfl, s29_13, s30_13, s31_13, rfl, rfl, s56_13, hE13, o0_13, n0_13, o1_13, n1_13, q0_1_13⟩
        rintro s16 _ _ w17 ⟨Gbbpg8_17, s0_17, s2_17, s8_17, s9_17, s10_17, s29_17, s30_17, s31_17, s36_17, s37_17, s56_17, hE17, o0_17, n0_17, o1_17, n1_17, q0_1_17⟩ H16 hr16; refine W_seq ?_; refine W_reg (by kernel_rfl) ?_; refine wla rfl rfl (q_ltI rfl s37_17 s36_17) ?_; refine wl_nil ?_; refine W_th ?_; refine W_seq ?_; refine W_cond _ rfl rfl (fun hb18 => ?_) (fun hb18 => ?_)
        · replace H16 := (if_pos (of_decide_eq_true hb18)).symm.trans H16; refine W_skip ?_; refine W_th ?_; refine W_seq ?_; refine W_block ?_; refine W_seq ?_; refine W_reg (by kernel_rfl) ?_; refine wla rfl rfl (q_move (v := (i64 s16.2)) rfl s37_17) ?_; refine wla rfl rfl (q_assign (v := (i64 s16.2)) rfl rfl) ?_; refine wl_nil ?_; refine W_th ?_; refine W_draw [3, 6] [(0, 0), (1, 0), (2, 0), (3, 1), (4, 0), (5, 0), (6, 1), (7, 0), (8, 0), (9, 0), (10, 0), (11, 2), (12, 0), (13, 2)] mixed (by kernel_rfl) (by kernel_rfl) (by kernel_rfl) (by kernel_rfl) ?_; have x19 := Ext.drew w17; replace o0_17 := o0_17.ext x19; replace o1_17 := o1_17.ext x19; have e20 := hE17.trans x19; refine wsa rfl rfl rfl (q_move (v := (bp g8)) rfl s8_17) ?_; refine wsa rfl rfl rfl (q_nilP rfl rfl) ?_; refine wsa rfl rfl rfl (q_fldP rfl fieldAtM rfl) ?_; refine wsq rfl rfl rfl (q_loadB (u := uv8) rfl Try.isAgg27 rfl o1_17 rfl) ?_; refine wsa rfl rfl rfl (q_move (v := (i64 s12.2)) rfl s9_17) ?_; obtain ⟨c21, hc21, H16⟩ := bsi H16; refine wsa rfl rfl rfl (q_adr rfl T27 rfl rfl o0_17.rd hc21) ?_; refine wsq_loadD rfl rfl rfl rfl T27 rfl o0_17 hc21 (fun v22 hD22 => ?_); refine wsa rfl rfl rfl (q_move (v := (i64 s16.2)) rfl rfl) ?_; refine wsa rfl rfl rfl (q_move (v := p0) rfl s0_17) ?_; refine wsa rfl rfl rfl (q_move (v := (u8 c15)) rfl s10_17) ?_; refine wsa rfl rfl rfl (q_move (v := (i64 s16.2)) rfl rfl) ?_; obtain ⟨r23, hr23, H16⟩ := bsi H16; refine wss rfl rfl rfl (stp_call (vs := [p0, (u8 c15), (i64 s16.2)]) Try.func32 rfl rfl rfl (ar3 rfl rfl rfl) (field_Pow_calls a0f c15 s16.2 p0 r23 _ (hp0.lift (Lift.ext e20 _)) hr23) ?_); rintro _ w23 ⟨rfl, x23⟩; refine ⟨_, rfl, x23, ?_⟩; replace o0_17 := o0_17.ext x23; replace o1_17 := o1_17.ext x23; have e24 := e20.trans x23; obtain ⟨c25, hc25, H16⟩ := bsi H16; refine wsa rfl rfl rfl (q_adr rfl T22 rfl rfl (OwD.rowrd o0_17 hD22 hc21) hc25) ?_; refine wsn rfl (by kernel_rfl) rfl rfl (stp_storeD [] ((bp g8) :: L0) rfl T22 rfl rfl o0_17 hD22 hc21 hc25 ?_); intro w26 o26 g26 l26; replace o1_17 := o1_17.other g26 q0_1_17.symm; have e27 := e24.grown g26 n0_17; refine ws_nil ?_; refine bk_n ?_; refine W_th ?_; refine W_reg (by kernel_rfl) ?_; refine wla rfl rfl (q_addI rfl s37_17 rfl) ?_; refine wla rfl rfl (q_move (v := (i64 ((wI (s16.2 + 1))))) rfl rfl) ?_; refine wl_nil ?_; obtain rfl := osi H16; exact ⟨_, rfl, Gbbpg8_17, s0_17, s2_17, s8_17, s9_17, s10_17, s29_17, s30_17, s31_17, s36_17, rfl, s56_17, e27, o26, n0_17, o1_17, n1_17, q0_1_17⟩
        replace H16 := (if_neg (of_decide_eq_false hb18)).symm.trans H16; refine W_exit ?_; refine th_x ?_; obtain rfl := osi H16; obtain rfl := hr16 _ rfl; refine th_x ?_; refine bk_x ?_; exact ⟨Gbbpg8_17, s0_17, s2_17, s8_17, s29_17, s30_17, s31_17, s56_17, hE17, o0_17, n0_17, o1_17, n1_17, q0_1_17⟩
      rintro _ w29 ⟨Gbbpg8_29, s0_29, s2_29, s8_29, s29_29, s30_29, s31_29, s56_29, hE29, o0_29, n0_29, o1_29, n1_29, q0_1_29⟩; refine bk_n ?_; refine W_th ?_; refine W_reg (by kernel_rfl) ?_; refine wla rfl rfl (q_addI rfl s31_29 rfl) ?_; refine wla rfl rfl (q_move (v := (i64 ((wI (s12.2 + 1))))) rfl rfl) ?_; refine wl_nil ?_; obtain rfl := osi H12; exact ⟨_, rfl, Gbbpg8_29, s0_29, s2_29, s8_29, s29_29, s30_29, rfl, s56_29, hE29, o0_29, n0_29, o1_29, n1_29, q0_1_29⟩
    replace H12 := (if_neg (of_decide_eq_false hb14)).symm.trans H12; refine W_exit ?_; refine th_x ?_; obtain rfl := osi H12; obtain rfl := hr12 _ rfl; refine th_x ?_; refine bk_x ?_; exact ⟨Gbbpg8_13, s8_13, s56_13, hE13, o0_13, n0_13, o1_13, n1_13, q0_1_13⟩
  rintro _ w32 ⟨Gbbpg8_32, s8_32, s56_32, hE32, o0_32, n0_32, o1_32, n1_32, q0_1_32⟩; refine W_th ?_; refine W_seq ?_; refine W_reg (by kernel_rfl) ?_; refine wla rfl rfl (q_move (v := (bp g8)) rfl s8_32) ?_; refine wla rfl rfl (q_assign (v := (bp g8)) rfl rfl) ?_; refine wla rfl rfl (q_assign (v := (i64 0)) rfl rfl) ?_; refine wl_nil ?_; refine W_th ?_; refine W_ret ?_; obtain rfl := osi H; refine rt2 (bp g8) (i64 0) rfl rfl rfl rfl rfl s56_32 ?_; exact ⟨(bp g8), rfl, hE32, (Mx.mk o1_32 (hL0 _ (n1_32 _ (hs_bp' _))) (o0_32.rw L0 (fun k hk => hL0 k (n0_32 k hk))))⟩
end Gk

/- Pure loops: how they are shown to end, and with what. Numbers of Go as plain numbers. No condition. -/
namespace Gk
theorem iterC_inv {S X : Type} {body : S → Option (S ⊕ X)} (I : S → Prop) (m : S → Nat) (post : X → Prop)
    (step : ∀ s, I s → (∃ s', body s = some (.inl s') ∧ I s' ∧ m s' < m s) ∨ ∃ x, body s = some (.inr x) ∧ post x) (s : S) (h : I s) : ∃ x, iterC body s = some x ∧ post x := by
  generalize hk : m s = k
  induction k using Nat.strongRecOn generalizing s with
  | ind k ih =>
    rw [iterC_step]
    rcases step s h with ⟨s', hb, hI, hm⟩ | ⟨x, hb, hp⟩
    · obtain ⟨x, hx, hp⟩ := ih (m s') (by omega) s' hI rfl
      exact ⟨x, by rw [hb]; simpa using hx, hp⟩
    · exact ⟨x, by rw [hb]; rfl, hp⟩
theorem bind_of {α β : Type} {o : Option α} {g : α → Option β} {x : α} {r : Option β} (h : o = some x) (h2 : g x = r) : o.bind g = r := by rw [h]; exact h2
theorem iterC_up {σ X : Type} {body : σ × Int → Option ((σ × Int) ⊕ X)} {s0 : σ} (I : Nat → σ → Prop) (n : Nat) (post : X → Prop) (h0 : I 0 s0)
    (hstep : ∀ (i : Nat) (s : σ), i < n → I i s → ∃ s', body (s, (i : Int)) = some (.inl (s', ((i + 1 : Nat) : Int))) ∧ I (i + 1) s')
    (hend : ∀ s, I n s → ∃ x, body (s, (n : Int)) = some (.inr x) ∧ post x) : ∃ x, iterC body (s0, 0) = some x ∧ post x := by
  refine iterC_inv (fun s => ∃ i : Nat, i ≤ n ∧ s.2 = (i : Int) ∧ I i s.1) (fun s => n - s.2.toNat) post ?_ (s0, 0) ⟨0, Nat.zero_le _, rfl, h0⟩
  rintro ⟨s, _⟩ ⟨i, hi, rfl, hI⟩
  by_cases h : i < n
  · obtain ⟨s', hb, hI'⟩ := hstep i s h hI
    exact .inl ⟨_, hb, ⟨i + 1, h, rfl, hI'⟩, by simp only [Int.toNat_natCast]; omega⟩
  · obtain rfl : i = n := by omega
    exact .inr (hend s hI)
theorem iterC_from {σ X : Type} {body : σ × Int → Option ((σ × Int) ⊕ X)} {s0 : σ} (I : Nat → σ → Prop) (k0 n : Nat) (hk : k0 ≤ n) (post : X → Prop) (h0 : I k0 s0)
    (hstep : ∀ (i : Nat) (s : σ), k0 ≤ i → i < n → I i s → ∃ s', body (s, (i : Int)) = some (.inl (s', ((i + 1 : Nat) : Int))) ∧ I (i + 1) s')
    (hend : ∀ s, I n s → ∃ x, body (s, (n : Int)) = some (.inr x) ∧ post x) : ∃ x, iterC body (s0, (k0 : Int)) = some x ∧ post x := by
  refine iterC_inv (fun s => ∃ i : Nat, k0 ≤ i ∧ i ≤ n ∧ s.2 = (i : Int) ∧ I i s.1) (fun s => n - s.2.toNat) post ?_ (s0, (k0 : Int)) ⟨k0, Nat.le_refl _, hk, rfl, h0⟩
  rintro ⟨s, _⟩ ⟨i, hki, hi, rfl, hI⟩
  by_cases h : i < n
  · obtain ⟨s', hb, hI'⟩ := hstep i s hki h hI
    exact .inl ⟨_, hb, ⟨i + 1, by omega, h, rfl, hI'⟩, by simp only [Int.toNat_natCast]; omega⟩
  · obtain rfl : i = n := by omega
    exact .inr (hend s hI)
theorem iterC_range {S X : Type} {body : S → Option (S ⊕ X)} (s : Nat → S) (k : Nat) {x : X} (hs : ∀ i, i < k → body (s i) = some (.inl (s (i + 1)))) (he : body (s k) = some (.inr x)) : iterC body (s 0) = some x := by
  have : ∀ j, j ≤ k → iterC body (s (k - j)) = some x := by
    intro j
    induction j with
    | zero => intro _; rw [iterC_step, Nat.sub_zero, he]; rfl
    | succ j ih =>
      intro hj
      rw [iterC_step, hs (k - (j + 1)) (by omega)]
      have e : k - (j + 1) + 1 = k - j := by omega
      rw [e]; exact ih (by omega)
  have h := this k (Nat.le_refl _)
  rwa [Nat.sub_self] at h
theorem iterC_count {S X : Type} {body : S → Option (S ⊕ X)} {s0 : S} (s : Nat → S) (k : Nat) (x : X) (h0 : s0 = s 0) (hs : ∀ i, i < k → body (s i) = some (.inl (s (i + 1)))) (he : body (s k) = some (.inr x)) : iterC body s0 = some x := by
  rw [h0]; exact iterC_range s k hs he
theorem wI_nat {n : Nat} (h : n < 9223372036854775808) : wI (n : Int) = n := wI_of (by omega) (by omega)
theorem cnt_nat (n : Nat) : cnt (n : Int) = some n := by simp [cnt]
theorem remI_nat (a b : Nat) (h : 0 < b) : remI (a : Int) (b : Int) = some ((a % b : Nat) : Int) := by
  unfold remI; rw [if_neg (by omega)]; rw [← Int.ofNat_tmod]
theorem shrI_nat (a n : Nat) (h : n ≤ 64) : shrI (a : Int) n = ((a >>> n : Nat) : Int) := by
  unfold shrI; rw [Nat.min_eq_left h, Nat.shiftRight_eq_div_pow]
  have h2 : (2 ^ n : Int) = ((2 ^ n : Nat) : Int) := by norm_cast
  rw [h2, Int.fdiv_eq_ediv_of_nonneg _ (Int.natCast_nonneg _)]
  norm_cast
theorem shlI_nat (a n : Nat) (h : n ≤ 64) (hb : a * 2 ^ n < 9223372036854775808) : shlI (a : Int) n = ((a <<< n : Nat) : Int) := by
  unfold shlI; rw [Nat.min_eq_left h, Nat.shiftLeft_eq, ← wI_nat hb]
  norm_cast
theorem xorI_nat (a b : Nat) (ha : a < 9223372036854775808) (hb : b < 9223372036854775808) : xorI (a : Int) (b : Int) = ((a ^^^ b : Nat) : Int) := by
  unfold xorI
  have h : (BitVec.ofInt 64 (a : Int) ^^^ BitVec.ofInt 64 (b : Int)).toNat = a ^^^ b := by
    rw [BitVec.toNat_xor, BitVec.ofInt_natCast, BitVec.ofInt_natCast, BitVec.toNat_ofNat, BitVec.toNat_ofNat, Nat.mod_eq_of_lt (by omega), Nat.mod_eq_of_lt (by omega)]
  rw [h]
  exact wI_nat (Nat.xor_lt_two_pow (n := 63) ha hb)
end Gk

/- The field of 256 numbers, in plain Lean: what the program's and the document's product come to. No condition. -/
set_option linter.unusedSimpArgs false
namespace Gf
theorem bit_shr (b : UInt8) : (bit (Gk.shr8 b 1) 0 = bit b 1 ∧ bit (Gk.shr8 b 1) 1 = bit b 2 ∧ bit (Gk.shr8 b 1) 2 = bit b 3 ∧ bit (Gk.shr8 b 1) 3 = bit b 4) ∧
    bit (Gk.shr8 b 1) 4 = bit b 5 ∧ bit (Gk.shr8 b 1) 5 = bit b 6 ∧ bit (Gk.shr8 b 1) 6 = bit b 7 ∧ bit (Gk.shr8 b 1) 7 = false := by
  revert b; refine all8 ?_; decide +kernel
theorem bit_and (b : UInt8) : (b &&& 1 = 1) ↔ bit b 0 = true := by
  revert b; refine all8 ?_; decide +kernel
theorem mul_step (a b : UInt8) : mul a b = sel (bit b 0) a ^^^ mul (dbl a) (Gk.shr8 b 1) := by
  obtain ⟨⟨h0, h1, h2, h3⟩, h4, h5, h6, h7⟩ := bit_shr b
  unfold mul
  rw [h0, h1, h2, h3, h4, h5, h6, h7]
  simp [dblN, sel, UInt8.xor_assoc]
def cl (a b : Nat) : Nat → Nat
  | 0 => 0
  | k + 1 => if b.testBit k then cl a b k ^^^ (a <<< k) else cl a b k
def rd : Nat → Nat → Nat
  | 0, p => p
  | j + 1, p => rd j (if p.testBit (8 + j) then p ^^^ (283 <<< j) else p)
def rds (p : Nat) : Nat → Nat
  | 0 => p
  | i + 1 => if (rds p i).testBit (14 - i) then rds p i ^^^ (283 <<< (6 - i)) else rds p i
theorem rd_xor (j : Nat) : ∀ p q, rd j (p ^^^ q) = rd j p ^^^ rd j q := by
  induction j with
  | zero => intro p q; rfl
  | succ j ih =>
    intro p q
    have h : (if (p ^^^ q).testBit (8 + j) then (p ^^^ q) ^^^ (283 <<< j) else p ^^^ q) =
        (if p.testBit (8 + j) then p ^^^ (283 <<< j) else p) ^^^ (if q.testBit (8 + j) then q ^^^ (283 <<< j) else q) := by
      rw [Nat.testBit_xor]
      generalize 283 <<< j = c
      cases p.testBit (8 + j) <;> cases q.testBit (8 + j) <;> simp
      · exact Nat.xor_assoc p q c
      · rw [Nat.xor_assoc, Nat.xor_comm q c, Nat.xor_assoc]
      · rw [Nat.xor_assoc p c, ← Nat.xor_assoc c q c, Nat.xor_comm c q, Nat.xor_assoc q c c, Nat.xor_self, Nat.xor_zero]
    simp only [rd, h, ih]
theorem rd_sel (c : Bool) (x a : Nat) (k : Nat) : rd 7 (if c then x ^^^ (a <<< k) else x) = rd 7 x ^^^ (if c then rd 7 (a <<< k) else 0) := by
  cases c
  · simp
  · simp [rd_xor]
theorem rd_dbl (a : UInt8) : (List.range 8).all (fun k => rd 7 (a.toNat <<< k) == (dblN k a).toNat) = true := by
  revert a; refine all8 ?_; decide +kernel
theorem rd_dbl' (a : UInt8) (k : Nat) (h : k < 8) : rd 7 (a.toNat <<< k) = (dblN k a).toNat := by
  have := List.all_eq_true.1 (rd_dbl a) k (List.mem_range.2 h)
  simpa using this
theorem rd0 : rd 7 0 = 0 := by decide
theorem sel_nat (c : Bool) (a : UInt8) : (sel c a).toNat = if c then a.toNat else 0 := by cases c <;> simp [sel]
theorem ref_eq (a b : UInt8) : rd 7 (cl a.toNat b.toNat 8) = (mul a b).toNat := by
  simp only [cl, rd_sel, rd0, mul, UInt8.toNat_xor, sel_nat, bit]
  rw [rd_dbl' a 0 (by decide), rd_dbl' a 1 (by decide), rd_dbl' a 2 (by decide), rd_dbl' a 3 (by decide), rd_dbl' a 4 (by decide), rd_dbl' a 5 (by decide), rd_dbl' a 6 (by decide), rd_dbl' a 7 (by decide)]
  simp only [Nat.zero_xor]
theorem cl_lt (a b : Nat) (ha : a < 256) : ∀ k, k ≤ 8 → cl a b k < 32768 := by
  intro k
  induction k with
  | zero => intro _; simp [cl]
  | succ k ih =>
    intro hk
    have h1 := ih (by omega)
    have h2 : a <<< k < 32768 := by
      rw [Nat.shiftLeft_eq]
      have : 2 ^ k ≤ 2 ^ 7 := Nat.pow_le_pow_right (by decide) (by omega)
      calc a * 2 ^ k ≤ a * 2 ^ 7 := Nat.mul_le_mul_left _ this
        _ < 32768 := by omega
    simp only [cl]
    split
    · exact Nat.xor_lt_two_pow (n := 15) h1 h2
    · exact h1
end Gf
namespace Gk
open Gf
theorem double_eq (a : UInt8) : field_double a = some (dbl a) := by
  revert a
  refine all8 ?_
  unfold field_double
  decide +kernel
theorem ofInt_nat (a : UInt8) : UInt8.ofInt (a.toNat : Int) = a := by
  revert a; refine all8 ?_; decide +kernel
theorem Slow_loop (a b o : UInt8) : iterC (fun s1 : UInt8 × UInt8 × UInt8 =>
    (if s1.2.1 = (0 : UInt8) then some (.inr s1.2.2) else
    (if (s1.2.1 &&& (1 : UInt8)) = (1 : UInt8) then ((field_double s1.1).bind fun r5 => some (.inl (r5, (shr8 s1.2.1 1), (s1.2.2 ^^^ s1.1))))
    else ((field_double s1.1).bind fun r7 => some (.inl (r7, (shr8 s1.2.1 1), s1.2.2)))))) (a, b, o) = some (o ^^^ mul a b) := by
  simp only [double_eq, Option.bind_some]
  generalize hk : b.toNat = k
  induction k using Nat.strongRecOn generalizing a b o with
  | ind k ih =>
    rw [iterC_step]
    by_cases h : b = 0
    · subst h; simp [mul_zero]
    · have hlt : (shr8 b 1).toNat < k := by
        have : b.toNat ≠ 0 := fun e => h (UInt8.toNat_inj.1 (by simpa using e))
        have := b.toNat_lt
        simp [shr8]; omega
      simp only [if_neg h]
      by_cases h1 : b &&& 1 = 1
      · simp only [if_pos h1, Option.bind_some]
        rw [ih _ hlt _ _ _ rfl, mul_step a b, (bit_and b).1 h1]
        simp [sel, UInt8.xor_assoc]
      · simp only [if_neg h1, Option.bind_some]
        have h0 : bit b 0 = false := by cases hb : bit b 0 with | false => rfl | true => exact absurd ((bit_and b).2 hb) h1
        rw [ih _ hlt _ _ _ rfl, mul_step a b, h0]
        simp [sel]
theorem Slow_eq (a b : UInt8) : field_Slow a b = some (mul a b) := by
  unfold field_Slow
  rw [Slow_loop]; simp
theorem shr_bit (b : UInt8) : (List.range 8).all (fun k => decide ((shr8 b k % 2 = 1) ↔ b.toNat.testBit k = true)) = true := by
  revert b; refine all8 ?_; decide +kernel
theorem shr_bit' (b : UInt8) (k : Nat) (h : k < 8) : (shr8 b k % 2 = 1) ↔ b.toNat.testBit k = true := by
  have := List.all_eq_true.1 (shr_bit b) k (List.mem_range.2 h)
  exact of_decide_eq_true this
theorem refMul_eq (a b : UInt8) : ref02_Mul a b = some (mul a b) := by
  unfold ref02_Mul
  have ha := a.toNat_lt
  refine bind_of (iterC_count (fun k => (((cl a.toNat b.toNat k : Nat) : Int), (k : Int))) 8 ((cl a.toNat b.toNat 8 : Nat) : Int) rfl ?_ ?_) ?_
  rotate_left 2
  · have hl := cl_lt a.toNat b.toNat ha 8 (Nat.le_refl _)
    have hr := ref_eq a b
    generalize cl a.toNat b.toNat 8 = p at hl hr ⊢
    -- seven steps
    have hP : ∀ i, rds p (i + 1) = if (rds p i).testBit (14 - i) then rds p i ^^^ (283 <<< (6 - i)) else rds p i := fun i => rfl
    have hlt : ∀ i, rds p i < 32768 := by
      intro i
      induction i with
      | zero => exact hl
      | succ i ih =>
        rw [hP]; split
        · refine Nat.xor_lt_two_pow (n := 15) ih ?_
          have : 2 ^ (6 - i) ≤ 2 ^ 6 := Nat.pow_le_pow_right (by decide) (by omega)
          rw [Nat.shiftLeft_eq]; omega
        · exact ih
    have h7 : rds p 7 = rd 7 p := rfl
    refine bind_of (iterC_count (fun i => (((rds p i : Nat) : Int), 14 - (i : Int))) 7 ((rds p 7 : Nat) : Int) (by simp [rds]) ?_ ?_) ?_
    rotate_left 2
    · simp only [h7, hr]
      rw [ofInt_nat]
    · intro i hi
      have e1 : (14 - (i : Int)) = ((14 - i : Nat) : Int) := by omega
      have e2 : wI (14 - (i : Int) - 8) = ((6 - i : Nat) : Int) := by rw [wI_of (by omega) (by omega)]; omega
      have e3 : wI (14 - (i : Int) - 1) = 14 - ((i + 1 : Nat) : Int) := by rw [wI_of (by omega) (by omega)]; omega
      simp only [e2, e3]
      rw [if_pos (by omega), e1, cnt_nat]
      simp only [Option.bind_some, cnt_nat]
      rw [shrI_nat _ _ (by omega)]
      have e4 := remI_nat (rds p i >>> (14 - i)) 2 (by decide)
      have e5 : ((2 : Nat) : Int) = 2 := rfl
      rw [e5] at e4
      rw [e4, hP]
      have e6 : (rds p i).testBit (14 - i) = decide (rds p i >>> (14 - i) % 2 = 1) := by rw [Nat.testBit_eq_decide_div_mod_eq, Nat.shiftRight_eq_div_pow]
      simp only [Option.bind_some, e6]
      by_cases hc : rds p i >>> (14 - i) % 2 = 1
      · rw [if_pos (by omega), if_pos (decide_eq_true hc)]
        have h2 : 2 ^ (6 - i) ≤ 2 ^ 6 := Nat.pow_le_pow_right (by decide) (by omega)
        have e7 := shlI_nat 283 (6 - i) (by omega) (by omega)
        have e8 : ((283 : Nat) : Int) = 283 := rfl
        rw [e8] at e7
        rw [e7, xorI_nat _ _ (by have := hlt i; omega) (by rw [Nat.shiftLeft_eq]; omega)]
      · rw [if_neg (by omega), if_neg (fun e => hc (of_decide_eq_true e))]
    · rw [if_neg (by omega)]
  · intro i hi
    rw [if_pos (by omega)]
    simp only [cnt_nat, Option.bind_some, cl]
    have e3 : wI ((i : Int) + 1) = ((i + 1 : Nat) : Int) := by rw [wI_of (by omega) (by omega)]; omega
    have h2 : 2 ^ i ≤ 2 ^ 7 := Nat.pow_le_pow_right (by decide) (by omega)
    have h3 : a.toNat * 2 ^ i ≤ a.toNat * 2 ^ 7 := Nat.mul_le_mul_left _ h2
    rw [e3]
    by_cases hc : b.toNat.testBit i = true
    · rw [if_pos ((shr_bit' b i hi).2 hc), if_pos hc, shlI_nat _ _ (by omega) (by omega), xorI_nat _ _ (by have := cl_lt a.toNat b.toNat ha i (by omega); omega) (by rw [Nat.shiftLeft_eq]; omega)]
    · rw [if_neg (fun e => hc ((shr_bit' b i hi).1 e)), if_neg hc]
  · rw [if_neg (by omega)]
end Gk

/- The field is made: its tables are those of Gf. No condition. -/
set_option linter.unusedVariables false
set_option linter.unusedSimpArgs false
namespace Gk
open Go Go.Proofs
def zF : Array Value := fieldCells (List.replicate 510 0) (List.replicate 256 0)
theorem zeroF : (Try.prog.info? 51).map (fun i => i.zero) = some (some (.agg zF)) := by kernel_rfl
theorem build0 (w : World) : (Instr.build 51 #[]).run Try.prog w = .ok (.agg zF) w := by
  have h := zeroF
  cases hi : Try.prog.info? 51 with
  | none => rw [hi] at h; cases h
  | some i =>
    rw [hi] at h
    have hz : i.zero = some (.agg zF) := by simpa using h
    have hzr : (zeroValue 51).run Try.prog w = .ok (.agg zF) w := by
      simp [zeroValue, typeInfo, hi, hz]
    simp [Instr.build, hzr, Value.cells, Instr.fill]
theorem fc_pw (pw : List UInt8) (lg : List Int) (k : Nat) (c : UInt8) (h : k < pw.length) : (fieldCells pw lg).setIfInBounds k (u8 c) = fieldCells (pw.set k c) lg := by
  simp [fieldCells, List.set_append, h, List.map_set]
theorem fc_lg (pw : List UInt8) (lg : List Int) (k : Nat) (c : Int) : (fieldCells pw lg).setIfInBounds (pw.length + k) (i64 c) = fieldCells pw (lg.set k c) := by
  simp [fieldCells, List.set_append, List.map_set]
theorem fc_size (pw : List UInt8) (lg : List Int) : (fieldCells pw lg).size = pw.length + lg.length := by simp [fieldCells]
def newB (n : Nat) : Option (Nat ⊕ Unit) := if n < 255 then some (.inl (n + 1)) else some (.inr ())
theorem newB_some : iterC newB 0 = some () := iterC_count (fun n => n) 255 () rfl (fun i hi => by simp [newB, hi]) (by simp [newB])
def field_New : Option Bool := some true
set_option maxRecDepth 100000 in
set_option maxHeartbeats 8000000 in
theorem field_New_calls (r : Bool) (w0 : World) (L0 : List Value) (hL0 : Old w0 L0) (H : field_New = some r) :
    Calls Try.prog 6 [].toArray w0 (fun e w' => ∃ u0 : Value, e = .returned u0 ∧ Ext w0 w' ∧ Fd w' L0 u0 r) := by
  have hE : Ext w0 w0 := Ext.refl w0; obtain rfl := osi H; refine calls_W (n := 32) Try.func6 rfl rfl rfl ?_; refine W_seq ?_; refine W_reg (by kernel_rfl) ?_; refine wla rfl rfl (q_assign (v := .pointer none) rfl rfl) ?_; refine wl_nil ?_; refine W_th ?_; refine W_seq ?_; refine W_reg (by kernel_rfl) ?_; refine wla rfl rfl (v := .agg zF) (fun w => by simp [execOp, build0]) ?_; refine wls rfl rfl (stp_box (v := .agg zF) rfl rfl ?_); intro w1 hb hg; have e1 := hE.trans (grown_ext hg)
  generalize hgg : w0.heap.size = g at hb
  have hgn : w0.heap.size ≤ g := Nat.le_of_eq hgg; refine wla rfl rfl (q_assign (v := .pointer (some ⟨g, 0, none⟩)) rfl rfl) ?_; refine wl_nil ?_; refine W_th ?_; refine W_seq ?_; refine W_reg (by kernel_rfl) ?_; refine wla rfl rfl (q_assign (v := u8 1) rfl (cst8 1 rfl)) ?_; refine wl_nil ?_; refine W_th ?_; refine W_seq ?_; refine W_seq ?_; refine W_reg (by kernel_rfl) ?_; refine wla rfl rfl (q_move (v := i64 0) rfl rfl) ?_; refine wl_nil ?_; refine W_th ?_; refine W_mid (fun f w => f 32 = undef ∧ f 1 = .pointer (some ⟨g, 0, none⟩) ∧ Ext w0 w ∧ Blk w g 51 (fieldCells Gf.pwT Gf.lgT)) ?_ ?_
  · refine W_block ?_; refine W_loop (fun (n : Nat) f w => f 32 = undef ∧ n ≤ 255 ∧ f 6 = i64 (n : Int) ∧ f 1 = .pointer (some ⟨g, 0, none⟩) ∧ f 2 = u8 (Gf.pw n) ∧ Ext w0 w ∧ Blk w g 51 (fieldCells (Gf.tabN n).1 (Gf.tabN n).2.1)) newB_some ?_ ?_
    · exact ⟨rfl, by decide, rfl, rfl, rfl, e1, hb⟩
    rintro n r _ w ⟨hm, hn, s6, s1, s2, e, hB⟩ hr hx; have hl := Gf.tab_len n; refine W_seq ?_; refine W_reg (by kernel_rfl) ?_; refine wla rfl rfl (q_ltI rfl s6 rfl) ?_; refine wl_nil ?_; refine W_th ?_; refine W_seq ?_; refine W_cond _ rfl rfl (fun hb9 => ?_) (fun hb9 => ?_)
    · have hlt : n < 255 := by have := of_decide_eq_true hb9; omega
      have hr' : some (Sum.inl (n + 1)) = some r := by rw [← hr, newB, if_pos hlt]
      obtain rfl := osi hr'; refine W_skip ?_; refine W_th ?_; refine W_seq ?_; refine W_block ?_; refine W_seq ?_; refine W_reg (by kernel_rfl) ?_; refine wla rfl rfl (q_move (v := i64 (n : Int)) rfl s6) ?_; refine wla rfl rfl (q_assign (v := i64 (n : Int)) rfl rfl) ?_; refine wl_nil ?_; refine W_th ?_; refine W_seq ?_; refine W_draw [] [(0, 0), (1, 0), (2, 0), (3, 0), (4, 0), (5, 0), (6, 0), (7, 0), (8, 0), (9, 0), (11, 0), (12, 0), (10, 2), (13, 0), (14, 2)] mixed (by kernel_rfl) (by kernel_rfl) (by kernel_rfl) (by kernel_rfl) ?_; have x1 := Ext.drew w; replace e := e.trans x1; replace hB := hB.ext x1
      have ew : wI ((n : Int) + 255) = ((n + 255 : Nat) : Int) := by rw [wI_of (by omega) (by omega)]; omega
      refine wsa rfl rfl rfl (q_move (v := .pointer (some ⟨g, 0, none⟩)) rfl s1) ?_; refine wsa rfl rfl rfl (q_move (v := i64 (n : Int)) rfl rfl) ?_; refine wsa rfl rfl rfl (q_move (v := .pointer (some ⟨g, 0, none⟩)) rfl s1) ?_; refine wsa rfl rfl rfl (q_move (v := i64 (n : Int)) rfl rfl) ?_; refine wsa rfl rfl rfl (q_addI rfl rfl rfl) ?_; rw [ew]; refine wsa rfl rfl rfl (q_move (v := u8 (Gf.pw n)) rfl s2) ?_; refine wsa rfl rfl rfl (q_move (v := u8 (Gf.pw n)) rfl s2) ?_; refine wsa rfl rfl rfl (q_nilP rfl rfl) ?_; refine wsa rfl rfl rfl (q_fldP rfl fieldAt0 rfl) ?_; refine wsa rfl rfl rfl (q_ixP (i := n) rfl Try.underlying48 Try.sizeOf5 rfl rfl (by omega)) ?_; refine wsa rfl rfl rfl (q_nilP rfl rfl) ?_; refine wsa rfl rfl rfl (q_fldP rfl fieldAt0 rfl) ?_; refine wsn rfl (by kernel_rfl) rfl rfl (stp_storeB (u := u8 (Gf.pw n)) rfl Try.sizeOf5 rfl rfl hB (by rw [fc_size, hl.1, hl.2]; omega) rfl ?_)
      intro w2 hB2 g2; rw [show 0 + 0 + n = n by omega, fc_pw _ _ _ _ (by rw [hl.1]; omega)] at hB2
      replace e := e.grownB g2 hgn; refine wsa rfl rfl rfl (q_ixP (i := n + 255) rfl Try.underlying48 Try.sizeOf5 rfl rfl (by omega)) ?_; refine wsn rfl (by kernel_rfl) rfl rfl (stp_storeB (u := u8 (Gf.pw n)) rfl Try.sizeOf5 rfl rfl hB2 (by rw [fc_size, List.length_set, hl.1, hl.2]; omega) rfl ?_)
      intro w3 hB3 g3; rw [show 0 + 0 + (n + 255) = n + 255 by omega, fc_pw _ _ _ _ (by rw [List.length_set, hl.1]; omega)] at hB3
      replace e := e.grownB g3 hgn; refine ws_nil ?_; refine W_th ?_; refine W_seq ?_; refine W_reg (by kernel_rfl) ?_; refine wla rfl rfl (q_move (v := .pointer (some ⟨g, 0, none⟩)) rfl s1) ?_; refine wla rfl rfl (q_move (v := u8 (Gf.pw n)) rfl s2) ?_; refine wla rfl rfl (q_move (v := i64 (n : Int)) rfl rfl) ?_; refine wla rfl rfl (q_nilP rfl rfl) ?_; refine wla rfl rfl (q_fldP rfl fieldAt1 rfl) ?_; refine wla rfl rfl (q_ixP (i := (Gf.pw n).toNat) rfl Try.underlying49 Try.sizeOf3 rfl rfl (Gf.pw n).toNat_lt) ?_; refine wln rfl rfl (stp_storeB (u := i64 (n : Int)) rfl Try.sizeOf3 rfl rfl hB3 (by rw [fc_size, List.length_set, List.length_set, hl.1, hl.2]; have := (Gf.pw n).toNat_lt; omega) rfl ?_)
      intro w4 hB4 g4; rw [show 0 + 510 + (Gf.pw n).toNat = (((Gf.tabN n).1.set n (Gf.pw n)).set (n + 255) (Gf.pw n)).length + (Gf.pw n).toNat by rw [List.length_set, List.length_set, hl.1], fc_lg] at hB4; replace e := e.grownB g4 hgn; refine wl_nil ?_; refine W_th ?_; refine W_reg (by kernel_rfl) ?_; refine wla rfl rfl (q_move (v := u8 (Gf.pw n)) rfl s2) ?_; refine wls rfl rfl (stp_call (vs := [u8 (Gf.pw n), u8 3]) Try.func21 rfl rfl rfl (ar2 rfl (cst8 3 rfl)) (field_Slow_calls (Gf.pw n) 3 _ _ (Slow_eq _ _)) ?_); rintro _ w5 ⟨rfl, x5⟩; refine ⟨_, rfl, ?_⟩; replace e := e.trans x5; replace hB4 := hB4.ext x5; refine wla rfl rfl (q_assign (v := u8 (Gf.mul (Gf.pw n) 3)) rfl rfl) ?_; refine wl_nil ?_; refine bk_n ?_; refine W_th ?_; refine W_reg (by kernel_rfl) ?_; refine wla rfl rfl (q_addI rfl s6 rfl) ?_
      have ew2 : wI ((n : Int) + 1) = ((n + 1 : Nat) : Int) := by rw [wI_of (by omega) (by omega)]; omega
      rw [ew2]; refine wla rfl rfl (q_move (v := i64 ((n + 1 : Nat) : Int)) rfl rfl) ?_; refine wl_nil ?_; refine ⟨_, rfl, hm, by omega, rfl, s1, rfl, e, ?_⟩; rw [← Gf.tab_pw n] at hB4; exact hB4
    have hge : n = 255 := by have := of_decide_eq_false hb9; omega
    subst hge
    have hr' : some (Sum.inr ()) = some r := by rw [← hr]; rfl
    obtain rfl := osi hr'; refine W_exit ?_; refine th_x ?_; refine th_x ?_; refine bk_x ?_; exact ⟨hm, s1, e, hB⟩
  rintro _ w ⟨hm, s1, e, hB⟩; refine W_th ?_; refine W_seq ?_; refine W_reg (by kernel_rfl) ?_; refine wla rfl rfl (q_move (v := .pointer (some ⟨g, 0, none⟩)) rfl s1) ?_; refine wla rfl rfl (q_assign (v := .pointer (some ⟨g, 0, none⟩)) rfl rfl) ?_; refine wl_nil ?_; refine W_th ?_; refine W_ret ?_; refine rt1 (.pointer (some ⟨g, 0, none⟩)) rfl rfl rfl hm ?_; exact ⟨.pointer (some ⟨g, 0, none⟩), rfl, e, .inr ⟨rfl, g, rfl, hL0 g hgn, hB⟩⟩
end Gk

/- Cuts with three numbers; results that are read and not owned; rows that are put behind rows; rows that grow in their place. No condition. -/
set_option linter.unusedVariables false
set_option linter.unusedSimpArgs false
namespace Gk
open Go Go.RowKit
section
variable {P : Program} {o : Oper} {f : Nat → Value} {w : World} {L : List Value}
end
theorem hs_nilG {k : Nat} : ¬ Hs (.tuple #[.slice none 0 0]) k := fun h => by
  obtain ⟨x, hx, e⟩ := hs_tup h
  have hx : x ∈ [Value.slice none 0 0] := hx
  rw [List.mem_singleton.1 hx] at e; cases e
theorem nw_nilG (w : World) : Nw w (.tuple #[.slice none 0 0]) := fun _ h => absurd h hs_nilG
theorem OwD.nil (w : World) (e1 e2 : TypeId) : OwD w e1 e2 (.tuple #[.slice none 0 0]) (.slice none 0 0) [] := ⟨[], rfl, Ow.nil w e1, rfl, fun i h => absurd h (by simp), by simp⟩
section
variable {P : Program} {f : Nat → Value} {w : World} {o : Oper}
end
end Gk

/- Printed by gen.py: for each Go function a pure function, and that the Go code comes to it. No condition beside the equation that says what the pure function gives. -/
set_option linter.unusedVariables false
set_option linter.unusedSimpArgs false
namespace Gk
open Go Go.Proofs
noncomputable def law04_lives  : Option Bool :=
((field_New ).bind fun r1 =>
((matrix_Vandermonde r1 ([(1 : UInt8), (2 : UInt8)] : List UInt8) 2).bind fun r5 =>
(if r5.2 = 0 then
((matrix_Row r5.1 1).bind fun r8 => some (decide (r8 = ([1, 2] : List UInt8))))
else some false)))
set_option maxRecDepth 100000 in
set_option maxHeartbeats 8000000 in
theorem law04_lives_calls  (r : Bool) (w0 : World) (H : law04_lives = some r) :
    Calls Try.prog 5 [].toArray w0 (fun e w' => e = .returned (.bool r) ∧ Ext w0 w') := by
  have hE : Ext w0 w0 := Ext.refl w0; unfold law04_lives at H; refine calls_W (n := 17) Try.func5 rfl rfl rfl ?_; refine W_seq ?_; refine W_reg (by kernel_rfl) ?_; refine wla rfl rfl (q_assign (v := (.bool false)) rfl rfl) ?_; refine wl_nil ?_; refine W_th ?_; refine W_seq ?_; refine W_reg (by kernel_rfl) ?_; obtain ⟨r1, hr1, H⟩ := bsi H; refine wls rfl rfl (stp_call (vs := []) Try.func6 rfl rfl rfl (ar0 ) (field_New_calls   r1 _ [] (Old.nil _)  hr1) ?_); rintro _ w1 ⟨v1, rfl, x1, i1_0⟩; refine ⟨_, rfl, ?_⟩; have e2 := hE.trans x1; refine wls rfl rfl (stp_lit (L := []) (R := (Sc u8)) [(u8 1), (u8 2)] ([(1 : UInt8), (2 : UInt8)] : List UInt8) rfl T22 rfl (by exact ⟨rfl, (cst8 (1 : UInt8) rfl), rfl, (cst8 (2 : UInt8) rfl), trivial⟩) rfl (litC u8 (oneC_u8) (us := [(u8 1), (u8 2)]) (l := ([(1 : UInt8), (2 : UInt8)] : List UInt8)) rfl) rfl (litS u8 (us := [(u8 1), (u8 2)]) (l := ([(1 : UInt8), (2 : UInt8)] : List UInt8)) rfl) ?_); intro v3 w3 o3 n3 g3 l3; have x3 := grown_ext g3; have i3 : By w3 [] v3 (([(1 : UInt8), (2 : UInt8)] : List UInt8)) := OwK.slk (Sc.stab _) _ o3 (fun k hk => (Old.nil _) k (n3 k hk)) (fun _ h => h.2); replace i1_0 := i1_0.lift (Lift.ext x3 _); have e4 := e2.trans x3; obtain ⟨r5, hr5, H⟩ := bsi H; refine wls rfl rfl (stp_call (vs := [v1, v3, (i64 2)]) Try.func19 rfl rfl rfl (ar3 rfl rfl rfl) (matrix_Vandermonde_calls r1 ([(1 : UInt8), (2 : UInt8)] : List UInt8) 2 v1 v3 r5 _ [] (Old.nil _) (i1_0.lift (Lift.sub (L' := []) (fun _ _ => trivial))) (i3.lift (Lift.sub (L' := []) (fun _ _ => trivial))) hr5) ?_); rintro _ w5 ⟨v5_0, rfl, x5, i5_0⟩; refine ⟨_, rfl, ?_⟩; replace i1_0 := i1_0.lift (Lift.ext x5 _); replace i3 := i3.lift (Lift.ext x5 _); have e6 := e4.trans x5; refine wla rfl rfl (q_move (v := (.tuple #[v5_0, (i64 r5.2)])) rfl rfl) ?_; refine wla rfl rfl (q_extract rfl rfl rfl) ?_; refine wla rfl rfl (q_extract rfl rfl rfl) ?_; refine wla rfl rfl (q_assign (v := v5_0) rfl rfl) ?_; refine wla rfl rfl (q_assign (v := (i64 r5.2)) rfl rfl) ?_; refine wl_nil ?_; refine W_th ?_; refine W_seq ?_; refine W_reg (by kernel_rfl) ?_; refine wla rfl rfl (q_move (v := (i64 r5.2)) rfl rfl) ?_; refine wla rfl rfl (q_eqI rfl rfl rfl) ?_; refine wlb rfl rfl (q_move (v := (.bool ((decide (r5.2 = 0))))) rfl rfl) (fun hb7 => ?_) (fun hb7 => ?_)
  · replace H := (if_pos (of_decide_eq_true hb7)).symm.trans H; refine wla rfl rfl (q_move (v := v5_0) rfl rfl) ?_; obtain ⟨r8, hr8, H⟩ := bsi H; refine wls rfl rfl (stp_call (vs := [v5_0, (i64 1)]) Try.func20 rfl rfl rfl (ar2 rfl rfl) (matrix_Row_calls r5.1 1 v5_0 r8 _ (i5_0.lift (Lift.sub (L' := []) (fun _ _ => trivial))) hr8) ?_); rintro _ w8 ⟨v8, rfl, x8, n8_0, o8_0⟩; refine ⟨_, rfl, ?_⟩; have i8_0 : By w8 [] v8 r8 := OwK.slk (Sc.stab _) _ (OwK.scal o8_0 (v8 :: [])) (fun k hk => (Old.nil _) k (n8_0 k hk)) (fun _ h => h.2); replace i1_0 := i1_0.lift (Lift.ext x8 _); replace i3 := i3.lift (Lift.ext x8 _); replace i5_0 := i5_0.lift (Lift.ext x8 _); have e9 := e6.trans x8; refine wlq rfl rfl (q_str rfl T22 rfl rfl rfl i8_0) ?_; refine wla rfl rfl (q_eqS rfl rfl rfl) ?_; refine wla rfl rfl (q_pick_t (v := (.bool ((decide (r8 = ([1, 2] : List UInt8)))))) rfl rfl rfl) ?_; refine wla rfl rfl (q_assign (v := (.bool ((decide (r8 = ([1, 2] : List UInt8)))))) rfl rfl) ?_; refine wl_nil ?_; refine W_th ?_; refine W_ret ?_; obtain rfl := osi H; refine rt1 (.bool ((decide (r8 = ([1, 2] : List UInt8))))) rfl rfl rfl rfl ?_; exact ⟨rfl, e9⟩
  replace H := (if_neg (of_decide_eq_false hb7)).symm.trans H; refine wlk rfl rfl ?_; refine wlk rfl rfl ?_; refine wlk rfl rfl ?_; refine wlk rfl rfl ?_; refine wla rfl rfl (q_pick_f (v := (.bool false)) rfl rfl rfl) ?_; refine wla rfl rfl (q_assign (v := (.bool false)) rfl rfl) ?_; refine wl_nil ?_; refine W_th ?_; refine W_ret ?_; obtain rfl := osi H; refine rt1 (.bool false) rfl rfl rfl rfl ?_; exact ⟨rfl, e6⟩
noncomputable def law04_square (a0b : List UInt8) (a1n : Int) (a2columns : Int) : Option (List (List UInt8)) :=
((makeL a1n ([] : List UInt8)).bind fun c2 =>
((iterC (fun s7 : List (List UInt8) × Int =>
(if s7.2 < (c2.length : Int) then
((makeL a2columns (0 : UInt8)).bind fun c10 =>
((idx s7.1 s7.2).bind fun c14 =>
((idx ((s7.1.set (s7.2 : Int).toNat c10)) s7.2).bind fun c19 =>
((iterC (fun s21 : List (List UInt8) × Int =>
(if s21.2 < (c19.length : Int) then
(if (wI ((wI (s7.2 * a2columns)) + s21.2)) < (a0b.length : Int) then
((idx s21.1 s7.2).bind fun c27 =>
((idx a0b ((wI ((wI (s7.2 * a2columns)) + s21.2)))).bind fun c29 =>
((idx c27 s21.2).bind fun c30 => some (.inl ((s21.1.set (s7.2 : Int).toNat (c27.set (s21.2 : Int).toNat c29)), (wI (s21.2 + 1)))))))
else some (.inl (s21.1, (wI (s21.2 + 1)))))
else some (.inr s21.1))) ((s7.1.set (s7.2 : Int).toNat c10), 0)).bind fun x21 => some (.inl (x21, (wI (s7.2 + 1))))))))
else some (.inr s7.1))) (c2, 0)).bind fun x7 => some x7))
set_option maxRecDepth 100000 in
set_option maxHeartbeats 8000000 in
theorem law04_square_calls (a0b : List UInt8) (a1n : Int) (a2columns : Int) (p0 : Value) (r : List (List UInt8)) (w0 : World) (L0 : List Value) (hL0 : Old w0 L0) (hp0 : By w0 [] p0 a0b) (H : law04_square a0b a1n a2columns = some r) :
    Calls Try.prog 7 [p0, (i64 a1n), (i64 a2columns)].toArray w0 (fun e w' => ∃ u0 : Value, e = .returned u0 ∧ Ext w0 w' ∧ Nw w0 u0 ∧ OwK By w' (u0 :: L0) 22 u0 r) := by
  have hE : Ext w0 w0 := Ext.refl w0; unfold law04_square at H; refine calls_W (n := 53) Try.func7 rfl rfl rfl ?_; refine W_seq ?_; refine W_reg (by kernel_rfl) ?_; refine wla rfl rfl (q_assign (v := (.slice none 0 0)) rfl rfl) ?_; have oG1 : OwD w0 22 5 (.tuple #[.slice none 0 0]) (.slice none 0 0) [] := OwD.nil _ _ _; have nG1 : Nw w0 (.tuple #[.slice none 0 0]) := nw_nilG _; refine wl_nil ?_; refine W_th ?_; refine W_seq ?_; refine W_reg (by kernel_rfl) ?_; refine wla rfl rfl (q_move (v := (i64 a1n)) rfl rfl) ?_; obtain ⟨c2, hc2, H⟩ := bsi H; refine wls rfl rfl (stp_makeD (e2 := 5) ((.tuple #[.slice none 0 0]) :: L0) rfl T27 rfl rfl hc2 ?_); intro G3 v3 w3 o3 n3 g3 l3; have x3 := grown_ext g3; have q4 : Nq (.tuple #[.slice none 0 0]) G3 := oG1.nq n3; replace oG1 := oG1.ext x3; have n6 := Nw.ext hE n3; have e5 := hE.trans x3; refine wla rfl rfl (q_assign (v := v3) rfl rfl) ?_; refine wl_nil ?_; refine W_th ?_; refine W_seq ?_; refine W_seq ?_; refine W_reg (by kernel_rfl) ?_; refine wla rfl rfl (q_move (v := v3) rfl rfl) ?_; refine wla rfl rfl (q_len rfl T27.sl rfl o3.rd) ?_; refine wla rfl rfl (q_move (v := (i64 0)) rfl rfl) ?_; refine wl_nil ?_; refine W_th ?_; obtain ⟨x7, G7, H⟩ := bsi H; refine W_mid (fun f w => ∃ G7_38 : Value, f 7 = v3 ∧ f 53 = undef ∧ Ext w0 w ∧ OwD w 22 5 G7_38 v3 x7 ∧ Nw w0 G7_38) ?_ ?_
  · refine W_block ?_; refine W_loop (fun s7 f w => ∃ G7_36 : Value, f 0 = p0 ∧ f 2 = (i64 a2columns) ∧ f 7 = v3 ∧ f 14 = (i64 ((c2.length : Int))) ∧ f 15 = (i64 s7.2) ∧ f 53 = undef ∧ Ext w0 w ∧ OwD w 22 5 G7_36 v3 s7.1 ∧ Nw w0 G7_36) G7 ?_ ?_
    · exact ⟨G3, rfl, rfl, rfl, rfl, rfl, rfl, e5, o3, n6⟩
    rintro s7 _ _ w8 ⟨G7_8, s0_8, s2_8, s7_8, s14_8, s15_8, s53_8, hE8, o0_8, n0_8⟩ H7 hr7; refine W_seq ?_; refine W_reg (by kernel_rfl) ?_; refine wla rfl rfl (q_ltI rfl s15_8 s14_8) ?_; refine wl_nil ?_; refine W_th ?_; refine W_seq ?_; refine W_cond _ rfl rfl (fun hb9 => ?_) (fun hb9 => ?_)
    · replace H7 := (if_pos (of_decide_eq_true hb9)).symm.trans H7; refine W_skip ?_; refine W_th ?_; refine W_seq ?_; refine W_block ?_; refine W_seq ?_; refine W_reg (by kernel_rfl) ?_; refine wla rfl rfl (q_move (v := (i64 s7.2)) rfl s15_8) ?_; refine wla rfl rfl (q_assign (v := (i64 s7.2)) rfl rfl) ?_; refine wl_nil ?_; refine W_th ?_; refine W_seq ?_; refine W_reg (by kernel_rfl) ?_; refine wla rfl rfl (q_move (v := v3) rfl s7_8) ?_; refine wla rfl rfl (q_move (v := (i64 s7.2)) rfl rfl) ?_; refine wla rfl rfl (q_move (v := (i64 a2columns)) rfl s2_8) ?_; obtain ⟨c10, hc10, H7⟩ := bsi H7; refine wls rfl rfl (stp_make (L := (G7_8 :: L0)) (R := (Sc u8)) rfl T22 rfl rfl hc10 (fun _ _ => rfl) ?_); intro v10 w10 o10 n10 g10 l10; have x10 := grown_ext g10; have q11 : Nq G7_8 v10 := o0_8.nq n10; replace o0_8 := o0_8.ext x10; have n13 := Nw.ext hE8 n10; have e12 := hE8.trans x10; obtain ⟨c14, hc14, H7⟩ := bsi H7; refine wla rfl rfl (q_adr rfl T27 rfl rfl o0_8.rd hc14) ?_; refine wln rfl rfl (stp_storeRow (x := v10) [v10] (L0) rfl T27 rfl rfl o0_8 hc14 o10 q11.symm ?_); intro G16 w15 o15 g15 hG15 l15; replace o10 := o10.other (Sc.stab _) g15 q11.symm l15; have e17 := e12.grown g15 n0_8
      have n18 : Nw w0 G16 := fun k hk => (hG15 k hk).elim (n0_8 k) (n13 k)
      refine wl_nil ?_; refine W_th ?_; refine W_seq ?_; refine W_reg (by kernel_rfl) ?_; refine wla rfl rfl (q_move (v := v3) rfl s7_8) ?_; refine wla rfl rfl (q_move (v := (i64 s7.2)) rfl rfl) ?_; obtain ⟨c19, hc19, H7⟩ := bsi H7; refine wla rfl rfl (q_adr rfl T27 rfl rfl o15.rd hc19) ?_; refine wlq_loadD rfl rfl rfl T27 rfl o15 hc19 (fun v20 hD20 => ?_); refine wla rfl rfl (q_len rfl T22.sl rfl (OwD.rowrd o15 hD20 hc19)) ?_; refine wla rfl rfl (q_move (v := (i64 0)) rfl rfl) ?_; refine wl_nil ?_; refine W_th ?_; obtain ⟨x21, G21, H7⟩ := bsi H7; refine W_mid (fun f w => ∃ G7_35 : Value, f 0 = p0 ∧ f 2 = (i64 a2columns) ∧ f 7 = v3 ∧ f 14 = (i64 ((c2.length : Int))) ∧ f 15 = (i64 s7.2) ∧ f 53 = undef ∧ Ext w0 w ∧ OwD w 22 5 G7_35 v3 x21 ∧ Nw w0 G7_35) ?_ ?_
      · refine W_block ?_; refine W_loop (fun s21 f w => ∃ G7_33 : Value, f 0 = p0 ∧ f 2 = (i64 a2columns) ∧ f 7 = v3 ∧ f 8 = (i64 s7.2) ∧ f 14 = (i64 ((c2.length : Int))) ∧ f 15 = (i64 s7.2) ∧ f 27 = (i64 ((c19.length : Int))) ∧ f 28 = (i64 s21.2) ∧ f 53 = undef ∧ Ext w0 w ∧ OwD w 22 5 G7_33 v3 s21.1 ∧ Nw w0 G7_33) G21 ?_ ?_
        · exact ⟨G16, s0_8, s2_8, s7_8, rfl, s14_8, s15_8, rfl, rfl, s53_8, e17, o15, n18⟩
        rintro s21 _ _ w22 ⟨G7_22, s0_22, s2_22, s7_22, s8_22, s14_22, s15_22, s27_22, s28_22, s53_22, hE22, o0_22, n0_22⟩ H21 hr21; refine W_seq ?_; refine W_reg (by kernel_rfl) ?_; refine wla rfl rfl (q_ltI rfl s28_22 s27_22) ?_; refine wl_nil ?_; refine W_th ?_; refine W_seq ?_; refine W_cond _ rfl rfl (fun hb23 => ?_) (fun hb23 => ?_)
        · replace H21 := (if_pos (of_decide_eq_true hb23)).symm.trans H21; refine W_skip ?_; refine W_th ?_; refine W_seq ?_; refine W_block ?_; refine W_seq ?_; refine W_reg (by kernel_rfl) ?_; refine wla rfl rfl (q_move (v := (i64 s21.2)) rfl s28_22) ?_; refine wla rfl rfl (q_assign (v := (i64 s21.2)) rfl rfl) ?_; refine wl_nil ?_; refine W_th ?_; refine W_seq ?_; refine W_reg (by kernel_rfl) ?_; refine wla rfl rfl (q_move (v := (i64 s7.2)) rfl s8_22) ?_; refine wla rfl rfl (q_move (v := (i64 a2columns)) rfl s2_22) ?_; refine wla rfl rfl (q_mulI rfl rfl rfl) ?_; refine wla rfl rfl (q_move (v := (i64 s21.2)) rfl rfl) ?_; refine wla rfl rfl (q_addI rfl rfl rfl) ?_; refine wla rfl rfl (q_assign (v := (i64 ((wI ((wI (s7.2 * a2columns)) + s21.2))))) rfl rfl) ?_; refine wl_nil ?_; refine W_th ?_; refine W_seq ?_; refine W_reg (by kernel_rfl) ?_; refine wla rfl rfl (q_move (v := (i64 ((wI ((wI (s7.2 * a2columns)) + s21.2))))) rfl rfl) ?_; refine wla rfl rfl (q_move (v := p0) rfl s0_22) ?_; refine wla rfl rfl (q_len rfl T22.sl rfl (hp0.lift (Lift.ext hE22 _))) ?_; refine wla rfl rfl (q_ltI rfl rfl rfl) ?_; refine wl_nil ?_; refine W_th ?_; refine W_cond _ rfl rfl (fun hb24 => ?_) (fun hb24 => ?_)
          · replace H21 := (if_pos (of_decide_eq_true hb24)).symm.trans H21; refine W_draw [3, 8] [(0, 0), (1, 0), (2, 0), (3, 1), (4, 0), (5, 0), (6, 0), (7, 0), (8, 1), (9, 0), (10, 2)] mixed (by kernel_rfl) (by kernel_rfl) (by kernel_rfl) (by kernel_rfl) ?_; have x25 := Ext.drew w22; replace o0_22 := o0_22.ext x25; have e26 := hE22.trans x25; refine wsa rfl rfl rfl (q_move (v := v3) rfl s7_22) ?_; refine wsa rfl rfl rfl (q_move (v := (i64 s7.2)) rfl s8_22) ?_; obtain ⟨c27, hc27, H21⟩ := bsi H21; refine wsa rfl rfl rfl (q_adr rfl T27 rfl rfl o0_22.rd hc27) ?_; refine wsq_loadD rfl rfl rfl rfl T27 rfl o0_22 hc27 (fun v28 hD28 => ?_); refine wsa rfl rfl rfl (q_move (v := (i64 s21.2)) rfl rfl) ?_; refine wsa rfl rfl rfl (q_move (v := p0) rfl s0_22) ?_; refine wsa rfl rfl rfl (q_move (v := (i64 ((wI ((wI (s7.2 * a2columns)) + s21.2))))) rfl rfl) ?_; obtain ⟨c29, hc29, H21⟩ := bsi H21; refine wsa rfl rfl rfl (q_adr rfl T22 rfl rfl (hp0.lift (Lift.ext e26 _)) hc29) ?_; refine wsq rfl rfl rfl (q_loadS rfl T22 rfl (hp0.lift (Lift.ext e26 _)) hc29) ?_; obtain ⟨c30, hc30, H21⟩ := bsi H21; refine wsa rfl rfl rfl (q_adr rfl T22 rfl rfl (OwD.rowrd o0_22 hD28 hc27) hc30) ?_; refine wsn rfl (by kernel_rfl) rfl rfl (stp_storeD [] (L0) rfl T22 rfl rfl o0_22 hD28 hc27 hc30 ?_); intro w31 o31 g31 l31; have e32 := e26.grown g31 n0_22; refine ws_nil ?_; refine bk_n ?_; refine W_th ?_; refine W_reg (by kernel_rfl) ?_; refine wla rfl rfl (q_addI rfl s28_22 rfl) ?_; refine wla rfl rfl (q_move (v := (i64 ((wI (s21.2 + 1))))) rfl rfl) ?_; refine wl_nil ?_; obtain rfl := osi H21; exact ⟨_, rfl, G7_22, s0_22, s2_22, s7_22, s8_22, s14_22, s15_22, s27_22, rfl, s53_22, e32, o31, n0_22⟩
          replace H21 := (if_neg (of_decide_eq_false hb24)).symm.trans H21; refine W_skip ?_; refine bk_n ?_; refine W_th ?_; refine W_reg (by kernel_rfl) ?_; refine wla rfl rfl (q_addI rfl s28_22 rfl) ?_; refine wla rfl rfl (q_move (v := (i64 ((wI (s21.2 + 1))))) rfl rfl) ?_; refine wl_nil ?_; obtain rfl := osi H21; exact ⟨_, rfl, G7_22, s0_22, s2_22, s7_22, s8_22, s14_22, s15_22, s27_22, rfl, s53_22, hE22, o0_22, n0_22⟩
        replace H21 := (if_neg (of_decide_eq_false hb23)).symm.trans H21; refine W_exit ?_; refine th_x ?_; obtain rfl := osi H21; obtain rfl := hr21 _ rfl; refine th_x ?_; refine bk_x ?_; exact ⟨G7_22, s0_22, s2_22, s7_22, s14_22, s15_22, s53_22, hE22, o0_22, n0_22⟩
      rintro _ w34 ⟨G7_34, s0_34, s2_34, s7_34, s14_34, s15_34, s53_34, hE34, o0_34, n0_34⟩; refine bk_n ?_; refine W_th ?_; refine W_reg (by kernel_rfl) ?_; refine wla rfl rfl (q_addI rfl s15_34 rfl) ?_; refine wla rfl rfl (q_move (v := (i64 ((wI (s7.2 + 1))))) rfl rfl) ?_; refine wl_nil ?_; obtain rfl := osi H7; exact ⟨_, rfl, G7_34, s0_34, s2_34, s7_34, s14_34, rfl, s53_34, hE34, o0_34, n0_34⟩
    replace H7 := (if_neg (of_decide_eq_false hb9)).symm.trans H7; refine W_exit ?_; refine th_x ?_; obtain rfl := osi H7; obtain rfl := hr7 _ rfl; refine th_x ?_; refine bk_x ?_; exact ⟨G7_8, s7_8, s53_8, hE8, o0_8, n0_8⟩
  rintro _ w37 ⟨G7_37, s7_37, s53_37, hE37, o0_37, n0_37⟩; refine W_th ?_; refine W_seq ?_; refine W_reg (by kernel_rfl) ?_; refine wla rfl rfl (q_move (v := v3) rfl s7_37) ?_; refine wla rfl rfl (q_assign (v := v3) rfl rfl) ?_; refine wl_nil ?_; refine W_th ?_; refine W_ret ?_; obtain rfl := osi H; refine rt1 v3 rfl rfl rfl s53_37 ?_; exact ⟨v3, rfl, hE37, (OwD.nwu o0_37 n0_37), (o0_37.owk L0 (fun k hk => hL0 k (n0_37 k hk)))⟩
noncomputable def ref04_Times (a0m : List (List UInt8)) (a1v : List UInt8) : Option (List UInt8) :=
((iterC (fun s4 : List UInt8 × Int =>
(if s4.2 < (a0m.length : Int) then
((idx a0m s4.2).bind fun c7 =>
((iterC (fun s9 : UInt8 × Int =>
(if s9.2 < (c7.length : Int) then
((idx c7 s9.2).bind fun c14 =>
((idx a1v s9.2).bind fun c15 =>
((ref02_Mul c14 c15).bind fun r16 => some (.inl ((s9.1 ^^^ r16), (wI (s9.2 + 1)))))))
else some (.inr s9.1))) ((0 : UInt8), 0)).bind fun x9 =>
((appL s4.1 (([x9] : List UInt8))).bind fun c22 => some (.inl (c22, (wI (s4.2 + 1)))))))
else some (.inr s4.1))) (([] : List UInt8), 0)).bind fun x4 => some x4)
set_option maxRecDepth 100000 in
set_option maxHeartbeats 8000000 in
theorem ref04_Times_calls (a0m : List (List UInt8)) (a1v : List UInt8) (p0 : Value) (p1 : Value) (r : List UInt8) (w0 : World) (hp0 : Rw w0 [] p0 a0m) (hp1 : By w0 [] p1 a1v) (H : ref04_Times a0m a1v = some r) :
    Calls Try.prog 11 [p0, p1].toArray w0 (fun e w' => ∃ u0 : Value, e = .returned u0 ∧ Ext w0 w' ∧ Nw w0 u0 ∧ OwK (Sc u8) w' [] 5 u0 r) := by
  have hE : Ext w0 w0 := Ext.refl w0; unfold ref04_Times at H; refine calls_W (n := 40) Try.func11 rfl rfl rfl ?_; refine W_seq ?_; refine W_reg (by kernel_rfl) ?_; refine wla rfl rfl (q_assign (v := (.slice none 0 0)) rfl rfl) ?_; refine wl_nil ?_; refine W_th ?_; refine W_seq ?_; refine W_reg (by kernel_rfl) ?_; refine wls rfl rfl (stp_lit (L := []) (R := (Sc u8)) [] ([] : List UInt8) rfl T22 rfl (by exact trivial) rfl (litC u8 (oneC_u8) (us := []) (l := ([] : List UInt8)) rfl) rfl (litS u8 (us := []) (l := ([] : List UInt8)) rfl) ?_); intro v1 w1 o1 n1 g1 l1; have x1 := grown_ext g1; have n3 := Nw.ext hE n1; have e2 := hE.trans x1; refine wla rfl rfl (q_assign (v := v1) rfl rfl) ?_; refine wl_nil ?_; refine W_th ?_; refine W_seq ?_; refine W_seq ?_; refine W_reg (by kernel_rfl) ?_; refine wla rfl rfl (q_move (v := p0) rfl rfl) ?_; refine wla rfl rfl (q_len rfl T27.sl rfl (hp0.lift (Lift.ext e2 _))) ?_; refine wla rfl rfl (q_move (v := (i64 0)) rfl rfl) ?_; refine wl_nil ?_; refine W_th ?_; obtain ⟨x4, G4, H⟩ := bsi H; refine W_mid (fun f w => ∃ v5_28 : Value, f 5 = v5_28 ∧ f 40 = undef ∧ Ext w0 w ∧ OwK (Sc u8) w [v5_28] 5 v5_28 x4 ∧ Nw w0 v5_28) ?_ ?_
  · refine W_block ?_; refine W_loop (fun s4 f w => ∃ v5_26 : Value, f 1 = p1 ∧ f 5 = v5_26 ∧ f 11 = p0 ∧ f 12 = (i64 ((a0m.length : Int))) ∧ f 13 = (i64 s4.2) ∧ f 40 = undef ∧ Ext w0 w ∧ OwK (Sc u8) w [v5_26] 5 v5_26 s4.1 ∧ Nw w0 v5_26) G4 ?_ ?_
    · exact ⟨v1, rfl, rfl, rfl, rfl, rfl, rfl, e2, o1, n3⟩
    rintro s4 _ _ w5 ⟨v5_5, s1_5, s5_5, s11_5, s12_5, s13_5, s40_5, hE5, o0_5, n0_5⟩ H4 hr4; refine W_seq ?_; refine W_reg (by kernel_rfl) ?_; refine wla rfl rfl (q_ltI rfl s13_5 s12_5) ?_; refine wl_nil ?_; refine W_th ?_; refine W_seq ?_; refine W_cond _ rfl rfl (fun hb6 => ?_) (fun hb6 => ?_)
    · replace H4 := (if_pos (of_decide_eq_true hb6)).symm.trans H4; refine W_skip ?_; refine W_th ?_; refine W_seq ?_; refine W_block ?_; refine W_seq ?_; refine W_reg (by kernel_rfl) ?_; obtain ⟨c7, hc7, H4⟩ := bsi H4; refine wla rfl rfl (q_adr rfl T27 s11_5 s13_5 (hp0.lift (Lift.ext hE5 _)) hc7) ?_; refine wlq_load rfl rfl rfl T27 rfl hp0 hc7 hE5 (fun v8 ha8 => ?_); refine wla rfl rfl (q_assign (v := v8) rfl rfl) ?_; refine wl_nil ?_; refine W_th ?_; refine W_seq ?_; refine W_reg (by kernel_rfl) ?_; refine wla rfl rfl (q_assign (v := (u8 0)) rfl (cst8 (0 : UInt8) rfl)) ?_; refine wl_nil ?_; refine W_th ?_; refine W_seq ?_; refine W_seq ?_; refine W_reg (by kernel_rfl) ?_; refine wla rfl rfl (q_move (v := v8) rfl rfl) ?_; refine wla rfl rfl (q_len rfl T22.sl rfl (ha8.lift (Lift.ext hE5 _))) ?_; refine wla rfl rfl (q_move (v := (i64 0)) rfl rfl) ?_; refine wl_nil ?_; refine W_th ?_; obtain ⟨x9, G9, H4⟩ := bsi H4; refine W_mid (fun f w => f 1 = p1 ∧ f 5 = v5_5 ∧ f 8 = (u8 x9) ∧ f 11 = p0 ∧ f 12 = (i64 ((a0m.length : Int))) ∧ f 13 = (i64 s4.2) ∧ f 40 = undef ∧ Ext w0 w ∧ OwK (Sc u8) w [v5_5] 5 v5_5 s4.1 ∧ Nw w0 v5_5) ?_ ?_
      · refine W_block ?_; refine W_loop (fun s9 f w => f 1 = p1 ∧ f 5 = v5_5 ∧ f 7 = v8 ∧ f 8 = (u8 s9.1) ∧ f 11 = p0 ∧ f 12 = (i64 ((a0m.length : Int))) ∧ f 13 = (i64 s4.2) ∧ f 18 = (i64 ((c7.length : Int))) ∧ f 19 = (i64 s9.2) ∧ f 40 = undef ∧ Ext w0 w ∧ OwK (Sc u8) w [v5_5] 5 v5_5 s4.1 ∧ Nw w0 v5_5) G9 ?_ ?_
        · exact ⟨s1_5, s5_5, rfl, rfl, s11_5, s12_5, s13_5, rfl, rfl, s40_5, hE5, o0_5, n0_5⟩
        rintro s9 _ _ w10 ⟨s1_10, s5_10, s7_10, s8_10, s11_10, s12_10, s13_10, s18_10, s19_10, s40_10, hE10, o0_10, n0_10⟩ H9 hr9; refine W_seq ?_; refine W_reg (by kernel_rfl) ?_; refine wla rfl rfl (q_ltI rfl s19_10 s18_10) ?_; refine wl_nil ?_; refine W_th ?_; refine W_seq ?_; refine W_cond _ rfl rfl (fun hb11 => ?_) (fun hb11 => ?_)
        · replace H9 := (if_pos (of_decide_eq_true hb11)).symm.trans H9; refine W_skip ?_; refine W_th ?_; refine W_seq ?_; refine W_block ?_; refine W_seq ?_; refine W_reg (by kernel_rfl) ?_; refine wla rfl rfl (q_move (v := (i64 s9.2)) rfl s19_10) ?_; refine wla rfl rfl (q_assign (v := (i64 s9.2)) rfl rfl) ?_; refine wl_nil ?_; refine W_th ?_; refine W_draw [4, 8] [(0, 0), (1, 0), (2, 0), (3, 0), (4, 1), (5, 0), (6, 0), (7, 0), (8, 1), (9, 2), (10, 0), (11, 0)] mixed (by kernel_rfl) (by kernel_rfl) (by kernel_rfl) (by kernel_rfl) ?_; have x12 := Ext.drew w10; replace o0_10 := o0_10.extL (Sc.stab _) x12 (Lift.ext x12 _); have e13 := hE10.trans x12; refine wsa rfl rfl rfl (q_move (v := (u8 s9.1)) rfl s8_10) ?_; refine wsa rfl rfl rfl (q_move (v := v8) rfl s7_10) ?_; refine wsa rfl rfl rfl (q_move (v := (i64 s9.2)) rfl rfl) ?_; obtain ⟨c14, hc14, H9⟩ := bsi H9; refine wsa rfl rfl rfl (q_adr rfl T22 rfl rfl (ha8.lift (Lift.ext e13 _)) hc14) ?_; refine wsq rfl rfl rfl (q_loadS rfl T22 rfl (ha8.lift (Lift.ext e13 _)) hc14) ?_; refine wsa rfl rfl rfl (q_move (v := p1) rfl s1_10) ?_; refine wsa rfl rfl rfl (q_move (v := (i64 s9.2)) rfl rfl) ?_; obtain ⟨c15, hc15, H9⟩ := bsi H9; refine wsa rfl rfl rfl (q_adr rfl T22 rfl rfl (hp1.lift (Lift.ext e13 _)) hc15) ?_; refine wsq rfl rfl rfl (q_loadS rfl T22 rfl (hp1.lift (Lift.ext e13 _)) hc15) ?_; obtain ⟨r16, hr16, H9⟩ := bsi H9; refine wsc rfl (by kernel_rfl) rfl rfl (stp_call (vs := [(u8 c14), (u8 c15)]) Try.func29 rfl rfl rfl (ar2 rfl rfl) (ref02_Mul_calls c14 c15  r16 _  hr16) ?_); rintro _ w16 ⟨rfl, x16⟩; refine ⟨_, rfl, ?_⟩; replace o0_10 := o0_10.extL (Sc.stab _) x16 (Lift.ext x16 _); have e17 := e13.trans x16; refine wsa rfl rfl rfl (q_xor8 rfl rfl rfl) ?_; refine wsa rfl rfl rfl (q_assign (v := (u8 ((s9.1 ^^^ r16)))) rfl rfl) ?_; refine ws_nil ?_; refine bk_n ?_; refine W_th ?_; refine W_reg (by kernel_rfl) ?_; refine wla rfl rfl (q_addI rfl s19_10 rfl) ?_; refine wla rfl rfl (q_move (v := (i64 ((wI (s9.2 + 1))))) rfl rfl) ?_; refine wl_nil ?_; obtain rfl := osi H9; exact ⟨_, rfl, s1_10, s5_10, s7_10, rfl, s11_10, s12_10, s13_10, s18_10, rfl, s40_10, e17, o0_10, n0_10⟩
        replace H9 := (if_neg (of_decide_eq_false hb11)).symm.trans H9; refine W_exit ?_; refine th_x ?_; obtain rfl := osi H9; obtain rfl := hr9 _ rfl; refine th_x ?_; refine bk_x ?_; exact ⟨s1_10, s5_10, s8_10, s11_10, s12_10, s13_10, s40_10, hE10, o0_10, n0_10⟩
      rintro _ w19 ⟨s1_19, s5_19, s8_19, s11_19, s12_19, s13_19, s40_19, hE19, o0_19, n0_19⟩; refine W_th ?_; refine W_reg (by kernel_rfl) ?_; refine wla rfl rfl (q_move (v := v5_5) rfl s5_19) ?_; refine wla rfl rfl (q_move (v := (u8 x9)) rfl s8_19) ?_; refine wls rfl rfl (stp_lit (L := [v5_5]) (R := (Sc u8)) [(u8 x9)] ([x9] : List UInt8) rfl T22 rfl (by exact ⟨rfl, rfl, trivial⟩) rfl (litC u8 (oneC_u8) (us := [(u8 x9)]) (l := ([x9] : List UInt8)) rfl) rfl (litS u8 (us := [(u8 x9)]) (l := ([x9] : List UInt8)) rfl) ?_); intro v20 w20 o20 n20 g20 l20; have x20 := grown_ext g20; have i20 : By w20 [v5_5] v20 (([x9] : List UInt8)) := OwK.slk (Sc.stab _) _ o20 (fun k hk => (Old.cons (Old.nil _) o0_19.lt) k (n20 k hk)) (fun _ h => h.2); replace o0_19 := o0_19.extL (Sc.stab _) x20 (Lift.ext x20 _); have e21 := hE19.trans x20; obtain ⟨c22, hc22, H4⟩ := bsi H4; refine wls rfl rfl (stp_append (R := (Sc u8)) (v := v5_5) (u := v20) (Sc.stab _) [] [] rfl T22 rfl rfl o0_19 i20 (fun _ _ h => h) hc22 oc_u8 ?_); intro v22 w22 o22 g22 nx22 l22; replace i20 := i20.lift l22; have e23 := e21.grown g22 n0_19; have n24 := Nw.nxt e21 n0_19 nx22; refine wla rfl rfl (q_assign (v := v22) rfl rfl) ?_; refine wl_nil ?_; refine bk_n ?_; refine W_th ?_; refine W_reg (by kernel_rfl) ?_; refine wla rfl rfl (q_addI rfl s13_19 rfl) ?_; refine wla rfl rfl (q_move (v := (i64 ((wI (s4.2 + 1))))) rfl rfl) ?_; refine wl_nil ?_; obtain rfl := osi H4; exact ⟨_, rfl, v22, s1_19, rfl, s11_19, s12_19, rfl, s40_19, e23, o22, n24⟩
    replace H4 := (if_neg (of_decide_eq_false hb6)).symm.trans H4; refine W_exit ?_; refine th_x ?_; obtain rfl := osi H4; obtain rfl := hr4 _ rfl; refine th_x ?_; refine bk_x ?_; exact ⟨v5_5, s5_5, s40_5, hE5, o0_5, n0_5⟩
  rintro _ w27 ⟨v5_27, s5_27, s40_27, hE27, o0_27, n0_27⟩; refine W_th ?_; refine W_seq ?_; refine W_reg (by kernel_rfl) ?_; refine wla rfl rfl (q_move (v := v5_27) rfl s5_27) ?_; refine wla rfl rfl (q_assign (v := v5_27) rfl rfl) ?_; refine wl_nil ?_; refine W_th ?_; refine W_ret ?_; obtain rfl := osi H; refine rt1 v5_27 rfl rfl rfl s40_27 ?_; exact ⟨v5_27, rfl, hE27, n0_27, (o0_27.weak (Sc.stab _) (fun _ _ => trivial))⟩
end Gk

/- Arrays: as values, and in blocks behind pointers. No condition. -/
set_option linter.unusedVariables false
set_option linter.unusedSimpArgs false
namespace Gk
open Go Go.RowKit
section
variable {P : Program} {o : Oper} {f : Nat → Value} {w : World} {x y : Operand} {t e T : TypeId} {g m n : Nat} {cs : Array Value} {u v : Value} {α : Type} {enc : α → Value} {l l' : List α} {i : Int} {a b : α}
end
section
variable {P : Program} {o : Oper} {f : Nat → Value} {w : World} {x y : Operand} {t t' : TypeId} {k : IntKind}
end
section
variable {P : Program} {fn : Func} {n : Nat} {R : Ending → World → Prop} {f : Nat → Value} {w : World} {t e T : TypeId} {a g m : Nat} {α : Type} {enc : α → Value} {l : List α}
end
end Gk

/- Functions that turn what a pointer points to: what they keep. No condition. -/
set_option linter.unusedVariables false
set_option linter.unusedSimpArgs false
namespace Gk
open Go Go.RowKit
structure ExG (S : List Value) (w w' : World) : Prop where
  os : w'.os = w.os
  output : w'.output = w.output
  size : w.heap.size ≤ w'.heap.size
  blk : ∀ k, k < w.heap.size → Av S k → w'.heap[k]? = w.heap[k]?
def NS (S : List Value) (w : World) (v : Value) : Prop := ∀ k, Hs v k → w.heap.size ≤ k ∨ ¬ Av S k
section
variable {S : List Value} {w0 w w' : World} {v v' : Value}
theorem ExG.refl (S : List Value) (w : World) : ExG S w w := ⟨rfl, rfl, Nat.le_refl _, fun _ _ _ => rfl⟩
theorem ExG.trans (h : ExG S w0 w) (x : Ext w w') : ExG S w0 w' :=
  ⟨x.os.trans h.os, x.output.trans h.output, Nat.le_trans h.size x.size, fun k hk ha => (x.blk k (Nat.lt_of_lt_of_le hk h.size)).trans (h.blk k hk ha)⟩
theorem ExG.grown (h : ExG S w0 w) (hg : Gr w w' v) (hn : NS S w0 v) : ExG S w0 w' := by
  obtain ⟨row, hg, hr⟩ := hg
  refine ⟨hg.os.trans h.os, hg.output.trans h.output, Nat.le_trans h.size hg.size, fun k hk ha => ?_⟩
  refine (hg.block k (Nat.lt_of_lt_of_le hk h.size) (fun e => ?_)).trans (h.blk k hk ha)
  rcases hn k (hr k e.symm) with h1 | h1
  · omega
  · exact h1 ha
theorem NS.ext (h : ExG S w0 w) (hn : Nw w v) : NS S w0 v := fun k hk => .inl (Nat.le_trans h.size (hn k hk))
theorem NS.nxt (h : ExG S w0 w) (h0 : NS S w0 v) (hn : Nx w v v') : NS S w0 v' := fun k hk => (hn k hk).elim (h0 k) (fun h1 => .inl (Nat.le_trans h.size h1))
theorem NS.nil (S : List Value) (w : World) : NS S w (.slice none 0 0) := fun k hk => absurd hk nh_nil
theorem Lift.exg0 (h : ExG S w0 w) : Lift w0 w S [] := ⟨fun k o ho _ ha => (h.blk k (lt_of_get ho) ha).trans ho, fun _ _ _ => trivial⟩
variable {b u : Value} {e T : TypeId} {g : Nat} {cs : Array Value}
theorem av_one {k : Nat} (h : ¬ Hs b k) : Av [b] k := ⟨h, trivial⟩
theorem Ow.otherX {us : List Value} (h : Ow w e u us) (x : ExG [b] w w') (hq : Nq u b) : Ow w' e u us := by
  rcases h with h | ⟨g, cap, rfl, hc, h⟩
  · exact .inl h
  · have ha : Av [b] g := av_one (hq g (.inl (oB_pos hc)))
    obtain ⟨cur, hg, h1, h2, h3, h4⟩ := row_spec h
    have hlt := lt_of_get hg
    exact .inr ⟨g, cap, rfl, hc, h.1, .inr ⟨g, cap, cur, rfl, Nat.zero_le _, by rw [x.blk g hlt ha]; exact hg, h1, h2, h3, h4⟩⟩
theorem OwK.otherX {α : Type} {R : World → List Value → Value → α → Prop} (hR : Stab R) {L L' : List Value} {l : List α} (h : OwK R w L e u l) (x : ExG [b] w w') (hq : Nq u b) (g : Lift w w' L L') : OwK R w' L' e u l := by
  obtain ⟨us, h, hl, he⟩ := h
  exact ⟨us, h.otherX x hq, hl, fun i h1 h2 => hR _ _ _ _ _ _ g (he i h1 h2)⟩
theorem Blk.otherX (h : Blk w g T cs) (x : ExG [b] w w') (hq : Nq (bp g) b) : Blk w' g T cs := by
  unfold Blk; rw [x.blk g h.lt (av_one (hq g (hs_bp' g)))]; exact h
theorem Lift.ownX (L1 L2 : List Value) (x : ExG [b] w w') : Lift w w' (L1 ++ b :: L2) (L1 ++ b :: L2) :=
  ⟨fun k o ho _ ha => by
    obtain ⟨_, h2, _⟩ := av_append.1 ha
    exact (x.blk k (lt_of_get ho) (av_one h2)).trans ho, fun _ _ h => h⟩
theorem Ext.grownX (h : Ext w0 w) (x : ExG [b] w w') (hn : Nw w0 b) : Ext w0 w' :=
  ⟨x.os.trans h.os, x.output.trans h.output, Nat.le_trans h.size x.size, fun k hk =>
    (x.blk k (Nat.lt_of_lt_of_le hk h.size) (av_one (fun e => by have := hn k e; omega))).trans (h.blk k hk)⟩
end
end Gk

/- Slices that a function turns for its caller; functions that are values. No condition beside those of the steps. -/
set_option linter.unusedVariables false
set_option linter.unusedSimpArgs false
namespace Gk
open Go Go.RowKit
theorem NS.me {S : List Value} {w : World} {v : Value} : NS (v :: S) w v := fun k hk => .inr fun h => h.1 hk
theorem NS.nw {w : World} {u v : Value} (h : NS [v] w u) (hq : Nq u v) : Nw w u := fun k hk => (h k hk).elim id fun hn => absurd (show Av [v] k from ⟨hq k hk, trivial⟩) hn
theorem Old.exg {S : List Value} {w w' : World} {L : List Value} (h : Old w L) (x : ExG S w w') : Old w' L := fun k hk => h k (Nat.le_trans x.size hk)
section
variable {P : Program} {o : Oper} {f : Nat → Value} {w : World}
end
end Gk

/- slices.Clone over rows: the rows are shared. No condition but the length. -/
set_option linter.unusedVariables false
set_option linter.unusedSimpArgs false
namespace Gk
open Go Go.Proofs
end Gk

/- append of noughts (append(s, make(..)...)); slices.Grow on nothing; slices.Concat. No condition but the length. -/
set_option linter.unusedVariables false
set_option linter.unusedSimpArgs false
namespace Gk
open Go Go.Proofs
section
variable {P : Program} {o : Oper} {f : Nat → Value} {w : World} {L : List Value}
theorem q_cap {α : Type} {R : World → List Value → Value → α → Prop} {p : Option Addr} {n c : Nat} {x : Operand} {t e : TypeId}
    (ho : o.op = .call ⟨.builtin .cap, #[x], #[t]⟩) (ht : P.underlying t = some (.slice e)) (hx : ev f x = .slice p n c) : Qa P o f (i64 c) := by
  intro w'
  rw [exec_builtin _ ho]
  simp [builtin, Builtin.cap_, run_underlying ht, hx, goInt, i64]
theorem zeroCells_one {z : Value} (hz : z.cells = #[z]) (n : Nat) : (Builtin.zeroCells z.cells n).toList = List.replicate n z := by
  apply List.ext_getElem?
  intro i
  simp only [Builtin.zeroCells, hz]
  by_cases h : i < n
  · simp [h, Nat.mod_one]
  · simp [h]
theorem run_appz {t tn ty e : TypeId} {z v : Value} {bytes : Nat} {us : List Value} (T : TyS P t e z bytes) (htn : P.underlying tn = some (.int .i64)) (h1 : z.oneCell' = true) (h : Ow w e v us) (n : Nat) (hm : us.length + n ≤ most) :
    ∃ v' w', (Builtin.append_ #[t, tn] ty #[v, i64 n]).run P w = .ok v' w' ∧ Ow w' e v' (us ++ List.replicate n z) ∧ Gr w w' v ∧ Nx w v v' := by
  obtain ⟨i, hi, i1, i2, i3⟩ := info_parts T.info
  obtain ⟨b1, b2, b3⟩ := mem_most hm T.fit
  obtain ⟨c1, c2, c3⟩ := mem_most (show n ≤ most by omega) T.fit
  have h63 : ((us.length + n : Nat) : Int) ≤ 9223372036854775807 := by simp only [most] at hm; omega
  have hw : IntKind.i64.wrap (n : Int) = n := by rw [IntKind.wrap_i64]; simp only [most] at hm; omega
  have h48i : ¬ (281474976710656 < (n : Int) * (i.bytes : Int)) := by rw [← Int.natCast_mul, i3]; omega
  have hneg : ¬ ((n : Int) < 0) := by omega
  have made : ∀ (old : Nat), (w.drew.alloc (.cells (us.toArray ++ Builtin.zeroCells z.cells n ++ Builtin.zeroCells z.cells (grownCap w (us.length + n) old e - (us.length + n))) e)).ownsRow 0 e 1
        (.slice (some ⟨w.heap.size, 0, none⟩) (us.length + n) (grownCap w (us.length + n) old e)) (us.length + n) (us ++ List.replicate n z) := fun old => by
    have hge := grownCap_ge w (us.length + n) old e
    refine ⟨by simp, .inr ⟨w.heap.size, _, _, rfl, Nat.zero_le _, heap_alloc_new w.drew _, hge, grownCap_le_maxLen w _ old e b3, ?_, ?_⟩⟩
    · simp only [Array.size_append, List.size_toArray, size_zeroCells, T.cell]
      simp; omega
    · simp only [Array.toList_append, zeroCells_one T.cell]
      exact List.take_left' (by simp)
  have hlen : (us ++ List.replicate n z).length = us.length + n := by simp
  have hnxn : ∀ (v : Value) (n c : Nat), Nx w v (.slice (some ⟨w.heap.size, 0, none⟩) n c) := fun v n c => (Nw.mk w n c).nx v
  by_cases hn : n = 0
  · subst hn
    refine ⟨v, w, ?_, by simpa using h, Gr.refl w v, Nx.refl w v⟩
    have hw0 : IntKind.i64.wrap 0 = 0 := by rw [IntKind.wrap_i64]; rfl
    rcases h with ⟨pv, rfl, rfl⟩ | ⟨g, cap', rfl, hc0, h⟩
    · cases pv <;> simp [Builtin.append_, run_underlying T.sl, run_underlying htn, Go.sizeOf, typeInfo, hi, i64, asInt, asIntOf, storeCells, hw0]
    · obtain ⟨cur, hg, hc, _⟩ := row_spec h
      simp [Builtin.append_, run_underlying T.sl, run_underlying htn, Go.sizeOf, typeInfo, hi, i64, asInt, asIntOf, storeCells, hw0, hc]
  · rcases h with ⟨pv, rfl, rfl⟩ | ⟨g, cap', rfl, hc0, h⟩
    · have hold : (Builtin.firstCells i.size 0 (.slice pv 0 0)).run P w.drew = .ok ([] : List Value).toArray w.drew := by
        cases pv <;> simp [Builtin.firstCells, loadCells, loadCellsFrom]
      have hr := Lib.run_append_grow_zeros (P := P) w t tn ty e i z .i64 .i64 T.sl htn hi i1 pv 0 0 [] hold n (by omega) (by omega) (by omega) (by simpa using h63) (by rw [i3]; rw [Nat.mul_comm]; exact c2) (by rw [i3]; exact growslice_fits (by omega) (by simpa using b1))
      have hmk := made 0
      exact ⟨_, _, hr, Ow.mk (by simp) hmk, Gr.of ⟨rfl, rfl, rfl, by simp, fun k hk _ => alloc_old w.drew _ k hk⟩, hnxn _ _ _⟩
    · obtain ⟨cur, hg, hc, hcm, hcs, htake⟩ := row_spec h
      by_cases hroom : us.length + n ≤ cap'
      · have hst := run_storeCells_at P g us.length e (List.replicate n z) 0 cur w hg (by rw [hcs]; simp; omega) (fun v hv => by rw [(List.mem_replicate.1 hv).2]; exact h1)
        have hr : (Builtin.append_ #[t, tn] ty #[.slice (some ⟨g, 0, none⟩) us.length cap', i64 n]).run P w = .ok (.slice (some ⟨g, 0, none⟩) (us.length + n) cap') (w.setRow g (cur.toList.take us.length ++ List.replicate n z ++ cur.toList.drop (us.length + n)).toArray) := by
          simp only [Nat.add_zero, List.length_replicate] at hst
          have hz0 : ¬ (n * i.size = 0) := by rw [i2]; omega
          simp [Builtin.append_, run_underlying T.sl, run_underlying htn, Go.sizeOf, typeInfo, zeroValue, hi, i1, i64, asInt, asIntOf, hw, hneg, h48i, hroom, hz0, i2, zeroCells_one T.cell, add_off, hst, hn]
        refine ⟨_, _, hr, Ow.mk hlen.symm ⟨by simp, .inr ⟨g, cap', _, rfl, Nat.zero_le _, setRow_heap w g cur _ e _ hg, hroom, hcm, ?_, ?_⟩⟩,
          Gr.of ⟨rfl, rfl, rfl, by simp, fun k _ hk => setRow_other w g k _ (fun e => hk (by rw [oB_pos hc0, e]))⟩, fun k hk => .inl (.inl (by have := hs_sl hk; rw [oB_pos hc0] at *; exact this))⟩
        · simp only [List.size_toArray, List.length_append, List.length_take, List.length_drop, Array.length_toList, List.length_replicate]
          omega
        · rw [Nat.mul_one] at htake
          rw [htake]
          exact List.take_left' (by simp)
      · have holds : ∀ j u, us[j]? = some u → w.cell? ((⟨g, 0, none⟩ : Addr).add j) = some u := World.ownsRow.cells h (g := g) rfl
        have hold : (Builtin.firstCells i.size us.length (.slice (some ⟨g, 0, none⟩) us.length cap')).run P w.drew = .ok us.toArray w.drew := by
          have := run_firstCells_some (P := P) w.drew i.size us.length ⟨g, 0, none⟩ us.length cap' us (by rw [i2]; simp) (fun j u hj => holds j u hj)
          exact this
        have hr := Lib.run_append_grow_zeros (P := P) w t tn ty e i z .i64 .i64 T.sl htn hi i1 (some ⟨g, 0, none⟩) us.length cap' us hold n (by omega) (by omega) (by omega) h63 (by rw [i3]; rw [Nat.mul_comm]; exact c2) (by rw [i3]; exact growslice_fits (by omega) b1)
        exact ⟨_, _, hr, Ow.mk hlen.symm (made cap'), Gr.of ⟨rfl, rfl, rfl, by simp, fun k hk _ => alloc_old w.drew _ k hk⟩, hnxn _ _ _⟩
theorem stp_appz {α : Type} {R : World → List Value → Value → α → Prop} (hR : Stab R) {s x : Operand} {t tn e : TypeId} {z v : Value} {bytes : Nat} {l r : List α} {n : Int} {a : α} (L1 L2 : List Value)
    (ho : o.op = .call ⟨.builtin .append, #[s, x], #[t, tn]⟩) (T : TyS P t e z bytes) (htn : P.underlying tn = some (.int .i64)) (h1 : z.oneCell' = true) (hs : ev f s = v) (hx : ev f x = i64 n) (h : OwK R w (L1 ++ v :: L2) e v l) {m : List α} (hz : makeL n a = some m) (hza : ∀ w L, R w L z a) (hm : appL l m = some r)
    {K : Value → World → Prop} (hk : ∀ v' w', OwK R w' (L1 ++ v' :: L2) e v' r → Gr w w' v → Nx w v v' → Lift w w' (L1 ++ v :: L2) (L1 ++ v' :: L2) → K v' w') : Stp P o f w K := by
  obtain ⟨us, hown, hl, he⟩ := h
  obtain ⟨hmost, rfl⟩ := appL_some.1 hm
  unfold makeL at hz
  split at hz
  · rename_i hn
    obtain ⟨k, rfl⟩ := Int.eq_ofNat_of_zero_le hn.1
    obtain rfl := Option.some.inj hz
    simp only [Int.toNat_natCast, List.length_replicate] at hmost ⊢
    obtain ⟨v', w', hr, h2, h3, h4⟩ := run_appz (ty := o.type) T htn h1 hown k (by omega)
    have hlift := Lift.own L1 L2 h3 h4
    refine stp_of_run (v := v') (w' := w') ?_ (hk _ _ ⟨us ++ List.replicate k z, h2, by simp [hl], fun i a1 a2 => ?_⟩ h3 h4 hlift)
    · rw [exec_builtin _ ho]
      simp [builtin, hs, hx, hr]
    · by_cases hi : i < us.length
      · rw [List.getElem_append_left hi, List.getElem_append_left (by omega)]
        exact hR _ _ _ _ _ _ hlift (he i hi (by omega))
      · rw [List.getElem_append_right (by omega), List.getElem_append_right (by omega), List.getElem_replicate, List.getElem_replicate]
        exact hza _ _
  · cases hz
end
def slices_Grow (a0 : List UInt8) (n : Int) : Option (List UInt8) := if 0 ≤ n ∧ n ≤ most then some [] else none
set_option maxRecDepth 100000 in
set_option maxHeartbeats 8000000 in
theorem slices_Grow_calls (a0 : List UInt8) (n : Int) (p0 : Value) (r : List UInt8) (w0 : World) (hp0 : p0 = .slice none 0 0) (H : slices_Grow a0 n = some r) :
    Calls Try.prog 41 [p0, i64 n].toArray w0 (fun e w' => ∃ u0 : Value, e = .returned u0 ∧ Ext w0 w' ∧ Nw w0 u0 ∧ OwK (Sc u8) w' [] 5 u0 r) := by
  subst hp0
  unfold slices_Grow at H
  split at H
  case isFalse => cases H
  rename_i hn
  obtain rfl := osi H; have hE : Ext w0 w0 := Ext.refl w0; obtain ⟨k, rfl⟩ := Int.eq_ofNat_of_zero_le hn.1
  have hmo : k ≤ 5000000000000 := by have := hn.2; simp only [most] at this; omega
  have hk0 : wI ((k : Int) - wI (0 - 0)) = k := by rw [wI_of (x := 0 - 0) (by decide) (by decide), wI_of (by omega) (by omega)]; omega
  refine calls_W (n := 27) Try.func41 rfl rfl rfl ?_; refine W_seq ?_; refine W_reg (by kernel_rfl) ?_; refine wla rfl rfl (q_assign (v := (.slice none 0 0)) rfl rfl) ?_; refine wl_nil ?_; refine W_th ?_; refine W_seq ?_; refine W_seq ?_; refine W_reg (by kernel_rfl) ?_; refine wla rfl rfl (q_move (v := (i64 k)) rfl rfl) ?_; refine wla rfl rfl (q_ltI rfl rfl rfl) ?_; refine wl_nil ?_; refine W_th ?_; refine W_cond _ rfl rfl (fun hb => ?_) (fun hb => ?_)
  · have := of_decide_eq_true hb; omega
  refine W_skip ?_; refine W_th ?_; refine W_seq ?_; refine W_seq ?_; refine W_reg (by kernel_rfl) ?_; refine wla rfl rfl (q_move (v := (i64 k)) rfl rfl) ?_; refine wla rfl rfl (q_move (v := (.slice none 0 0)) rfl rfl) ?_; refine wla rfl rfl (q_cap (α := UInt8) (R := Sc u8) rfl T22.sl rfl) ?_; refine wla rfl rfl (q_move (v := (.slice none 0 0)) rfl rfl) ?_; refine wla rfl rfl (q_len_nil rfl T22.sl rfl) ?_; refine wla rfl rfl (q_subI rfl rfl rfl) ?_; refine wla rfl rfl (q_subI rfl rfl rfl) ?_; refine wla rfl rfl (q_assign (v := (i64 (wI ((k : Int) - wI (0 - 0))))) rfl rfl) ?_; refine wl_nil ?_; refine W_th ?_; refine W_seq ?_; refine W_reg (by kernel_rfl) ?_; refine wla rfl rfl (q_move (v := (i64 k)) rfl (by show i64 _ = i64 _; rw [hk0])) ?_
  refine wla rfl rfl (q_gtI rfl rfl rfl) ?_; refine wl_nil ?_; refine W_th ?_; refine W_cond _ rfl rfl (fun hb => ?_) (fun hb => ?_)
  · refine W_reg (by kernel_rfl) ?_; refine wla rfl rfl (q_move (v := (.slice none 0 0)) rfl rfl) ?_; refine wla rfl rfl (q_move (v := (.slice none 0 0)) rfl rfl) ?_; refine wla rfl rfl (q_cap (α := UInt8) (R := Sc u8) rfl T22.sl rfl) ?_; refine wla rfl rfl (q_slice (l := ([] : List UInt8)) (m := []) (R := Sc u8) (w := w0) (L := []) (a := 0) (b := 0) rfl T22 rfl (SlK.nil _ _ _) rfl rfl rfl) ?_; refine wla rfl rfl (q_move (v := (i64 k)) rfl (by show i64 _ = i64 _; rw [hk0])) ?_
    refine wls rfl rfl (stp_appz (R := (Sc u8)) (v := (.slice none 0 0)) (l := []) (r := List.replicate k 0) (m := List.replicate k 0) (n := (k : Int)) (a := 0) (Sc.stab _) [] [] rfl T22 Try.underlying3 rfl rfl rfl (OwK.nil _ _ _ _) (by unfold makeL; rw [if_pos hn]; simp) (fun _ _ => rfl) (by unfold appL; rw [if_pos (by simp; omega)]; rfl) ?_)
    intro v1 w1 o1 g1 nx1 l1; obtain ⟨us, hu, hl, he⟩ := o1
    rcases hu with ⟨p, rfl, rfl⟩ | ⟨g, cap, rfl, hc, hrow⟩
    · have : 0 < (k : Int) := of_decide_eq_true hb
      simp at hl; omega
    have e1 : Ext w0 w1 := hE.grown g1 (Nw.nil _); have n1 : Nw w0 (.slice (some ⟨g, 0, none⟩) us.length cap) := Nw.nxt hE (Nw.nil _) nx1; have h1 : SlK (Sc u8) w1 [] (.slice (some ⟨g, 0, none⟩) us.length cap) (List.replicate k (0 : UInt8)) := (OwK.rd (Sc.stab _) (L := []) ⟨us, .inr ⟨g, cap, rfl, hc, hrow⟩, hl, fun i a b => he i a b⟩)
    have hsub : subV (.slice (some ⟨g, 0, none⟩) us.length cap) (0 : Int).toNat (0 : Int).toNat = .slice (some ⟨g, 0, none⟩) 0 cap := by
      unfold subV
      by_cases h0 : cap = 0
      · omega
      simp [Addr.add]
    refine wla rfl rfl (q_move (v := (.slice none 0 0)) rfl rfl) ?_; refine wla rfl rfl (q_len_nil rfl T22.sl rfl) ?_; refine wla rfl rfl (q_slice (m := []) (a := 0) (b := 0) rfl T22 rfl h1 rfl rfl (by unfold subL; rw [if_pos (by simp)]; simp)) ?_
    refine wla rfl rfl (q_assign (v := .slice (some ⟨g, 0, none⟩) 0 cap) rfl hsub) ?_; refine wl_nil ?_; refine W_th ?_; refine W_seq ?_; refine W_reg (by kernel_rfl) ?_; refine wla rfl rfl (q_move (v := .slice (some ⟨g, 0, none⟩) 0 cap) rfl rfl) ?_; refine wla rfl rfl (q_assign (v := .slice (some ⟨g, 0, none⟩) 0 cap) rfl rfl) ?_; refine wl_nil ?_; refine W_th ?_; refine W_ret ?_; refine rt1 (.slice (some ⟨g, 0, none⟩) 0 cap) rfl rfl rfl rfl ?_; obtain ⟨cur, hg, a1, a2, a3, a4⟩ := row_spec hrow; refine ⟨_, rfl, e1, fun q hq => n1 q ?_, [], .inr ⟨g, cap, rfl, hc, rfl, .inr ⟨g, cap, cur, rfl, Nat.zero_le _, hg, Nat.zero_le _, a2, a3, by simp⟩⟩, rfl, fun i h => absurd h (by simp)⟩; have := hs_sl hq; rw [oB_pos hc] at this; exact .inl (by rw [oB_pos hc]; exact this)
  refine W_skip ?_; refine W_th ?_; refine W_seq ?_; refine W_reg (by kernel_rfl) ?_; refine wla rfl rfl (q_move (v := (.slice none 0 0)) rfl rfl) ?_; refine wla rfl rfl (q_assign (v := (.slice none 0 0)) rfl rfl) ?_; refine wl_nil ?_; refine W_th ?_; refine W_ret ?_; refine rt1 (.slice none 0 0) rfl rfl rfl rfl ?_; exact ⟨_, rfl, hE, Nw.nil _, OwK.nil _ _ _ _⟩
noncomputable def slices_Concat_sbytebyte (a0slices : List (List UInt8)) : Option (List UInt8) :=
((iterC (fun s1 : Int × Int =>
(if s1.2 < (a0slices.length : Int) then
((idx a0slices s1.2).bind fun c4 =>
(if (wI (s1.1 + (c4.length : Int))) < 0 then none
else some (.inl ((wI (s1.1 + (c4.length : Int))), (wI (s1.2 + 1))))))
else some (.inr s1.1))) (0, 0)).bind fun x1 =>
((slices_Grow ([] : List UInt8) x1).bind fun r9 =>
((iterC (fun s12 : List UInt8 × Int =>
(if s12.2 < (a0slices.length : Int) then
((idx a0slices s12.2).bind fun c15 =>
((appL s12.1 c15).bind fun c17 => some (.inl (c17, (wI (s12.2 + 1))))))
else some (.inr s12.1))) (r9, 0)).bind fun x12 => some x12)))
set_option maxRecDepth 100000 in
set_option maxHeartbeats 8000000 in
theorem slices_Concat_sbytebyte_calls (a0slices : List (List UInt8)) (p0 : Value) (r : List UInt8) (w0 : World) (hp0 : Rw w0 [] p0 a0slices) (H : slices_Concat_sbytebyte a0slices = some r) :
    Calls Try.prog 35 [p0].toArray w0 (fun e w' => ∃ u0 : Value, e = .returned u0 ∧ Ext w0 w' ∧ Nw w0 u0 ∧ OwK (Sc u8) w' [] 5 u0 r) := by
  have hE : Ext w0 w0 := Ext.refl w0; unfold slices_Concat_sbytebyte at H; refine calls_W (n := 36) Try.func35 rfl rfl rfl ?_; refine W_seq ?_; refine W_reg (by kernel_rfl) ?_; refine wla rfl rfl (q_assign (v := (.slice none 0 0)) rfl rfl) ?_; refine wl_nil ?_; refine W_th ?_; refine W_seq ?_; refine W_reg (by kernel_rfl) ?_; refine wla rfl rfl (q_assign (v := (i64 0)) rfl rfl) ?_; refine wl_nil ?_; refine W_th ?_; refine W_seq ?_; refine W_seq ?_; refine W_reg (by kernel_rfl) ?_; refine wla rfl rfl (q_move (v := p0) rfl rfl) ?_; refine wla rfl rfl (q_len rfl T27.sl rfl (hp0.lift (Lift.ext hE _))) ?_; refine wla rfl rfl (q_move (v := (i64 0)) rfl rfl) ?_; refine wl_nil ?_; refine W_th ?_; obtain ⟨x1, G1, H⟩ := bsi H; refine W_mid (fun f w => f 0 = p0 ∧ f 3 = (i64 x1) ∧ f 36 = undef ∧ Ext w0 w) ?_ ?_
  · refine W_block ?_; refine W_loop (fun s1 f w => f 0 = p0 ∧ f 3 = (i64 s1.1) ∧ f 9 = p0 ∧ f 10 = (i64 ((a0slices.length : Int))) ∧ f 11 = (i64 s1.2) ∧ f 36 = undef ∧ Ext w0 w) G1 ?_ ?_
    · exact ⟨rfl, rfl, rfl, rfl, rfl, rfl, hE⟩
    rintro s1 _ _ w2 ⟨s0_2, s3_2, s9_2, s10_2, s11_2, s36_2, hE2⟩ H1 hr1; refine W_seq ?_; refine W_reg (by kernel_rfl) ?_; refine wla rfl rfl (q_ltI rfl s11_2 s10_2) ?_; refine wl_nil ?_; refine W_th ?_; refine W_seq ?_; refine W_cond _ rfl rfl (fun hb3 => ?_) (fun hb3 => ?_)
    · replace H1 := (if_pos (of_decide_eq_true hb3)).symm.trans H1; refine W_skip ?_; refine W_th ?_; refine W_seq ?_; refine W_block ?_; refine W_seq ?_; refine W_reg (by kernel_rfl) ?_; obtain ⟨c4, hc4, H1⟩ := bsi H1; refine wla rfl rfl (q_adr rfl T27 s9_2 s11_2 (hp0.lift (Lift.ext hE2 _)) hc4) ?_; refine wlq_load rfl rfl rfl T27 rfl hp0 hc4 hE2 (fun v5 ha5 => ?_); refine wla rfl rfl (q_assign (v := v5) rfl rfl) ?_; refine wl_nil ?_; refine W_th ?_; refine W_seq ?_; refine W_reg (by kernel_rfl) ?_; refine wla rfl rfl (q_move (v := (i64 s1.1)) rfl s3_2) ?_; refine wla rfl rfl (q_move (v := v5) rfl rfl) ?_; refine wla rfl rfl (q_len rfl T22.sl rfl (ha5.lift (Lift.ext hE2 _))) ?_; refine wla rfl rfl (q_addI rfl rfl rfl) ?_; refine wla rfl rfl (q_assign (v := (i64 ((wI (s1.1 + (c4.length : Int)))))) rfl rfl) ?_; refine wl_nil ?_; refine W_th ?_; refine W_seq ?_; refine W_reg (by kernel_rfl) ?_; refine wla rfl rfl (q_move (v := (i64 ((wI (s1.1 + (c4.length : Int)))))) rfl rfl) ?_; refine wla rfl rfl (q_ltI rfl rfl rfl) ?_; refine wl_nil ?_; refine W_th ?_; refine W_cond _ rfl rfl (fun hb6 => ?_) (fun hb6 => ?_)
      · replace H1 := (if_pos (of_decide_eq_true hb6)).symm.trans H1; cases H1
      replace H1 := (if_neg (of_decide_eq_false hb6)).symm.trans H1; refine W_skip ?_; refine bk_n ?_; refine W_th ?_; refine W_reg (by kernel_rfl) ?_; refine wla rfl rfl (q_addI rfl s11_2 rfl) ?_; refine wla rfl rfl (q_move (v := (i64 ((wI (s1.2 + 1))))) rfl rfl) ?_; refine wl_nil ?_; obtain rfl := osi H1; exact ⟨_, rfl, s0_2, rfl, s9_2, s10_2, rfl, s36_2, hE2⟩
    replace H1 := (if_neg (of_decide_eq_false hb3)).symm.trans H1; refine W_exit ?_; refine th_x ?_; obtain rfl := osi H1; obtain rfl := hr1 _ rfl; refine th_x ?_; refine bk_x ?_; exact ⟨s0_2, s3_2, s36_2, hE2⟩
  rintro _ w8 ⟨s0_8, s3_8, s36_8, hE8⟩; refine W_th ?_; refine W_seq ?_; refine W_reg (by kernel_rfl) ?_; refine wla rfl rfl (q_move (v := (i64 x1)) rfl s3_8) ?_; obtain ⟨r9, hr9, H⟩ := bsi H; refine wls rfl rfl (stp_call (vs := [(.slice none 0 0), (i64 x1)]) Try.func41 rfl rfl rfl (ar2 rfl rfl) (slices_Grow_calls ([] : List UInt8) x1 (.slice none 0 0) r9 _ rfl hr9) ?_); rintro _ w9 ⟨v9, rfl, x9, n9_0, o9_0⟩; refine ⟨_, rfl, ?_⟩; have o9 : OwK (Sc u8) w9 (v9 :: []) 5 v9 r9 := OwK.scal o9_0 _; have n11 := Nw.ext hE8 n9_0; have e10 := hE8.trans x9; refine wla rfl rfl (q_assign (v := v9) rfl rfl) ?_; refine wl_nil ?_; refine W_th ?_; refine W_seq ?_; refine W_seq ?_; refine W_reg (by kernel_rfl) ?_; refine wla rfl rfl (q_move (v := p0) rfl s0_8) ?_; refine wla rfl rfl (q_len rfl T27.sl rfl (hp0.lift (Lift.ext e10 _))) ?_; refine wla rfl rfl (q_move (v := (i64 0)) rfl rfl) ?_; refine wl_nil ?_; refine W_th ?_; obtain ⟨x12, G12, H⟩ := bsi H; refine W_mid (fun f w => ∃ v6_22 : Value, f 6 = v6_22 ∧ f 36 = undef ∧ Ext w0 w ∧ OwK (Sc u8) w [v6_22] 5 v6_22 x12 ∧ Nw w0 v6_22) ?_ ?_
  · refine W_block ?_; refine W_loop (fun s12 f w => ∃ v6_20 : Value, f 6 = v6_20 ∧ f 25 = p0 ∧ f 26 = (i64 ((a0slices.length : Int))) ∧ f 27 = (i64 s12.2) ∧ f 36 = undef ∧ Ext w0 w ∧ OwK (Sc u8) w [v6_20] 5 v6_20 s12.1 ∧ Nw w0 v6_20) G12 ?_ ?_
    · exact ⟨v9, rfl, rfl, rfl, rfl, s36_8, e10, o9, n11⟩
    rintro s12 _ _ w13 ⟨v6_13, s6_13, s25_13, s26_13, s27_13, s36_13, hE13, o0_13, n0_13⟩ H12 hr12; refine W_seq ?_; refine W_reg (by kernel_rfl) ?_; refine wla rfl rfl (q_ltI rfl s27_13 s26_13) ?_; refine wl_nil ?_; refine W_th ?_; refine W_seq ?_; refine W_cond _ rfl rfl (fun hb14 => ?_) (fun hb14 => ?_)
    · replace H12 := (if_pos (of_decide_eq_true hb14)).symm.trans H12; refine W_skip ?_; refine W_th ?_; refine W_seq ?_; refine W_block ?_; refine W_seq ?_; refine W_reg (by kernel_rfl) ?_; obtain ⟨c15, hc15, H12⟩ := bsi H12; refine wla rfl rfl (q_adr rfl T27 s25_13 s27_13 (hp0.lift (Lift.ext hE13 _)) hc15) ?_; refine wlq_load rfl rfl rfl T27 rfl hp0 hc15 hE13 (fun v16 ha16 => ?_); refine wla rfl rfl (q_assign (v := v16) rfl rfl) ?_; refine wl_nil ?_; refine W_th ?_; refine W_reg (by kernel_rfl) ?_; refine wla rfl rfl (q_move (v := v6_13) rfl s6_13) ?_; refine wla rfl rfl (q_move (v := v16) rfl rfl) ?_; obtain ⟨c17, hc17, H12⟩ := bsi H12; refine wls rfl rfl (stp_append (R := (Sc u8)) (v := v6_13) (u := v16) (Sc.stab _) [] [] rfl T22 rfl rfl o0_13 (ha16.lift (Lift.ext hE13 _)) (fun _ _ h => h) hc17 oc_u8 ?_); intro v17 w17 o17 g17 nx17 l17; have e18 := hE13.grown g17 n0_13; have n19 := Nw.nxt hE13 n0_13 nx17; refine wla rfl rfl (q_assign (v := v17) rfl rfl) ?_; refine wl_nil ?_; refine bk_n ?_; refine W_th ?_; refine W_reg (by kernel_rfl) ?_; refine wla rfl rfl (q_addI rfl s27_13 rfl) ?_; refine wla rfl rfl (q_move (v := (i64 ((wI (s12.2 + 1))))) rfl rfl) ?_; refine wl_nil ?_; obtain rfl := osi H12; exact ⟨_, rfl, v17, rfl, s25_13, s26_13, rfl, s36_13, e18, o17, n19⟩
    replace H12 := (if_neg (of_decide_eq_false hb14)).symm.trans H12; refine W_exit ?_; refine th_x ?_; obtain rfl := osi H12; obtain rfl := hr12 _ rfl; refine th_x ?_; refine bk_x ?_; exact ⟨v6_13, s6_13, s36_13, hE13, o0_13, n0_13⟩
  rintro _ w21 ⟨v6_21, s6_21, s36_21, hE21, o0_21, n0_21⟩; refine W_th ?_; refine W_seq ?_; refine W_reg (by kernel_rfl) ?_; refine wla rfl rfl (q_move (v := v6_21) rfl s6_21) ?_; refine wla rfl rfl (q_assign (v := v6_21) rfl rfl) ?_; refine wl_nil ?_; refine W_th ?_; refine W_ret ?_; obtain rfl := osi H; refine rt1 v6_21 rfl rfl rfl s36_21 ?_; exact ⟨v6_21, rfl, hE21, n0_21, (o0_21.weak (Sc.stab _) (fun _ _ => trivial))⟩
end Gk

/- Printed by gen.py: for each Go function a pure function, and that the Go code comes to it. No condition beside the equation that says what the pure function gives. -/
set_option linter.unusedVariables false
set_option linter.unusedSimpArgs false
namespace Gk
open Go Go.Proofs
noncomputable def matrix_reduce_1 (a0r : List UInt8) (b0 : Int) : Option Bool :=
((idx a0r b0).bind fun c1 => some (!decide (c1 = (0 : UInt8))))
set_option maxRecDepth 100000 in
set_option maxHeartbeats 8000000 in
theorem matrix_reduce_1_calls (a0r : List UInt8) (b0 : Int) (p0 : Value) (gc0 : Nat) (r : Bool) (w0 : World) (hp0 : By w0 [] p0 a0r) (hcB0 : Blk w0 gc0 3 #[(i64 b0)]) (H : matrix_reduce_1 a0r b0 = some r) :
    Calls Try.prog 37 [p0, (bp gc0)].toArray w0 (fun e w' => e = .returned (.bool r) ∧ Ext w0 w') := by
  have hE : Ext w0 w0 := Ext.refl w0; unfold matrix_reduce_1 at H; refine calls_W (n := 9) Try.func37 rfl rfl rfl ?_; refine W_seq ?_; refine W_reg (by kernel_rfl) ?_; refine wla rfl rfl (q_assign (v := (.bool false)) rfl rfl) ?_; refine wl_nil ?_; refine W_th ?_; refine W_seq ?_; refine W_reg (by kernel_rfl) ?_; refine wla rfl rfl (q_move (v := p0) rfl rfl) ?_; refine wlq rfl rfl (q_loadB (u := (i64 b0)) rfl Try.isAgg3 rfl (hcB0.ext hE) rfl) ?_; obtain ⟨c1, hc1, H⟩ := bsi H; refine wla rfl rfl (q_adr rfl T22 rfl rfl (hp0.lift (Lift.ext hE _)) hc1) ?_; refine wlq rfl rfl (q_loadS rfl T22 rfl (hp0.lift (Lift.ext hE _)) hc1) ?_; refine wla rfl rfl (q_ne8 rfl rfl (cst8 (0 : UInt8) rfl)) ?_; refine wla rfl rfl (q_assign (v := (.bool ((!decide (c1 = (0 : UInt8)))))) rfl rfl) ?_; refine wl_nil ?_; refine W_th ?_; refine W_ret ?_; obtain rfl := osi H; refine rt1 (.bool ((!decide (c1 = (0 : UInt8))))) rfl rfl rfl rfl ?_; exact ⟨rfl, hE⟩
noncomputable def matrix_reduce (a0f : Bool) (a1l : List (List UInt8)) (a2columns : Int) : Option (List (List UInt8) × List Int) :=
((iterC (fun s7 : List (List UInt8) × List Int × Int =>
(if s7.2.2 < a2columns then
(if (s7.2.1.length : Int) < (s7.1.length : Int) then
((subL s7.1 ((s7.2.1.length : Int)) ((s7.1.length : Int))).bind fun c11 =>
((lim c11.length).bind fun lim12 =>
((findAt (fun y12 => matrix_reduce_1 y12 s7.2.2) 0 c11).bind fun r12 =>
(if r12 < 0 then some (.inl (s7.1, s7.2.1, (wI (s7.2.2 + 1))))
else
((idx s7.1 ((wI ((s7.2.1.length : Int) + r12)))).bind fun c27 =>
((idx s7.1 ((s7.2.1.length : Int))).bind fun c29 =>
((idx ((s7.1.set ((s7.2.1.length : Int) : Int).toNat c27)) ((wI ((s7.2.1.length : Int) + r12)))).bind fun c33 =>
((idx ((((s7.1.set ((s7.2.1.length : Int) : Int).toNat c27)).set ((wI ((s7.2.1.length : Int) + r12)) : Int).toNat c29)) ((s7.2.1.length : Int))).bind fun c38 =>
((idx c38 s7.2.2).bind fun c40 =>
((field_Inv a0f c40).bind fun r41 =>
((idx ((((s7.1.set ((s7.2.1.length : Int) : Int).toNat c27)).set ((wI ((s7.2.1.length : Int) + r12)) : Int).toNat c29)) ((s7.2.1.length : Int))).bind fun c43 =>
((field_Scale a0f r41.1 c43).bind fun r45 =>
((iterC (fun s49 : List (List UInt8) × Int =>
(if s49.2 < (((((((s7.1.set ((s7.2.1.length : Int) : Int).toNat c27)).set ((wI ((s7.2.1.length : Int) + r12)) : Int).toNat c29)).set ((s7.2.1.length : Int) : Int).toNat r45)).length : Int) then
(if s49.2 = (s7.2.1.length : Int) then some (.inl (s49.1, (wI (s49.2 + 1))))
else
((idx s49.1 s49.2).bind fun c55 =>
((idx c55 s7.2.2).bind fun c58 =>
((idx s49.1 ((s7.2.1.length : Int))).bind fun c59 =>
((field_Sum a0f c55 c58 c59).bind fun r61 => some (.inl ((s49.1.set (s49.2 : Int).toNat r61), (wI (s49.2 + 1)))))))))
else some (.inr s49.1))) ((((((s7.1.set ((s7.2.1.length : Int) : Int).toNat c27)).set ((wI ((s7.2.1.length : Int) + r12)) : Int).toNat c29)).set ((s7.2.1.length : Int) : Int).toNat r45), 0)).bind fun x49 =>
((appL s7.2.1 (([s7.2.2] : List Int))).bind fun c70 => some (.inl (x49, c70, (wI (s7.2.2 + 1))))))))))))))))))
else some (.inr (s7.1, s7.2.1)))
else some (.inr (s7.1, s7.2.1)))) (a1l, ([] : List Int), 0)).bind fun x7 => some (x7.1, x7.2))
set_option maxRecDepth 100000 in
set_option maxHeartbeats 8000000 in
theorem matrix_reduce_calls (a0f : Bool) (a1l : List (List UInt8)) (a2columns : Int) (p0 : Value) (p1 : Value) (r : List (List UInt8) × List Int) (w0 : World) (L0 : List Value) (hL0 : Old w0 L0) (hp0 : Fd w0 [p1] p0 a0f) (ho1 : OwK By w0 (p1 :: L0) 22 p1 a1l) (H : matrix_reduce a0f a1l a2columns = some r) :
    Calls Try.prog 26 [p0, p1, (i64 a2columns)].toArray w0 (fun e w' => ∃ u0 : Value, e = .returned u0 ∧ ExG [p1] w0 w' ∧ OwK By w' (p1 :: L0) 22 p1 r.1 ∧ Nw w0 u0 ∧ OwK (Sc i64) w' [] 3 u0 r.2) := by
  have hE : ExG [p1] w0 w0 := ExG.refl _ w0; unfold matrix_reduce at H; refine calls_W (n := 110) Try.func26 rfl rfl rfl ?_; refine W_seq ?_; refine W_reg (by kernel_rfl) ?_; refine wla rfl rfl (q_assign (v := (.slice none 0 0)) rfl rfl) ?_; refine wl_nil ?_; refine W_th ?_; refine W_seq ?_; refine W_reg (by kernel_rfl) ?_; refine wla rfl rfl (q_assign (v := (.slice none 0 0)) rfl rfl) ?_; refine wl_nil ?_; refine W_th ?_; refine W_seq ?_; refine W_seq ?_; refine W_reg (by kernel_rfl) ?_; refine wls rfl rfl (stp_allocL (z := (i64 0)) (cs := #[(i64 0)]) (p1 :: L0) rfl Try.zeroValue3 rfl ?_); intro g1 w1 o1 n1 g1r l1; have x1 := grown_ext g1r; have q2 : Nq p1 (bp g1) := ho1.nq n1; replace ho1 := ho1.extL (SlK.stab (Sc.stab _)) x1 (Lift.call _ x1 n1); have n4 := NS.ext hE n1; have e3 := hE.trans x1; refine wln rfl rfl (stp_storeL (u := (i64 0)) [] (p1 :: L0) rfl Try.sizeOf3 rfl rfl o1 rfl ?_); intro w5 o5 g5 l5; replace ho1 := ho1.other (SlK.stab (Sc.stab _)) g5 q2 l5; have e6 := e3.grown g5 n4; refine wl_nil ?_; refine W_th ?_; obtain ⟨x7, G7, H⟩ := bsi H; refine W_mid (fun f w => ∃ v7_88 : Value, f 1 = p1 ∧ f 7 = v7_88 ∧ f 110 = undef ∧ ExG [p1] w0 w ∧ OwK By w (p1 :: v7_88 :: L0) 22 p1 x7.1 ∧ NS [p1] w0 p1 ∧ OwK (Sc i64) w (p1 :: v7_88 :: L0) 3 v7_88 x7.2 ∧ NS [p1] w0 v7_88 ∧ Nq p1 v7_88) ?_ ?_
  · refine W_block ?_; refine W_loop (fun s7 f w => ∃ v7_86 : Value, ∃ g8_86 : Nat, f 0 = p0 ∧ f 1 = p1 ∧ f 2 = (i64 a2columns) ∧ f 7 = v7_86 ∧ f 8 = (bp g8_86) ∧ f 110 = undef ∧ ExG [p1] w0 w ∧ OwK By w (p1 :: v7_86 :: (bp g8_86) :: L0) 22 p1 s7.1 ∧ NS [p1] w0 p1 ∧ OwK (Sc i64) w (p1 :: v7_86 :: (bp g8_86) :: L0) 3 v7_86 s7.2.1 ∧ NS [p1] w0 v7_86 ∧ Blk w g8_86 3 #[(i64 s7.2.2)] ∧ NS [p1] w0 (bp g8_86) ∧ Nq p1 v7_86 ∧ Nq p1 (bp g8_86) ∧ Nq v7_86 (bp g8_86)) G7 ?_ ?_
    · exact ⟨(.slice none 0 0), g1, rfl, rfl, rfl, rfl, rfl, rfl, e6, (ho1.weak (SlK.stab (Sc.stab _)) (fun _ h => ⟨h.2.1, nh_nil, h.1, h.2.2⟩)), NS.me, (OwK.nil _ _ _ _), (NS.nil _ _), o5, n4, (Nq.nil _).symm, q2, (Nq.nil _)⟩
    rintro s7 _ _ w8 ⟨v7_8, g8_8, s0_8, s1_8, s2_8, s7_8, s8_8, s110_8, hE8, o0_8, n0_8, o1_8, n1_8, o2_8, n2_8, q0_1_8, q0_2_8, q1_2_8⟩ H7 hr7; refine W_seq ?_; refine W_seq ?_; refine W_reg (by kernel_rfl) ?_; refine wlq rfl rfl (q_loadB (u := (i64 s7.2.2)) rfl Try.isAgg3 (by exact s8_8) o2_8 rfl) ?_; refine wla rfl rfl (q_move (v := (i64 a2columns)) rfl s2_8) ?_; refine wla rfl rfl (q_ltI rfl rfl rfl) ?_; refine wlb rfl rfl (q_move (v := (.bool ((decide (s7.2.2 < a2columns))))) rfl rfl) (fun hb9 => ?_) (fun hb9 => ?_)
    · replace H7 := (if_pos (of_decide_eq_true hb9)).symm.trans H7; refine wla rfl rfl (q_move (v := v7_8) rfl s7_8) ?_; refine wla rfl rfl (q_len rfl T60.sl rfl (o1_8.rd (Sc.stab _))) ?_; refine wla rfl rfl (q_move (v := p1) rfl s1_8) ?_; refine wla rfl rfl (q_len rfl T27.sl rfl (o0_8.rd (SlK.stab (Sc.stab _)))) ?_; refine wla rfl rfl (q_ltI rfl rfl rfl) ?_; refine wla rfl rfl (q_pick_t (v := (.bool ((decide ((s7.2.1.length : Int) < (s7.1.length : Int)))))) rfl rfl rfl) ?_; refine wl_nil ?_; refine W_th ?_; refine W_cond _ rfl rfl (fun hb10 => ?_) (fun hb10 => ?_)
      · replace H7 := (if_pos (of_decide_eq_true hb10)).symm.trans H7; refine W_skip ?_; refine W_th ?_; refine W_seq ?_; refine W_block ?_; refine W_seq ?_; refine W_reg (by kernel_rfl) ?_; refine wla rfl rfl (q_move (v := v7_8) rfl s7_8) ?_; refine wla rfl rfl (q_len rfl T60.sl rfl (o1_8.rd (Sc.stab _))) ?_; refine wla rfl rfl (q_assign (v := (i64 ((s7.2.1.length : Int)))) rfl rfl) ?_; refine wl_nil ?_; refine W_th ?_; refine W_seq ?_; refine W_reg (by kernel_rfl) ?_; refine wla rfl rfl (q_move (v := p1) rfl s1_8) ?_; refine wla rfl rfl (q_move (v := (i64 ((s7.2.1.length : Int)))) rfl rfl) ?_; obtain ⟨c11, hc11, H7⟩ := bsi H7; refine wla rfl rfl (q_slice (a := (s7.2.1.length : Int)) (b := (s7.1.length : Int)) rfl T27 rfl (o0_8.rd (SlK.stab (Sc.stab _))) rfl rfl hc11) ?_; refine wla rfl rfl (q_mkfuncN (vs := [(bp g8_8)]) rfl (ar1 s8_8)) ?_; obtain ⟨lim12, hl12, H7⟩ := bsi H7; obtain ⟨r12, hr12, H7⟩ := bsi H7; refine wls rfl rfl (stp_call (vs := [(subV p1 ((s7.2.1.length : Int) : Int).toNat ((s7.1.length : Int) : Int).toNat), (.func (.func 37) #[] [(bp g8_8)].toArray)]) Try.func36 rfl rfl rfl (ar2 rfl rfl) (IndexFunc_rows_calls (subV p1 ((s7.2.1.length : Int) : Int).toNat ((s7.1.length : Int) : Int).toNat) c11 37 _ Try.func37 rfl rfl [(bp g8_8)] (fun y12 => matrix_reduce_1 y12 s7.2.2) r12 _ (SlK.cut (L := []) (o0_8.rd (SlK.stab (Sc.stab _))) hc11) (lim_lt hl12) hr12 (fun y12 _ b w' xE hb u hu => matrix_reduce_1_calls y12 s7.2.2 u g8_8 b w' hu (o2_8.ext xE) hb)) ?_); rintro _ w12 ⟨rfl, x12⟩; refine ⟨_, rfl, ?_⟩; replace o0_8 := o0_8.extL (SlK.stab (Sc.stab _)) x12 (Lift.ext x12 _); replace o1_8 := o1_8.extL (Sc.stab _) x12 (Lift.ext x12 _); replace o2_8 := o2_8.ext x12; have e13 := hE8.trans x12; refine wla rfl rfl (q_assign (v := (i64 r12)) rfl rfl) ?_; refine wl_nil ?_; refine W_th ?_; refine W_seq ?_; refine W_seq ?_; refine W_reg (by kernel_rfl) ?_; refine wla rfl rfl (q_move (v := (i64 r12)) rfl rfl) ?_; refine wla rfl rfl (q_ltI rfl rfl rfl) ?_; refine wl_nil ?_; refine W_th ?_; refine W_cond _ rfl rfl (fun hb14 => ?_) (fun hb14 => ?_)
        · replace H7 := (if_pos (of_decide_eq_true hb14)).symm.trans H7; refine W_exit ?_; refine th_x ?_; refine bk_x ?_; refine W_th ?_; refine W_seq ?_; refine W_seq ?_; refine W_reg (by kernel_rfl) ?_; refine wlq rfl rfl (q_loadB (u := (i64 s7.2.2)) rfl Try.isAgg3 (by exact s8_8) o2_8 rfl) ?_; refine wl_nil ?_; refine W_th ?_; refine W_reg (by kernel_rfl) ?_; refine wls rfl rfl (stp_allocL (z := (i64 0)) (cs := #[(i64 0)]) (p1 :: v7_8 :: (bp g8_8) :: L0) rfl Try.zeroValue3 rfl ?_); intro g15 w15 o15 n15 g15r l15; have x15 := grown_ext g15r; have q16 : Nq p1 (bp g15) := o0_8.nq n15; have q17 : Nq v7_8 (bp g15) := o1_8.nq n15; have q18 : Nq (bp g8_8) (bp g15) := o2_8.nq n15; replace o0_8 := o0_8.extL (SlK.stab (Sc.stab _)) x15 (Lift.call _ x15 n15); replace o1_8 := o1_8.extL (Sc.stab _) x15 (Lift.call _ x15 n15); replace o2_8 := o2_8.ext x15; have n20 := NS.ext e13 n15; have e19 := e13.trans x15; refine wln rfl rfl (stp_storeL (u := (i64 s7.2.2)) [] (p1 :: v7_8 :: (bp g8_8) :: L0) rfl Try.sizeOf3 rfl rfl o15 rfl ?_); intro w21 o21 g21 l21; replace o0_8 := o0_8.other (SlK.stab (Sc.stab _)) g21 q16 l21; replace o1_8 := o1_8.other (Sc.stab _) g21 q17 l21; replace o2_8 := o2_8.other g21 q18; have e22 := e19.grown g21 n20; refine wl_nil ?_; refine W_th ?_; refine W_reg (by kernel_rfl) ?_; refine wlq rfl rfl (q_loadB (u := (i64 s7.2.2)) rfl Try.isAgg3 rfl o21 rfl) ?_; refine wla rfl rfl (q_addI rfl rfl rfl) ?_; refine wln rfl rfl (stp_storeL (u := (i64 ((wI (s7.2.2 + 1))))) [] (p1 :: v7_8 :: (bp g8_8) :: L0) rfl Try.sizeOf3 rfl rfl o21 rfl ?_); intro w23 o23 g23 l23; replace o0_8 := o0_8.other (SlK.stab (Sc.stab _)) g23 q16 l23; replace o1_8 := o1_8.other (Sc.stab _) g23 q17 l23; replace o2_8 := o2_8.other g23 q18; have e24 := e22.grown g23 n20; refine wl_nil ?_; obtain rfl := osi H7; exact ⟨_, rfl, v7_8, g15, s0_8, s1_8, s2_8, s7_8, rfl, s110_8, e24, (o0_8.weak (SlK.stab (Sc.stab _)) (fun _ h => ⟨h.2.1, h.2.2.1, h.1, h.2.2.2.2⟩)), n0_8, (o1_8.weak (Sc.stab _) (fun _ h => ⟨h.2.1, h.2.2.1, h.1, h.2.2.2.2⟩)), n1_8, o23, n20, q0_1_8, q16, q17⟩
        replace H7 := (if_neg (of_decide_eq_false hb14)).symm.trans H7; refine W_skip ?_; refine W_th ?_; refine W_seq ?_; refine W_draw [11, 15] [(0, 0), (1, 0), (2, 0), (3, 0), (4, 0), (5, 0), (6, 0), (7, 0), (8, 0), (9, 0), (10, 0), (11, 1), (12, 0), (13, 0), (14, 0), (15, 1), (16, 0), (17, 2), (18, 0), (19, 2)] mixed (by kernel_rfl) (by kernel_rfl) (by kernel_rfl) (by kernel_rfl) ?_; have x25 := Ext.drew w12; replace o0_8 := o0_8.extL (SlK.stab (Sc.stab _)) x25 (Lift.ext x25 _); replace o1_8 := o1_8.extL (Sc.stab _) x25 (Lift.ext x25 _); replace o2_8 := o2_8.ext x25; have e26 := e13.trans x25; refine wsa rfl rfl rfl (q_move (v := p1) rfl s1_8) ?_; refine wsa rfl rfl rfl (q_move (v := (i64 ((s7.2.1.length : Int)))) rfl rfl) ?_; refine wsa rfl rfl rfl (q_move (v := p1) rfl s1_8) ?_; refine wsa rfl rfl rfl (q_move (v := (i64 ((s7.2.1.length : Int)))) rfl rfl) ?_; refine wsa rfl rfl rfl (q_move (v := (i64 r12)) rfl rfl) ?_; refine wsa rfl rfl rfl (q_addI rfl rfl rfl) ?_; refine wsa rfl rfl rfl (q_move (v := p1) rfl s1_8) ?_; refine wsa rfl rfl rfl (q_move (v := (i64 ((s7.2.1.length : Int)))) rfl rfl) ?_; refine wsa rfl rfl rfl (q_move (v := (i64 r12)) rfl rfl) ?_; refine wsa rfl rfl rfl (q_addI rfl rfl rfl) ?_; obtain ⟨c27, hc27, H7⟩ := bsi H7; refine wsa rfl rfl rfl (q_adr rfl T27 rfl rfl (o0_8.rd (SlK.stab (Sc.stab _))) hc27) ?_; refine wsq_loadO (SlK.stab (Sc.stab _)) rfl rfl rfl rfl T27 rfl o0_8 hc27 (fun v28 i28 => ?_); replace i28 : By (World.drew w12) (p1 :: v7_8 :: (bp g8_8) :: L0) v28 c27 := i28; refine wsa rfl rfl rfl (q_move (v := p1) rfl s1_8) ?_; refine wsa rfl rfl rfl (q_move (v := (i64 ((s7.2.1.length : Int)))) rfl rfl) ?_; obtain ⟨c29, hc29, H7⟩ := bsi H7; refine wsa rfl rfl rfl (q_adr rfl T27 rfl rfl (o0_8.rd (SlK.stab (Sc.stab _))) hc29) ?_; refine wsq_loadO (SlK.stab (Sc.stab _)) rfl rfl rfl rfl T27 rfl o0_8 hc29 (fun v30 i30 => ?_); replace i30 : By (World.drew w12) (p1 :: v7_8 :: (bp g8_8) :: L0) v30 c29 := i30; refine wsa rfl rfl rfl (q_adr rfl T27 rfl rfl (o0_8.rd (SlK.stab (Sc.stab _))) hc29) ?_; refine wsn rfl (by kernel_rfl) rfl rfl (stp_store (R := By) (u := v28) (SlK.stab (Sc.stab _)) [] (v7_8 :: (bp g8_8) :: L0) rfl T27 rfl rfl o0_8 (put_of c27 hc29) i28 (oc_sl _ _ _ _ i28) ?_); intro w31 o31 g31 l31; replace i28 := i28.lift l31; replace i30 := i30.lift l31; replace o1_8 := o1_8.other (Sc.stab _) g31 q0_1_8.symm l31; replace o2_8 := o2_8.other g31 q0_2_8.symm; have e32 := e26.grown g31 n0_8; obtain ⟨c33, hc33, H7⟩ := bsi H7; refine wsa rfl rfl rfl (q_adr rfl T27 rfl rfl (o31.rd (SlK.stab (Sc.stab _))) hc33) ?_; refine wsn rfl (by kernel_rfl) rfl rfl (stp_store (R := By) (u := v30) (SlK.stab (Sc.stab _)) [] (v7_8 :: (bp g8_8) :: L0) rfl T27 rfl rfl o31 (put_of c29 hc33) i30 (oc_sl _ _ _ _ i30) ?_); intro w34 o34 g34 l34; replace i28 := i28.lift l34; replace i30 := i30.lift l34; replace o1_8 := o1_8.other (Sc.stab _) g34 q0_1_8.symm l34; replace o2_8 := o2_8.other g34 q0_2_8.symm
        have e35 := e32.grown g34 n0_8; refine ws_nil ?_; refine W_th ?_; refine W_seq ?_; refine W_draw [4, 5, 7] [(0, 0), (1, 0), (2, 0), (3, 0), (4, 1), (5, 1), (6, 0), (7, 1), (8, 2), (9, 0), (10, 0), (11, 0), (12, 0), (13, 0)] mixed (by kernel_rfl) (by kernel_rfl) (by kernel_rfl) (by kernel_rfl) ?_; have x36 := Ext.drew w34; replace i28 := i28.lift (Lift.ext x36 _); replace i30 := i30.lift (Lift.ext x36 _); replace o34 := o34.extL (SlK.stab (Sc.stab _)) x36 (Lift.ext x36 _); replace o1_8 := o1_8.extL (Sc.stab _) x36 (Lift.ext x36 _); replace o2_8 := o2_8.ext x36; have e37 := e35.trans x36; refine wsa rfl rfl rfl (q_move (v := p0) rfl s0_8) ?_; refine wsa rfl rfl rfl (q_move (v := p1) rfl s1_8) ?_; refine wsa rfl rfl rfl (q_move (v := (i64 ((s7.2.1.length : Int)))) rfl rfl) ?_; obtain ⟨c38, hc38, H7⟩ := bsi H7; refine wsa rfl rfl rfl (q_adr rfl T27 rfl rfl (o34.rd (SlK.stab (Sc.stab _))) hc38) ?_; refine wsq_loadO (SlK.stab (Sc.stab _)) rfl rfl rfl rfl T27 rfl o34 hc38 (fun v39 i39 => ?_); replace i39 : By (World.drew w34) (p1 :: v7_8 :: (bp g8_8) :: L0) v39 c38 := i39; refine wsq rfl rfl rfl (q_loadB (u := (i64 s7.2.2)) rfl Try.isAgg3 (by exact s8_8) o2_8 rfl) ?_; obtain ⟨c40, hc40, H7⟩ := bsi H7; refine wsa rfl rfl rfl (q_adr rfl T22 rfl rfl i39 hc40) ?_; refine wsq rfl rfl rfl (q_loadS rfl T22 rfl i39 hc40) ?_; obtain ⟨r41, hr41, H7⟩ := bsi H7; refine wsc rfl (by kernel_rfl) rfl rfl (stp_call (vs := [p0, (u8 c40)]) Try.func38 rfl rfl rfl (ar2 rfl rfl) (field_Inv_calls a0f c40 p0 r41 _ (hp0.lift (Lift.exg0 e37)) hr41) ?_); rintro _ w41 ⟨rfl, x41⟩; refine ⟨_, rfl, ?_⟩; replace i28 := i28.lift (Lift.ext x41 _); replace i30 := i30.lift (Lift.ext x41 _); replace i39 := i39.lift (Lift.ext x41 _); replace o34 := o34.extL (SlK.stab (Sc.stab _)) x41 (Lift.ext x41 _); replace o1_8 := o1_8.extL (Sc.stab _) x41 (Lift.ext x41 _); replace o2_8 := o2_8.ext x41; have e42 := e37.trans x41; refine wsa rfl rfl rfl (q_move (v := (.tuple #[(u8 r41.1), (i64 r41.2)])) rfl rfl) ?_; refine wsa rfl rfl rfl (q_extract rfl rfl rfl) ?_; refine wsa rfl rfl rfl (q_extract rfl rfl rfl) ?_; refine wsa rfl rfl rfl (q_assign (v := (u8 r41.1)) rfl rfl) ?_; refine wsa rfl rfl rfl (q_assign (v := (i64 r41.2)) rfl rfl) ?_; refine ws_nil ?_; refine W_th ?_; refine W_seq ?_; refine W_reg (by kernel_rfl) ?_; refine wla rfl rfl (q_move (v := p1) rfl s1_8) ?_; refine wla rfl rfl (q_move (v := (i64 ((s7.2.1.length : Int)))) rfl rfl) ?_; refine wla rfl rfl (q_move (v := p0) rfl s0_8) ?_; refine wla rfl rfl (q_move (v := (u8 r41.1)) rfl rfl) ?_; refine wla rfl rfl (q_move (v := p1) rfl s1_8) ?_; refine wla rfl rfl (q_move (v := (i64 ((s7.2.1.length : Int)))) rfl rfl) ?_; obtain ⟨c43, hc43, H7⟩ := bsi H7; refine wla rfl rfl (q_adr rfl T27 rfl rfl (o34.rd (SlK.stab (Sc.stab _))) hc43) ?_; refine wlq_loadO (SlK.stab (Sc.stab _)) rfl rfl rfl T27 rfl o34 hc43 (fun v44 i44 => ?_); replace i44 : By w41 (p1 :: v7_8 :: (bp g8_8) :: L0) v44 c43 := i44
        obtain ⟨r45, hr45, H7⟩ := bsi H7; refine wls rfl rfl (stp_call (vs := [p0, (u8 r41.1), v44]) Try.func39 rfl rfl rfl (ar3 rfl rfl rfl) (field_Scale_calls a0f r41.1 c43 p0 v44 r45 _ (hp0.lift (Lift.exg0 e42)) (i44.lift (Lift.sub (L' := []) (fun _ _ => trivial))) hr45) ?_); rintro _ w45 ⟨v45, rfl, x45, n45_0, o45_0⟩; refine ⟨_, rfl, ?_⟩; have i45_0 : By w45 (p1 :: v7_8 :: (bp g8_8) :: L0) v45 r45 := OwK.slk (Sc.stab _) _ (OwK.scal o45_0 (v45 :: (p1 :: v7_8 :: (bp g8_8) :: L0))) (fun k hk => (Old.cons (Old.cons (Old.cons (hL0.exg e42) o2_8.ltB) o1_8.lt) o34.lt) k (n45_0 k hk)) (fun _ h => h.2); replace i28 := i28.lift (Lift.ext x45 _); replace i30 := i30.lift (Lift.ext x45 _); replace i39 := i39.lift (Lift.ext x45 _); replace i44 := i44.lift (Lift.ext x45 _); replace o34 := o34.extL (SlK.stab (Sc.stab _)) x45 (Lift.ext x45 _); replace o1_8 := o1_8.extL (Sc.stab _) x45 (Lift.ext x45 _); replace o2_8 := o2_8.ext x45; have e46 := e42.trans x45; refine wla rfl rfl (q_adr rfl T27 rfl rfl (o34.rd (SlK.stab (Sc.stab _))) hc43) ?_; refine wln rfl rfl (stp_store (R := By) (u := v45) (SlK.stab (Sc.stab _)) [] (v7_8 :: (bp g8_8) :: L0) rfl T27 rfl rfl o34 (put_of r45 hc43) i45_0 (oc_sl _ _ _ _ i45_0) ?_); intro w47 o47 g47 l47; replace i28 := i28.lift l47; replace i30 := i30.lift l47; replace i39 := i39.lift l47; replace i44 := i44.lift l47; replace i45_0 := i45_0.lift l47; replace o1_8 := o1_8.other (Sc.stab _) g47 q0_1_8.symm l47; replace o2_8 := o2_8.other g47 q0_2_8.symm; have e48 := e46.grown g47 n0_8; refine wl_nil ?_; refine W_th ?_; refine W_seq ?_; refine W_seq ?_; refine W_reg (by kernel_rfl) ?_; refine wla rfl rfl (q_move (v := p1) rfl s1_8) ?_; refine wla rfl rfl (q_len rfl T27.sl rfl (o47.rd (SlK.stab (Sc.stab _)))) ?_; refine wla rfl rfl (q_move (v := (i64 0)) rfl rfl) ?_; refine wl_nil ?_; refine W_th ?_; obtain ⟨x49, G49, H7⟩ := bsi H7; refine W_mid (fun f w => f 0 = p0 ∧ f 1 = p1 ∧ f 2 = (i64 a2columns) ∧ f 7 = v7_8 ∧ f 8 = (bp g8_8) ∧ f 110 = undef ∧ ExG [p1] w0 w ∧ OwK By w (p1 :: v7_8 :: (bp g8_8) :: L0) 22 p1 x49 ∧ NS [p1] w0 p1 ∧ OwK (Sc i64) w (p1 :: v7_8 :: (bp g8_8) :: L0) 3 v7_8 s7.2.1 ∧ NS [p1] w0 v7_8 ∧ Blk w g8_8 3 #[(i64 s7.2.2)] ∧ NS [p1] w0 (bp g8_8) ∧ Nq p1 v7_8 ∧ Nq p1 (bp g8_8) ∧ Nq v7_8 (bp g8_8)) ?_ ?_
        · refine W_block ?_; refine W_loop (fun s49 f w => f 0 = p0 ∧ f 1 = p1 ∧ f 2 = (i64 a2columns) ∧ f 7 = v7_8 ∧ f 8 = (bp g8_8) ∧ f 9 = (i64 ((s7.2.1.length : Int))) ∧ f 76 = (i64 ((((((((s7.1.set ((s7.2.1.length : Int) : Int).toNat c27)).set ((wI ((s7.2.1.length : Int) + r12)) : Int).toNat c29)).set ((s7.2.1.length : Int) : Int).toNat r45)).length : Int))) ∧ f 77 = (i64 s49.2) ∧ f 110 = undef ∧ ExG [p1] w0 w ∧ OwK By w (p1 :: v7_8 :: (bp g8_8) :: L0) 22 p1 s49.1 ∧ NS [p1] w0 p1 ∧ OwK (Sc i64) w (p1 :: v7_8 :: (bp g8_8) :: L0) 3 v7_8 s7.2.1 ∧ NS [p1] w0 v7_8 ∧ Blk w g8_8 3 #[(i64 s7.2.2)] ∧ NS [p1] w0 (bp g8_8) ∧ Nq p1 v7_8 ∧ Nq p1 (bp g8_8) ∧ Nq v7_8 (bp g8_8)) G49 ?_ ?_
          · exact ⟨s0_8, s1_8, s2_8, s7_8, s8_8, rfl, rfl, rfl, s110_8, e48, o47, n0_8, o1_8, n1_8, o2_8, n2_8, q0_1_8, q0_2_8, q1_2_8⟩
          rintro s49 _ _ w50 ⟨s0_50, s1_50, s2_50, s7_50, s8_50, s9_50, s76_50, s77_50, s110_50, hE50, o0_50, n0_50, o1_50, n1_50, o2_50, n2_50, q0_1_50, q0_2_50, q1_2_50⟩ H49 hr49; refine W_seq ?_; refine W_reg (by kernel_rfl) ?_; refine wla rfl rfl (q_ltI rfl s77_50 s76_50) ?_; refine wl_nil ?_; refine W_th ?_; refine W_seq ?_; refine W_cond _ rfl rfl (fun hb51 => ?_) (fun hb51 => ?_)
          · replace H49 := (if_pos (of_decide_eq_true hb51)).symm.trans H49; refine W_skip ?_; refine W_th ?_; refine W_seq ?_; refine W_block ?_; refine W_seq ?_; refine W_reg (by kernel_rfl) ?_; refine wla rfl rfl (q_move (v := (i64 s49.2)) rfl s77_50) ?_; refine wla rfl rfl (q_assign (v := (i64 s49.2)) rfl rfl) ?_; refine wl_nil ?_; refine W_th ?_; refine W_seq ?_; refine W_reg (by kernel_rfl) ?_; refine wla rfl rfl (q_move (v := (i64 s49.2)) rfl rfl) ?_; refine wla rfl rfl (q_move (v := (i64 ((s7.2.1.length : Int)))) rfl s9_50) ?_; refine wla rfl rfl (q_neI rfl rfl rfl) ?_; refine wl_nil ?_; refine W_th ?_; refine W_cond _ rfl rfl (fun hb52 => ?_) (fun hb52 => ?_)
            · replace H49 := (if_neg (ndec_t hb52)).symm.trans H49; refine W_draw [6, 10, 11, 13, 17] [(0, 0), (1, 0), (2, 0), (3, 0), (4, 0), (5, 0), (6, 1), (7, 0), (8, 0), (9, 0), (10, 1), (11, 1), (12, 0), (13, 1), (14, 0), (15, 0), (16, 0), (17, 1), (18, 2), (19, 0), (20, 2)] mixed (by kernel_rfl) (by kernel_rfl) (by kernel_rfl) (by kernel_rfl) ?_; have x53 := Ext.drew w50; replace o0_50 := o0_50.extL (SlK.stab (Sc.stab _)) x53 (Lift.ext x53 _); replace o1_50 := o1_50.extL (Sc.stab _) x53 (Lift.ext x53 _); replace o2_50 := o2_50.ext x53; have e54 := hE50.trans x53; refine wsa rfl rfl rfl (q_move (v := p1) rfl s1_50) ?_; refine wsa rfl rfl rfl (q_move (v := (i64 s49.2)) rfl rfl) ?_; refine wsa rfl rfl rfl (q_move (v := p0) rfl s0_50) ?_; refine wsa rfl rfl rfl (q_move (v := p1) rfl s1_50) ?_; refine wsa rfl rfl rfl (q_move (v := (i64 s49.2)) rfl rfl) ?_; obtain ⟨c55, hc55, H49⟩ := bsi H49; refine wsa rfl rfl rfl (q_adr rfl T27 rfl rfl (o0_50.rd (SlK.stab (Sc.stab _))) hc55) ?_; refine wsq_loadO (SlK.stab (Sc.stab _)) rfl rfl rfl rfl T27 rfl o0_50 hc55 (fun v56 i56 => ?_); replace i56 : By (World.drew w50) (p1 :: v7_8 :: (bp g8_8) :: L0) v56 c55 := i56; refine wsa rfl rfl rfl (q_move (v := p1) rfl s1_50) ?_; refine wsa rfl rfl rfl (q_move (v := (i64 s49.2)) rfl rfl) ?_; refine wsa rfl rfl rfl (q_adr rfl T27 rfl rfl (o0_50.rd (SlK.stab (Sc.stab _))) hc55) ?_; refine wsq_loadO (SlK.stab (Sc.stab _)) rfl rfl rfl rfl T27 rfl o0_50 hc55 (fun v57 i57 => ?_); replace i57 : By (World.drew w50) (p1 :: v7_8 :: (bp g8_8) :: L0) v57 c55 := i57; refine wsq rfl rfl rfl (q_loadB (u := (i64 s7.2.2)) rfl Try.isAgg3 (by exact s8_50) o2_50 rfl) ?_; obtain ⟨c58, hc58, H49⟩ := bsi H49; refine wsa rfl rfl rfl (q_adr rfl T22 rfl rfl i57 hc58) ?_; refine wsq rfl rfl rfl (q_loadS rfl T22 rfl i57 hc58) ?_; refine wsa rfl rfl rfl (q_move (v := p1) rfl s1_50) ?_; refine wsa rfl rfl rfl (q_move (v := (i64 ((s7.2.1.length : Int)))) rfl s9_50) ?_; obtain ⟨c59, hc59, H49⟩ := bsi H49; refine wsa rfl rfl rfl (q_adr rfl T27 rfl rfl (o0_50.rd (SlK.stab (Sc.stab _))) hc59) ?_; refine wsq_loadO (SlK.stab (Sc.stab _)) rfl rfl rfl rfl T27 rfl o0_50 hc59 (fun v60 i60 => ?_); replace i60 : By (World.drew w50) (p1 :: v7_8 :: (bp g8_8) :: L0) v60 c59 := i60; obtain ⟨r61, hr61, H49⟩ := bsi H49; refine wsc rfl (by kernel_rfl) rfl rfl (stp_call (vs := [p0, v56, (u8 c58), v60]) Try.func31 rfl rfl rfl (ar4 rfl rfl rfl rfl) (field_Sum_calls a0f c55 c58 c59 p0 v56 v60 r61 _ (hp0.lift (Lift.exg0 e54)) (i56.lift (Lift.sub (L' := []) (fun _ _ => trivial))) (i60.lift (Lift.sub (L' := []) (fun _ _ => trivial))) hr61) ?_); rintro _ w61 ⟨v61, rfl, x61, n61_0, o61_0⟩; refine ⟨_, rfl, ?_⟩; have i61_0 : By w61 (p1 :: v7_8 :: (bp g8_8) :: L0) v61 r61 := OwK.slk (Sc.stab _) _ (OwK.scal o61_0 (v61 :: (p1 :: v7_8 :: (bp g8_8) :: L0))) (fun k hk => (Old.cons (Old.cons (Old.cons (hL0.exg e54) o2_50.ltB) o1_50.lt) o0_50.lt) k (n61_0 k hk)) (fun _ h => h.2)
              replace i56 := i56.lift (Lift.ext x61 _); replace i57 := i57.lift (Lift.ext x61 _); replace i60 := i60.lift (Lift.ext x61 _); replace o0_50 := o0_50.extL (SlK.stab (Sc.stab _)) x61 (Lift.ext x61 _); replace o1_50 := o1_50.extL (Sc.stab _) x61 (Lift.ext x61 _); replace o2_50 := o2_50.ext x61; have e62 := e54.trans x61; refine wsa rfl rfl rfl (q_adr rfl T27 rfl rfl (o0_50.rd (SlK.stab (Sc.stab _))) hc55) ?_; refine wsn rfl (by kernel_rfl) rfl rfl (stp_store (R := By) (u := v61) (SlK.stab (Sc.stab _)) [] (v7_8 :: (bp g8_8) :: L0) rfl T27 rfl rfl o0_50 (put_of r61 hc55) i61_0 (oc_sl _ _ _ _ i61_0) ?_); intro w63 o63 g63 l63; replace i56 := i56.lift l63; replace i57 := i57.lift l63; replace i60 := i60.lift l63; replace i61_0 := i61_0.lift l63; replace o1_50 := o1_50.other (Sc.stab _) g63 q0_1_50.symm l63; replace o2_50 := o2_50.other g63 q0_2_50.symm; have e65 := e62.grown g63 n0_50; refine ws_nil ?_; refine bk_n ?_; refine W_th ?_; refine W_reg (by kernel_rfl) ?_; refine wla rfl rfl (q_addI rfl s77_50 rfl) ?_; refine wla rfl rfl (q_move (v := (i64 ((wI (s49.2 + 1))))) rfl rfl) ?_; refine wl_nil ?_; obtain rfl := osi H49; exact ⟨_, rfl, s0_50, s1_50, s2_50, s7_50, s8_50, s9_50, s76_50, rfl, s110_50, e65, o63, n0_50, o1_50, n1_50, o2_50, n2_50, q0_1_50, q0_2_50, q1_2_50⟩
            replace H49 := (if_pos (ndec_f hb52)).symm.trans H49; refine W_skip ?_; refine bk_n ?_; refine W_th ?_; refine W_reg (by kernel_rfl) ?_; refine wla rfl rfl (q_addI rfl s77_50 rfl) ?_; refine wla rfl rfl (q_move (v := (i64 ((wI (s49.2 + 1))))) rfl rfl) ?_; refine wl_nil ?_; obtain rfl := osi H49; exact ⟨_, rfl, s0_50, s1_50, s2_50, s7_50, s8_50, s9_50, s76_50, rfl, s110_50, hE50, o0_50, n0_50, o1_50, n1_50, o2_50, n2_50, q0_1_50, q0_2_50, q1_2_50⟩
          replace H49 := (if_neg (of_decide_eq_false hb51)).symm.trans H49; refine W_exit ?_; refine th_x ?_; obtain rfl := osi H49; obtain rfl := hr49 _ rfl; refine th_x ?_; refine bk_x ?_; exact ⟨s0_50, s1_50, s2_50, s7_50, s8_50, s110_50, hE50, o0_50, n0_50, o1_50, n1_50, o2_50, n2_50, q0_1_50, q0_2_50, q1_2_50⟩
        rintro _ w67 ⟨s0_67, s1_67, s2_67, s7_67, s8_67, s110_67, hE67, o0_67, n0_67, o1_67, n1_67, o2_67, n2_67, q0_1_67, q0_2_67, q1_2_67⟩; refine W_th ?_; refine W_reg (by kernel_rfl) ?_; refine wla rfl rfl (q_move (v := v7_8) rfl s7_67) ?_; refine wlq rfl rfl (q_loadB (u := (i64 s7.2.2)) rfl Try.isAgg3 (by exact s8_67) o2_67 rfl) ?_; refine wls rfl rfl (stp_lit (L := (p1 :: v7_8 :: (bp g8_8) :: L0)) (R := (Sc i64)) [(i64 s7.2.2)] ([s7.2.2] : List Int) rfl T60 rfl (by exact ⟨rfl, rfl, trivial⟩) rfl (litC i64 (oneC_i64) (us := [(i64 s7.2.2)]) (l := ([s7.2.2] : List Int)) rfl) rfl (litS i64 (us := [(i64 s7.2.2)]) (l := ([s7.2.2] : List Int)) rfl) ?_); intro v68 w68 o68 n68 g68 l68; have x68 := grown_ext g68; have i68 : In w68 (p1 :: v7_8 :: (bp g8_8) :: L0) v68 (([s7.2.2] : List Int)) := OwK.slk (Sc.stab _) _ o68 (fun k hk => (Old.cons (Old.cons (Old.cons (hL0.exg hE67) o2_67.ltB) o1_67.lt) o0_67.lt) k (n68 k hk)) (fun _ h => h.2); replace o0_67 := o0_67.extL (SlK.stab (Sc.stab _)) x68 (Lift.ext x68 _); replace o1_67 := o1_67.extL (Sc.stab _) x68 (Lift.ext x68 _); replace o2_67 := o2_67.ext x68; have e69 := hE67.trans x68; obtain ⟨c70, hc70, H7⟩ := bsi H7; refine wls rfl rfl (stp_append (R := (Sc i64)) (v := v7_8) (u := v68) (Sc.stab _) [p1] ((bp g8_8) :: L0) rfl T60 rfl rfl o1_67 i68 (fun _ _ h => h) hc70 oc_i64 ?_); intro v70 w70 o70 g70 nx70 l70; replace i68 := i68.lift l70; have q71 : Nq p1 v70 := o0_67.nxt q0_1_67 nx70; have q72 : Nq (bp g8_8) v70 := o2_67.nxt q1_2_67.symm nx70; replace o0_67 := o0_67.other (SlK.stab (Sc.stab _)) g70 q0_1_67 l70; replace o2_67 := o2_67.other g70 q1_2_67.symm; have e73 := e69.grown g70 n1_67; have n74 := NS.nxt e69 n1_67 nx70; refine wla rfl rfl (q_assign (v := v70) rfl rfl) ?_; refine wl_nil ?_; refine bk_n ?_; refine W_th ?_; refine W_seq ?_; refine W_seq ?_; refine W_reg (by kernel_rfl) ?_; refine wlq rfl rfl (q_loadB (u := (i64 s7.2.2)) rfl Try.isAgg3 (by exact s8_67) o2_67 rfl) ?_; refine wl_nil ?_; refine W_th ?_; refine W_reg (by kernel_rfl) ?_; refine wls rfl rfl (stp_allocL (z := (i64 0)) (cs := #[(i64 0)]) (p1 :: v70 :: (bp g8_8) :: L0) rfl Try.zeroValue3 rfl ?_); intro g75 w75 o75 n75 g75r l75; have x75 := grown_ext g75r; have q76 : Nq p1 (bp g75) := o0_67.nq n75; have q77 : Nq v70 (bp g75) := o70.nq n75; have q78 : Nq (bp g8_8) (bp g75) := o2_67.nq n75; replace i68 := i68.lift (Lift.call _ x75 n75); replace o0_67 := o0_67.extL (SlK.stab (Sc.stab _)) x75 (Lift.call _ x75 n75); replace o70 := o70.extL (Sc.stab _) x75 (Lift.call _ x75 n75); replace o2_67 := o2_67.ext x75; have n80 := NS.ext e73 n75; have e79 := e73.trans x75; refine wln rfl rfl (stp_storeL (u := (i64 s7.2.2)) [] (p1 :: v70 :: (bp g8_8) :: L0) rfl Try.sizeOf3 rfl rfl o75 rfl ?_); intro w81 o81 g81 l81; replace i68 := i68.lift l81; replace o0_67 := o0_67.other (SlK.stab (Sc.stab _)) g81 q76 l81; replace o70 := o70.other (Sc.stab _) g81 q77 l81; replace o2_67 := o2_67.other g81 q78; have e82 := e79.grown g81 n80; refine wl_nil ?_
        refine W_th ?_; refine W_reg (by kernel_rfl) ?_; refine wlq rfl rfl (q_loadB (u := (i64 s7.2.2)) rfl Try.isAgg3 rfl o81 rfl) ?_; refine wla rfl rfl (q_addI rfl rfl rfl) ?_; refine wln rfl rfl (stp_storeL (u := (i64 ((wI (s7.2.2 + 1))))) [] (p1 :: v70 :: (bp g8_8) :: L0) rfl Try.sizeOf3 rfl rfl o81 rfl ?_); intro w83 o83 g83 l83; replace i68 := i68.lift l83; replace o0_67 := o0_67.other (SlK.stab (Sc.stab _)) g83 q76 l83; replace o70 := o70.other (Sc.stab _) g83 q77 l83; replace o2_67 := o2_67.other g83 q78; have e84 := e82.grown g83 n80; refine wl_nil ?_; obtain rfl := osi H7; exact ⟨_, rfl, v70, g75, s0_67, s1_67, s2_67, rfl, rfl, s110_67, e84, (o0_67.weak (SlK.stab (Sc.stab _)) (fun _ h => ⟨h.2.1, h.2.2.1, h.1, h.2.2.2.2⟩)), n0_67, (o70.weak (Sc.stab _) (fun _ h => ⟨h.2.1, h.2.2.1, h.1, h.2.2.2.2⟩)), n74, o83, n80, q71, q76, q77⟩
      replace H7 := (if_neg (of_decide_eq_false hb10)).symm.trans H7; refine W_exit ?_; refine th_x ?_; obtain rfl := osi H7; obtain rfl := hr7 _ rfl; refine th_x ?_; refine bk_x ?_; exact ⟨v7_8, s1_8, s7_8, s110_8, hE8, (o0_8.weak (SlK.stab (Sc.stab _)) (fun _ h => ⟨h.1, h.2.1, h.2.2.2⟩)), n0_8, (o1_8.weak (Sc.stab _) (fun _ h => ⟨h.1, h.2.1, h.2.2.2⟩)), n1_8, q0_1_8⟩
    replace H7 := (if_neg (of_decide_eq_false hb9)).symm.trans H7; refine wlk rfl rfl ?_; refine wlk rfl rfl ?_; refine wlk rfl rfl ?_; refine wlk rfl rfl ?_; refine wlk rfl rfl ?_; refine wla rfl rfl (q_pick_f (v := (.bool false)) rfl rfl rfl) ?_; refine wl_nil ?_; refine W_th ?_; refine W_cond false rfl rfl (fun hb => by cases hb) (fun _ => ?_); refine W_exit ?_; refine th_x ?_; obtain rfl := osi H7; obtain rfl := hr7 _ rfl; refine th_x ?_; refine bk_x ?_; exact ⟨v7_8, s1_8, s7_8, s110_8, hE8, (o0_8.weak (SlK.stab (Sc.stab _)) (fun _ h => ⟨h.1, h.2.1, h.2.2.2⟩)), n0_8, (o1_8.weak (Sc.stab _) (fun _ h => ⟨h.1, h.2.1, h.2.2.2⟩)), n1_8, q0_1_8⟩
  rintro _ w87 ⟨v7_87, s1_87, s7_87, s110_87, hE87, o0_87, n0_87, o1_87, n1_87, q0_1_87⟩; refine W_th ?_; refine W_seq ?_; refine W_reg (by kernel_rfl) ?_; refine wla rfl rfl (q_move (v := v7_87) rfl s7_87) ?_; refine wla rfl rfl (q_assign (v := v7_87) rfl rfl) ?_; refine wl_nil ?_; refine W_th ?_; refine W_ret ?_; obtain rfl := osi H; refine rt1 v7_87 rfl rfl rfl s110_87 ?_; exact ⟨v7_87, rfl, hE87, (o0_87.weak (SlK.stab (Sc.stab _)) (show ∀ k, Av (p1 :: v7_87 :: L0) k → Av (p1 :: L0) k from fun _ h => ⟨h.1, h.2.2⟩)), (NS.nw n1_87 q0_1_87.symm), (o1_87.weak (Sc.stab _) (fun _ _ => trivial))⟩
noncomputable def matrix_with (a0a : List (List UInt8)) (a1b : List (List UInt8)) : Option (List (List UInt8)) :=
((iterC (fun s1 : List (List UInt8) × Int =>
(if s1.2 < (a0a.length : Int) then
((idx a0a s1.2).bind fun c6 =>
((idx a1b s1.2).bind fun c8 =>
((slices_Concat_sbytebyte ([c6, c8] : List (List UInt8))).bind fun r12 =>
((appL s1.1 (([r12] : List (List UInt8)))).bind fun c16 => some (.inl (c16, (wI (s1.2 + 1))))))))
else some (.inr s1.1))) (([] : List (List UInt8)), 0)).bind fun x1 => some x1)
set_option maxRecDepth 100000 in
set_option maxHeartbeats 8000000 in
theorem matrix_with_calls (a0a : List (List UInt8)) (a1b : List (List UInt8)) (p0 : Value) (p1 : Value) (r : List (List UInt8)) (w0 : World) (L0 : List Value) (hL0 : Old w0 L0) (hp0 : Rw w0 [] p0 a0a) (hp1 : Rw w0 [] p1 a1b) (H : matrix_with a0a a1b = some r) :
    Calls Try.prog 25 [p0, p1].toArray w0 (fun e w' => ∃ u0 : Value, e = .returned u0 ∧ Ext w0 w' ∧ Nw w0 u0 ∧ OwK By w' (u0 :: L0) 22 u0 r) := by
  have hE : Ext w0 w0 := Ext.refl w0; unfold matrix_with at H; refine calls_W (n := 27) Try.func25 rfl rfl rfl ?_; refine W_seq ?_; refine W_reg (by kernel_rfl) ?_; refine wla rfl rfl (q_assign (v := (.slice none 0 0)) rfl rfl) ?_; refine wl_nil ?_; refine W_th ?_; refine W_seq ?_; refine W_reg (by kernel_rfl) ?_; refine wla rfl rfl (q_assign (v := (.slice none 0 0)) rfl rfl) ?_; refine wl_nil ?_; refine W_th ?_; refine W_seq ?_; refine W_seq ?_; refine W_reg (by kernel_rfl) ?_; refine wla rfl rfl (q_move (v := p0) rfl rfl) ?_; refine wla rfl rfl (q_len rfl T27.sl rfl (hp0.lift (Lift.ext hE _))) ?_; refine wla rfl rfl (q_move (v := (i64 0)) rfl rfl) ?_; refine wl_nil ?_; refine W_th ?_; obtain ⟨x1, G1, H⟩ := bsi H; refine W_mid (fun f w => ∃ v5_21 : Value, f 5 = v5_21 ∧ f 27 = undef ∧ Ext w0 w ∧ OwK By w (v5_21 :: L0) 22 v5_21 x1 ∧ Nw w0 v5_21) ?_ ?_
  · refine W_block ?_; refine W_loop (fun s1 f w => ∃ v5_19 : Value, f 0 = p0 ∧ f 1 = p1 ∧ f 5 = v5_19 ∧ f 8 = (i64 ((a0a.length : Int))) ∧ f 9 = (i64 s1.2) ∧ f 27 = undef ∧ Ext w0 w ∧ OwK By w (v5_19 :: L0) 22 v5_19 s1.1 ∧ Nw w0 v5_19) G1 ?_ ?_
    · exact ⟨(.slice none 0 0), rfl, rfl, rfl, rfl, rfl, rfl, hE, (OwK.nil _ _ _ _), (Nw.nil _)⟩
    rintro s1 _ _ w2 ⟨v5_2, s0_2, s1_2, s5_2, s8_2, s9_2, s27_2, hE2, o0_2, n0_2⟩ H1 hr1; refine W_seq ?_; refine W_reg (by kernel_rfl) ?_; refine wla rfl rfl (q_ltI rfl s9_2 s8_2) ?_; refine wl_nil ?_; refine W_th ?_; refine W_seq ?_; refine W_cond _ rfl rfl (fun hb3 => ?_) (fun hb3 => ?_)
    · replace H1 := (if_pos (of_decide_eq_true hb3)).symm.trans H1; refine W_skip ?_; refine W_th ?_; refine W_seq ?_; refine W_block ?_; refine W_seq ?_; refine W_reg (by kernel_rfl) ?_; refine wla rfl rfl (q_move (v := (i64 s1.2)) rfl s9_2) ?_; refine wla rfl rfl (q_assign (v := (i64 s1.2)) rfl rfl) ?_; refine wl_nil ?_; refine W_th ?_; refine W_draw [4, 8] [(0, 0), (1, 0), (2, 0), (3, 0), (4, 1), (5, 0), (6, 0), (7, 0), (8, 1), (9, 2), (10, 2), (11, 2), (12, 2), (13, 0)] mixed (by kernel_rfl) (by kernel_rfl) (by kernel_rfl) (by kernel_rfl) ?_; have x4 := Ext.drew w2; replace o0_2 := o0_2.extL (SlK.stab (Sc.stab _)) x4 (Lift.ext x4 _); have e5 := hE2.trans x4; refine wsa rfl rfl rfl (q_move (v := v5_2) rfl s5_2) ?_; refine wsa rfl rfl rfl (q_move (v := p0) rfl s0_2) ?_; refine wsa rfl rfl rfl (q_move (v := (i64 s1.2)) rfl rfl) ?_; obtain ⟨c6, hc6, H1⟩ := bsi H1; refine wsa rfl rfl rfl (q_adr rfl T27 rfl rfl (hp0.lift (Lift.ext e5 _)) hc6) ?_; refine wsq_load rfl rfl rfl rfl T27 rfl hp0 hc6 e5 (fun v7 ha7 => ?_); refine wsa rfl rfl rfl (q_move (v := p1) rfl s1_2) ?_; refine wsa rfl rfl rfl (q_move (v := (i64 s1.2)) rfl rfl) ?_; obtain ⟨c8, hc8, H1⟩ := bsi H1; refine wsa rfl rfl rfl (q_adr rfl T27 rfl rfl (hp1.lift (Lift.ext e5 _)) hc8) ?_; refine wsq_load rfl rfl rfl rfl T27 rfl hp1 hc8 e5 (fun v9 ha9 => ?_); refine wsc rfl (by kernel_rfl) rfl rfl (stp_lit (L := []) (R := By) [v7, v9] ([c6, c8] : List (List UInt8)) rfl T27 rfl (by exact ⟨rfl, rfl, rfl, rfl, trivial⟩) rfl (LitR.cells (R := By) (w := (World.drew w2)) (L := []) (l := ([c6, c8] : List (List UInt8))) (LitR.cons (ha7.lift (Lift.ext e5 _)) (LitR.cons (ha9.lift (Lift.ext e5 _)) LitR.nil)) (fun u x h => cells_sl u x h)) rfl (LitR.all (R := By) (w := (World.drew w2)) (L := []) (l := ([c6, c8] : List (List UInt8))) (SlK.stab (Sc.stab _)) (LitR.cons (ha7.lift (Lift.ext e5 _)) (LitR.cons (ha9.lift (Lift.ext e5 _)) LitR.nil))) ?_); intro v10 w10 o10 n10 g10 l10; have x10 := grown_ext g10; have i10 := OwK.rd (SlK.stab (Sc.stab _)) o10; replace o0_2 := o0_2.extL (SlK.stab (Sc.stab _)) x10 (Lift.ext x10 _); have e11 := e5.trans x10; obtain ⟨r12, hr12, H1⟩ := bsi H1; refine wsc rfl (by kernel_rfl) rfl rfl (stp_call (vs := [v10]) Try.func35 rfl rfl rfl (ar1 rfl) (slices_Concat_sbytebyte_calls ([c6, c8] : List (List UInt8)) v10 r12 _ i10 hr12) ?_); rintro _ w12 ⟨v12, rfl, x12, n12_0, o12_0⟩; refine ⟨_, rfl, ?_⟩; have i12_0 : By w12 (v5_2 :: L0) v12 r12 := OwK.slk (Sc.stab _) _ (OwK.scal o12_0 (v12 :: (v5_2 :: L0))) (fun k hk => (Old.cons (hL0.ext e11) o0_2.lt) k (n12_0 k hk)) (fun _ h => h.2); replace o0_2 := o0_2.extL (SlK.stab (Sc.stab _)) x12 (Lift.ext x12 _); have e13 := e11.trans x12; refine wsc rfl (by kernel_rfl) rfl rfl (stp_lit (L := (v5_2 :: L0)) (R := By) [v12] ([r12] : List (List UInt8)) rfl T27 rfl (by exact ⟨rfl, rfl, trivial⟩) rfl (LitR.cells (R := By) (w := w12) (L := (v5_2 :: L0)) (l := ([r12] : List (List UInt8))) (LitR.cons i12_0 LitR.nil) (fun u x h => cells_sl u x h)) rfl (LitR.all (R := By) (w := w12) (L := (v5_2 :: L0)) (l := ([r12] : List (List UInt8))) (SlK.stab (Sc.stab _)) (LitR.cons i12_0 LitR.nil)) ?_)
      intro v14 w14 o14 n14 g14 l14; have x14 := grown_ext g14; have i14 : Rw w14 (v5_2 :: L0) v14 (([r12] : List (List UInt8))) := OwK.slk (SlK.stab (Sc.stab _)) _ o14 (fun k hk => (Old.cons (hL0.ext e13) o0_2.lt) k (n14 k hk)) (fun _ h => h.2); replace i12_0 := i12_0.lift (Lift.ext x14 _); replace o0_2 := o0_2.extL (SlK.stab (Sc.stab _)) x14 (Lift.ext x14 _); have e15 := e13.trans x14; obtain ⟨c16, hc16, H1⟩ := bsi H1; refine wsc rfl (by kernel_rfl) rfl rfl (stp_append (R := By) (v := v5_2) (u := v14) (SlK.stab (Sc.stab _)) [] (L0) rfl T27 rfl rfl o0_2 i14 (fun _ _ h => h) hc16 oc_sl ?_); intro v16 w16 o16 g16 nx16 l16; replace i12_0 := i12_0.lift l16; replace i14 := i14.lift l16; have e17 := e15.grown g16 n0_2; have n18 := Nw.nxt e15 n0_2 nx16; refine wsa rfl rfl rfl (q_assign (v := v16) rfl rfl) ?_; refine ws_nil ?_; refine bk_n ?_; refine W_th ?_; refine W_reg (by kernel_rfl) ?_; refine wla rfl rfl (q_addI rfl s9_2 rfl) ?_; refine wla rfl rfl (q_move (v := (i64 ((wI (s1.2 + 1))))) rfl rfl) ?_; refine wl_nil ?_; obtain rfl := osi H1; exact ⟨_, rfl, v16, s0_2, s1_2, rfl, s8_2, rfl, s27_2, e17, o16, n18⟩
    replace H1 := (if_neg (of_decide_eq_false hb3)).symm.trans H1; refine W_exit ?_; refine th_x ?_; obtain rfl := osi H1; obtain rfl := hr1 _ rfl; refine th_x ?_; refine bk_x ?_; exact ⟨v5_2, s5_2, s27_2, hE2, o0_2, n0_2⟩
  rintro _ w20 ⟨v5_20, s5_20, s27_20, hE20, o0_20, n0_20⟩; refine W_th ?_; refine W_seq ?_; refine W_reg (by kernel_rfl) ?_; refine wla rfl rfl (q_move (v := v5_20) rfl s5_20) ?_; refine wla rfl rfl (q_assign (v := v5_20) rfl rfl) ?_; refine wl_nil ?_; refine W_th ?_; refine W_ret ?_; obtain rfl := osi H; refine rt1 v5_20 rfl rfl rfl s27_20 ?_; exact ⟨v5_20, rfl, hE20, n0_20, (o0_20.weak (SlK.stab (Sc.stab _)) (fun _ h => ⟨h.1, h.2⟩))⟩
noncomputable def matrix_Solve_1 (a0r : List UInt8) (b0 : Int) : Option Bool :=
((idx a0r b0).bind fun c1 => some (!decide (c1 = (0 : UInt8))))
set_option maxRecDepth 100000 in
set_option maxHeartbeats 8000000 in
theorem matrix_Solve_1_calls (a0r : List UInt8) (b0 : Int) (p0 : Value) (gc0 : Nat) (r : Bool) (w0 : World) (hp0 : By w0 [] p0 a0r) (hcB0 : Blk w0 gc0 3 #[(i64 b0)]) (H : matrix_Solve_1 a0r b0 = some r) :
    Calls Try.prog 28 [p0, (bp gc0)].toArray w0 (fun e w' => e = .returned (.bool r) ∧ Ext w0 w') := by
  have hE : Ext w0 w0 := Ext.refl w0; unfold matrix_Solve_1 at H; refine calls_W (n := 9) Try.func28 rfl rfl rfl ?_; refine W_seq ?_; refine W_reg (by kernel_rfl) ?_; refine wla rfl rfl (q_assign (v := (.bool false)) rfl rfl) ?_; refine wl_nil ?_; refine W_th ?_; refine W_seq ?_; refine W_reg (by kernel_rfl) ?_; refine wla rfl rfl (q_move (v := p0) rfl rfl) ?_; refine wlq rfl rfl (q_loadB (u := (i64 b0)) rfl Try.isAgg3 rfl (hcB0.ext hE) rfl) ?_; obtain ⟨c1, hc1, H⟩ := bsi H; refine wla rfl rfl (q_adr rfl T22 rfl rfl (hp0.lift (Lift.ext hE _)) hc1) ?_; refine wlq rfl rfl (q_loadS rfl T22 rfl (hp0.lift (Lift.ext hE _)) hc1) ?_; refine wla rfl rfl (q_ne8 rfl rfl (cst8 (0 : UInt8) rfl)) ?_; refine wla rfl rfl (q_assign (v := (.bool ((!decide (c1 = (0 : UInt8)))))) rfl rfl) ?_; refine wl_nil ?_; refine W_th ?_; refine W_ret ?_; obtain rfl := osi H; refine rt1 (.bool ((!decide (c1 = (0 : UInt8))))) rfl rfl rfl rfl ?_; exact ⟨rfl, hE⟩
noncomputable def matrix_Solve (a0m : Option (List (List UInt8))) (a1f : Bool) (a2v : List UInt8) : Option (List UInt8 × Int) :=
((matrix_Size a0m).bind fun r1 =>
(if a0m.isNone = true then some (([] : List UInt8), 1)
else
(if (!a1f) = true then some (([] : List UInt8), 1)
else
(if r1.1 = (a2v.length : Int) then
((iterC (fun s11 : List (List UInt8) × Int =>
(if s11.2 < (a2v.length : Int) then
((idx a2v s11.2).bind fun c14 =>
((appL s11.1 (([([c14] : List UInt8)] : List (List UInt8)))).bind fun c19 => some (.inl (c19, (wI (s11.2 + 1))))))
else some (.inr s11.1))) (([] : List (List UInt8)), 0)).bind fun x11 =>
((a0m).bind fun c25 =>
((matrix_with c25 x11).bind fun r26 =>
((matrix_reduce a1f r26 r1.2).bind fun r31 =>
((subL r31.1 ((r31.2.length : Int)) ((r31.1.length : Int))).bind fun c33 =>
((lim c33.length).bind fun lim34 =>
((anyO (fun y34 => matrix_Solve_1 y34 r1.2) c33).bind fun r34 =>
(if r34 = true then some (([] : List UInt8), 7)
else
((makeL r1.2 (0 : UInt8)).bind fun c37 =>
((iterC (fun s43 : List UInt8 × Int =>
(if s43.2 < (r31.2.length : Int) then
((idx r31.2 s43.2).bind fun c46 =>
((idx r31.1 s43.2).bind fun c49 =>
((idx c49 r1.2).bind fun c51 =>
((idx s43.1 c46).bind fun c52 => some (.inl ((s43.1.set (c46 : Int).toNat c51), (wI (s43.2 + 1))))))))
else some (.inr s43.1))) (c37, 0)).bind fun x43 => some (x43, 0)))))))))))
else some (([] : List UInt8), 1)))))
set_option maxRecDepth 100000 in
set_option maxHeartbeats 8000000 in
theorem matrix_Solve_calls (a0m : Option (List (List UInt8))) (a1f : Bool) (a2v : List UInt8) (p0 : Value) (p1 : Value) (p2 : Value) (r : List UInt8 × Int) (w0 : World) (hp0 : Mx w0 [] p0 a0m) (hp1 : Fd w0 [] p1 a1f) (hp2 : By w0 [] p2 a2v) (H : matrix_Solve a0m a1f a2v = some r) :
    Calls Try.prog 9 [p0, p1, p2].toArray w0 (fun e w' => ∃ u0 : Value, e = .returned (.tuple #[u0, (i64 r.2)]) ∧ Ext w0 w' ∧ Nw w0 u0 ∧ OwK (Sc u8) w' [] 5 u0 r.1) := by
  have hE : Ext w0 w0 := Ext.refl w0; unfold matrix_Solve at H; refine calls_W (n := 84) Try.func9 rfl rfl rfl ?_; refine W_seq ?_; refine W_reg (by kernel_rfl) ?_; refine wla rfl rfl (q_assign (v := (.slice none 0 0)) rfl rfl) ?_; refine wla rfl rfl (q_assign (v := (i64 0)) rfl rfl) ?_; refine wl_nil ?_; refine W_th ?_; refine W_seq ?_; refine W_reg (by kernel_rfl) ?_; refine wla rfl rfl (q_move (v := p0) rfl rfl) ?_; obtain ⟨r1, hr1, H⟩ := bsi H; refine wls rfl rfl (stp_call (vs := [p0]) Try.func24 rfl rfl rfl (ar1 rfl) (matrix_Size_calls a0m p0 r1 _ (hp0.lift (Lift.ext hE _)) hr1) ?_); rintro _ w1 ⟨rfl, x1⟩; refine ⟨_, rfl, ?_⟩; have e2 := hE.trans x1; refine wla rfl rfl (q_move (v := (.tuple #[(i64 r1.1), (i64 r1.2)])) rfl rfl) ?_; refine wla rfl rfl (q_extract rfl rfl rfl) ?_; refine wla rfl rfl (q_extract rfl rfl rfl) ?_; refine wls rfl rfl (stp_allocL (z := (i64 0)) (cs := #[(i64 0)]) [] rfl Try.zeroValue3 rfl ?_); intro g3 w3 o3 n3 g3r l3; have x3 := grown_ext g3r; have n5 := Nw.ext e2 n3; have e4 := e2.trans x3; refine wla rfl rfl (q_assign (v := (i64 r1.1)) rfl rfl) ?_; refine wln rfl rfl (stp_storeL (u := (i64 r1.2)) [] [] rfl Try.sizeOf3 rfl rfl o3 rfl ?_); intro w6 o6 g6 l6; have e7 := e4.grown g6 n5; refine wl_nil ?_; refine W_th ?_; refine W_seq ?_; refine W_seq ?_; refine W_reg (by kernel_rfl) ?_; refine wla rfl rfl (q_move (v := p0) rfl rfl) ?_; refine wla rfl rfl (q_eqM rfl rfl rfl rfl (hp0.lift (Lift.ext e7 _))) ?_; refine wlb rfl rfl (q_move (v := (.bool a0m.isNone)) rfl rfl) (fun hb8 => ?_) (fun hb8 => ?_)
  · replace H := (if_pos hb8).symm.trans H; refine wlk rfl rfl ?_; refine wlk rfl rfl ?_; refine wla rfl rfl (q_pick_t (v := (.bool true)) rfl rfl rfl) ?_; refine wla rfl rfl (q_move (v := (.bool true)) rfl rfl) ?_; refine wlk rfl rfl ?_; refine wlk rfl rfl ?_; refine wlk rfl rfl ?_; refine wlk rfl rfl ?_; refine wla rfl rfl (q_pick_t (v := (.bool true)) rfl rfl rfl) ?_; refine wl_nil ?_; refine W_th ?_; refine W_cond true rfl rfl (fun _ => ?_) (fun hb => by cases hb); refine W_seq ?_; refine W_reg (by kernel_rfl) ?_; refine wla rfl rfl (q_assign (v := (.slice none 0 0)) rfl rfl) ?_; refine wla rfl rfl (q_assign (v := (i64 1)) rfl rfl) ?_; refine wl_nil ?_; refine W_th ?_; refine W_ret ?_; refine th_r ?_; obtain rfl := osi H; refine rt2 (.slice none 0 0) (i64 1) rfl rfl rfl rfl rfl rfl ?_; exact ⟨(.slice none 0 0), rfl, e7, Nw.nil _, (OwK.nil _ _ _ _)⟩
  replace H := (if_neg (ne_true_of_eq_false hb8)).symm.trans H; refine wla rfl rfl (q_move (v := p1) rfl rfl) ?_; refine wla rfl rfl (q_eqF rfl rfl rfl rfl (hp1.lift (Lift.ext e7 _))) ?_; refine wla rfl rfl (q_pick_f (v := (.bool ((!a1f)))) rfl rfl rfl) ?_; refine wlb rfl rfl (q_move (v := (.bool ((!a1f)))) rfl rfl) (fun hb9 => ?_) (fun hb9 => ?_)
  · replace H := (if_pos hb9).symm.trans H; refine wlk rfl rfl ?_; refine wlk rfl rfl ?_; refine wlk rfl rfl ?_; refine wlk rfl rfl ?_; refine wla rfl rfl (q_pick_t (v := (.bool true)) rfl rfl rfl) ?_; refine wl_nil ?_; refine W_th ?_; refine W_cond true rfl rfl (fun _ => ?_) (fun hb => by cases hb); refine W_seq ?_; refine W_reg (by kernel_rfl) ?_; refine wla rfl rfl (q_assign (v := (.slice none 0 0)) rfl rfl) ?_; refine wla rfl rfl (q_assign (v := (i64 1)) rfl rfl) ?_; refine wl_nil ?_; refine W_th ?_; refine W_ret ?_; refine th_r ?_; obtain rfl := osi H; refine rt2 (.slice none 0 0) (i64 1) rfl rfl rfl rfl rfl rfl ?_; exact ⟨(.slice none 0 0), rfl, e7, Nw.nil _, (OwK.nil _ _ _ _)⟩
  replace H := (if_neg (ne_true_of_eq_false hb9)).symm.trans H; refine wla rfl rfl (q_move (v := (i64 r1.1)) rfl rfl) ?_; refine wla rfl rfl (q_move (v := p2) rfl rfl) ?_; refine wla rfl rfl (q_len rfl T22.sl rfl (hp2.lift (Lift.ext e7 _))) ?_; refine wla rfl rfl (q_neI rfl rfl rfl) ?_; refine wla rfl rfl (q_pick_f (v := (.bool ((!decide (r1.1 = (a2v.length : Int)))))) rfl rfl rfl) ?_; refine wl_nil ?_; refine W_th ?_; refine W_cond _ rfl rfl (fun hb10 => ?_) (fun hb10 => ?_)
  · replace H := (if_neg (ndec_t hb10)).symm.trans H; refine W_seq ?_; refine W_reg (by kernel_rfl) ?_; refine wla rfl rfl (q_assign (v := (.slice none 0 0)) rfl rfl) ?_; refine wla rfl rfl (q_assign (v := (i64 1)) rfl rfl) ?_; refine wl_nil ?_; refine W_th ?_; refine W_ret ?_; refine th_r ?_; obtain rfl := osi H; refine rt2 (.slice none 0 0) (i64 1) rfl rfl rfl rfl rfl rfl ?_; exact ⟨(.slice none 0 0), rfl, e7, Nw.nil _, (OwK.nil _ _ _ _)⟩
  replace H := (if_pos (ndec_f hb10)).symm.trans H; refine W_skip ?_; refine W_th ?_; refine W_seq ?_; refine W_reg (by kernel_rfl) ?_; refine wla rfl rfl (q_assign (v := (.slice none 0 0)) rfl rfl) ?_; refine wl_nil ?_; refine W_th ?_; refine W_seq ?_; refine W_seq ?_; refine W_reg (by kernel_rfl) ?_; refine wla rfl rfl (q_move (v := p2) rfl rfl) ?_; refine wla rfl rfl (q_len rfl T22.sl rfl (hp2.lift (Lift.ext e7 _))) ?_; refine wla rfl rfl (q_move (v := (i64 0)) rfl rfl) ?_; refine wl_nil ?_; refine W_th ?_; obtain ⟨x11, G11, H⟩ := bsi H; refine W_mid (fun f w => ∃ v10_58 : Value, f 0 = p0 ∧ f 1 = p1 ∧ f 9 = (bp g3) ∧ f 10 = v10_58 ∧ f 84 = undef ∧ Ext w0 w ∧ OwK By w [v10_58, (bp g3)] 22 v10_58 x11 ∧ Nw w0 v10_58 ∧ Blk w g3 3 #[(i64 r1.2)] ∧ Nw w0 (bp g3) ∧ Nq v10_58 (bp g3)) ?_ ?_
  · refine W_block ?_; refine W_loop (fun s11 f w => ∃ v10_23 : Value, f 0 = p0 ∧ f 1 = p1 ∧ f 9 = (bp g3) ∧ f 10 = v10_23 ∧ f 35 = p2 ∧ f 36 = (i64 ((a2v.length : Int))) ∧ f 37 = (i64 s11.2) ∧ f 84 = undef ∧ Ext w0 w ∧ OwK By w [v10_23, (bp g3)] 22 v10_23 s11.1 ∧ Nw w0 v10_23 ∧ Blk w g3 3 #[(i64 r1.2)] ∧ Nw w0 (bp g3) ∧ Nq v10_23 (bp g3)) G11 ?_ ?_
    · exact ⟨(.slice none 0 0), rfl, rfl, rfl, rfl, rfl, rfl, rfl, rfl, e7, (OwK.nil _ _ _ _), (Nw.nil _), o6, n5, (Nq.nil _)⟩
    rintro s11 _ _ w12 ⟨v10_12, s0_12, s1_12, s9_12, s10_12, s35_12, s36_12, s37_12, s84_12, hE12, o0_12, n0_12, o1_12, n1_12, q0_1_12⟩ H11 hr11; refine W_seq ?_; refine W_reg (by kernel_rfl) ?_; refine wla rfl rfl (q_ltI rfl s37_12 s36_12) ?_; refine wl_nil ?_; refine W_th ?_; refine W_seq ?_; refine W_cond _ rfl rfl (fun hb13 => ?_) (fun hb13 => ?_)
    · replace H11 := (if_pos (of_decide_eq_true hb13)).symm.trans H11; refine W_skip ?_; refine W_th ?_; refine W_seq ?_; refine W_block ?_; refine W_seq ?_; refine W_reg (by kernel_rfl) ?_; obtain ⟨c14, hc14, H11⟩ := bsi H11; refine wla rfl rfl (q_adr rfl T22 s35_12 s37_12 (hp2.lift (Lift.ext hE12 _)) hc14) ?_; refine wlq rfl rfl (q_loadS rfl T22 rfl (hp2.lift (Lift.ext hE12 _)) hc14) ?_; refine wla rfl rfl (q_assign (v := (u8 c14)) rfl rfl) ?_; refine wl_nil ?_; refine W_th ?_; refine W_reg (by kernel_rfl) ?_; refine wla rfl rfl (q_move (v := v10_12) rfl s10_12) ?_; refine wla rfl rfl (q_move (v := (u8 c14)) rfl rfl) ?_; refine wls rfl rfl (stp_lit (L := [v10_12, (bp g3)]) (R := (Sc u8)) [(u8 c14)] ([c14] : List UInt8) rfl T22 rfl (by exact ⟨rfl, rfl, trivial⟩) rfl (litC u8 (oneC_u8) (us := [(u8 c14)]) (l := ([c14] : List UInt8)) rfl) rfl (litS u8 (us := [(u8 c14)]) (l := ([c14] : List UInt8)) rfl) ?_); intro v15 w15 o15 n15 g15 l15; have x15 := grown_ext g15; have i15 : By w15 [v10_12, (bp g3)] v15 (([c14] : List UInt8)) := OwK.slk (Sc.stab _) _ o15 (fun k hk => (Old.cons (Old.cons (Old.nil _) o1_12.ltB) o0_12.lt) k (n15 k hk)) (fun _ h => h.2); replace o0_12 := o0_12.extL (SlK.stab (Sc.stab _)) x15 (Lift.ext x15 _); replace o1_12 := o1_12.ext x15; have e16 := hE12.trans x15; refine wls rfl rfl (stp_lit (L := [v10_12, (bp g3)]) (R := By) [v15] ([([c14] : List UInt8)] : List (List UInt8)) rfl T27 rfl (by exact ⟨rfl, rfl, trivial⟩) rfl (LitR.cells (R := By) (w := w15) (L := [v10_12, (bp g3)]) (l := ([([c14] : List UInt8)] : List (List UInt8))) (LitR.cons i15 LitR.nil) (fun u x h => cells_sl u x h)) rfl (LitR.all (R := By) (w := w15) (L := [v10_12, (bp g3)]) (l := ([([c14] : List UInt8)] : List (List UInt8))) (SlK.stab (Sc.stab _)) (LitR.cons i15 LitR.nil)) ?_); intro v17 w17 o17 n17 g17 l17; have x17 := grown_ext g17; have i17 : Rw w17 [v10_12, (bp g3)] v17 (([([c14] : List UInt8)] : List (List UInt8))) := OwK.slk (SlK.stab (Sc.stab _)) _ o17 (fun k hk => (Old.cons (Old.cons (Old.nil _) o1_12.ltB) o0_12.lt) k (n17 k hk)) (fun _ h => h.2); replace i15 := i15.lift (Lift.ext x17 _); replace o0_12 := o0_12.extL (SlK.stab (Sc.stab _)) x17 (Lift.ext x17 _); replace o1_12 := o1_12.ext x17; have e18 := e16.trans x17; obtain ⟨c19, hc19, H11⟩ := bsi H11; refine wls rfl rfl (stp_append (R := By) (v := v10_12) (u := v17) (SlK.stab (Sc.stab _)) [] [(bp g3)] rfl T27 rfl rfl o0_12 i17 (fun _ _ h => h) hc19 oc_sl ?_); intro v19 w19 o19 g19 nx19 l19; replace i15 := i15.lift l19; replace i17 := i17.lift l19; have q20 : Nq (bp g3) v19 := o1_12.nxt q0_1_12.symm nx19; replace o1_12 := o1_12.other g19 q0_1_12.symm; have e21 := e18.grown g19 n0_12; have n22 := Nw.nxt e18 n0_12 nx19; refine wla rfl rfl (q_assign (v := v19) rfl rfl) ?_; refine wl_nil ?_; refine bk_n ?_; refine W_th ?_; refine W_reg (by kernel_rfl) ?_; refine wla rfl rfl (q_addI rfl s37_12 rfl) ?_; refine wla rfl rfl (q_move (v := (i64 ((wI (s11.2 + 1))))) rfl rfl) ?_
      refine wl_nil ?_; obtain rfl := osi H11; exact ⟨_, rfl, v19, s0_12, s1_12, s9_12, rfl, s35_12, s36_12, rfl, s84_12, e21, o19, n22, o1_12, n1_12, q20.symm⟩
    replace H11 := (if_neg (of_decide_eq_false hb13)).symm.trans H11; refine W_exit ?_; refine th_x ?_; obtain rfl := osi H11; obtain rfl := hr11 _ rfl; refine th_x ?_; refine bk_x ?_; exact ⟨v10_12, s0_12, s1_12, s9_12, s10_12, s84_12, hE12, o0_12, n0_12, o1_12, n1_12, q0_1_12⟩
  rintro _ w24 ⟨v10_24, s0_24, s1_24, s9_24, s10_24, s84_24, hE24, o0_24, n0_24, o1_24, n1_24, q0_1_24⟩; refine W_th ?_; refine W_seq ?_; refine W_reg (by kernel_rfl) ?_; refine wla rfl rfl (q_move (v := p0) rfl s0_24) ?_; obtain ⟨c25, hc25, H⟩ := bsi H; obtain ⟨g25, uv25, hv25, hB25, hR25⟩ := MxT.some hp0 hc25; refine wla rfl rfl (q_nilP (g := g25) (m := 0) rfl (Eq.trans rfl hv25)) ?_; refine wla rfl rfl (q_fldP rfl fieldAtM rfl) ?_; refine wlq rfl rfl (q_loadB (u := uv25) rfl Try.isAgg27 rfl (hB25.ext hE24) rfl) ?_; refine wla rfl rfl (q_move (v := v10_24) rfl s10_24) ?_; obtain ⟨r26, hr26, H⟩ := bsi H; refine wls rfl rfl (stp_call (vs := [uv25, v10_24]) Try.func25 rfl rfl rfl (ar2 rfl rfl) (matrix_with_calls c25 x11 uv25 v10_24 r26 _ [v10_24, (bp g3)] (Old.cons (Old.cons (Old.nil _) o1_24.ltB) o0_24.lt) (hR25.lift (Lift.ext hE24 _)) (o0_24.rd (SlK.stab (Sc.stab _))) hr26) ?_); rintro _ w26 ⟨v26, rfl, x26, n26_0, o26_0⟩; refine ⟨_, rfl, ?_⟩; have o26 : OwK By w26 (v26 :: [v10_24, (bp g3)]) 22 v26 r26 := o26_0; have q27 : Nq v10_24 v26 := o0_24.nq n26_0; have q28 : Nq (bp g3) v26 := o1_24.nq n26_0; replace o0_24 := o0_24.extL (SlK.stab (Sc.stab _)) x26 (Lift.call _ x26 n26_0); replace o1_24 := o1_24.ext x26; have n30 := Nw.ext hE24 n26_0; have e29 := hE24.trans x26; refine wla rfl rfl (q_assign (v := v26) rfl rfl) ?_; refine wl_nil ?_; refine W_th ?_; refine W_seq ?_; refine W_reg (by kernel_rfl) ?_; refine wla rfl rfl (q_move (v := p1) rfl s1_24) ?_; refine wla rfl rfl (q_move (v := v26) rfl rfl) ?_; refine wlq rfl rfl (q_loadB (u := (i64 r1.2)) rfl Try.isAgg3 (by exact s9_24) o1_24 rfl) ?_; obtain ⟨r31, hr31, H⟩ := bsi H; refine wls rfl rfl (stp_call (vs := [p1, v26, (i64 r1.2)]) Try.func26 rfl rfl rfl (ar3 rfl rfl rfl) (matrix_reduce_calls a1f r26 r1.2 p1 v26 r31 _ [v10_24, (bp g3)] (Old.cons (Old.cons (Old.nil _) o1_24.ltB) o0_24.lt) ((hp1.lift (Lift.arg e29 (nv_cons n30 (nv_cons n0_24 (nv_cons n1_24 nv_nil))))).lift (Lift.sub (fun _ h => ⟨h.1, trivial⟩))) (o26.weak (SlK.stab (Sc.stab _)) (show ∀ k, Av [v26, v10_24, (bp g3)] k → Av [v26, v10_24, (bp g3)] k from fun _ h => ⟨h.1, h.2.1, h.2.2.1, trivial⟩)) hr31) ?_); rintro _ w31 ⟨v31, rfl, x31, hb31_0, n31_0, o31_0⟩; refine ⟨_, rfl, ?_⟩; have i31_0 : In w31 [v26, v10_24, (bp g3)] v31 r31.2 := OwK.slk (Sc.stab _) _ (OwK.scal o31_0 (v31 :: [v26, v10_24, (bp g3)])) (fun k hk => (Old.cons (Old.cons (Old.cons (Old.nil _) o1_24.ltB) o0_24.lt) o26.lt) k (n31_0 k hk)) (fun _ h => h.2); have lx31 := Lift.ownX [] [v10_24, (bp g3)] x31; have ob31 := hb31_0.weak (SlK.stab (Sc.stab _)) (show ∀ k, Av [v26, v10_24, (bp g3)] k → Av [v26, v10_24, (bp g3)] k from fun _ h => ⟨h.1, h.2.1, h.2.2.1, trivial⟩); replace o0_24 := o0_24.otherX (SlK.stab (Sc.stab _)) x31 q27 lx31; replace o1_24 := o1_24.otherX x31 q28; have e32 := e29.grownX x31 n30; refine wla rfl rfl (q_assign (v := v31) rfl rfl) ?_; refine wl_nil ?_; refine W_th ?_; refine W_seq ?_; refine W_seq ?_
  refine W_reg (by kernel_rfl) ?_; refine wla rfl rfl (q_move (v := v26) rfl rfl) ?_; refine wla rfl rfl (q_move (v := v31) rfl rfl) ?_; refine wla rfl rfl (q_len rfl T60.sl rfl i31_0) ?_; obtain ⟨c33, hc33, H⟩ := bsi H; refine wla rfl rfl (q_slice (a := (r31.2.length : Int)) (b := (r31.1.length : Int)) rfl T27 rfl (ob31.rd (SlK.stab (Sc.stab _))) rfl rfl hc33) ?_; refine wla rfl rfl (q_mkfuncN (vs := [(bp g3)]) rfl (ar1 s9_24)) ?_; obtain ⟨lim34, hl34, H⟩ := bsi H; obtain ⟨r34, hr34, H⟩ := bsi H; refine wls rfl rfl (stp_call (vs := [(subV v26 ((r31.2.length : Int) : Int).toNat ((r31.1.length : Int) : Int).toNat), (.func (.func 28) #[] [(bp g3)].toArray)]) Try.func27 rfl rfl rfl (ar2 rfl rfl) (ContainsFunc_rows_calls (subV v26 ((r31.2.length : Int) : Int).toNat ((r31.1.length : Int) : Int).toNat) c33 28 _ Try.func28 rfl rfl [(bp g3)] (fun y34 => matrix_Solve_1 y34 r1.2) r34 _ (SlK.cut (L := []) (ob31.rd (SlK.stab (Sc.stab _))) hc33) (lim_lt hl34) hr34 (fun y34 _ b w' xE hb u hu => matrix_Solve_1_calls y34 r1.2 u g3 b w' hu (o1_24.ext xE) hb)) ?_); rintro _ w34 ⟨rfl, x34⟩; refine ⟨_, rfl, ?_⟩; replace i31_0 := i31_0.lift (Lift.ext x34 _); replace ob31 := ob31.extL (SlK.stab (Sc.stab _)) x34 (Lift.ext x34 _); replace o0_24 := o0_24.extL (SlK.stab (Sc.stab _)) x34 (Lift.ext x34 _); replace o1_24 := o1_24.ext x34; have e35 := e32.trans x34; refine wl_nil ?_; refine W_th ?_; refine W_cond _ rfl rfl (fun hb36 => ?_) (fun hb36 => ?_)
  · replace H := (if_pos hb36).symm.trans H; refine W_seq ?_; refine W_reg (by kernel_rfl) ?_; refine wla rfl rfl (q_assign (v := (.slice none 0 0)) rfl rfl) ?_; refine wla rfl rfl (q_assign (v := (i64 7)) rfl rfl) ?_; refine wl_nil ?_; refine W_th ?_; refine W_ret ?_; refine th_r ?_; obtain rfl := osi H; refine rt2 (.slice none 0 0) (i64 7) rfl rfl rfl rfl rfl s84_24 ?_; exact ⟨(.slice none 0 0), rfl, e35, Nw.nil _, (OwK.nil _ _ _ _)⟩
  replace H := (if_neg (ne_true_of_eq_false hb36)).symm.trans H; refine W_skip ?_; refine W_th ?_; refine W_seq ?_; refine W_reg (by kernel_rfl) ?_; refine wlq rfl rfl (q_loadB (u := (i64 r1.2)) rfl Try.isAgg3 (by exact s9_24) o1_24 rfl) ?_; obtain ⟨c37, hc37, H⟩ := bsi H; refine wls rfl rfl (stp_make (L := [v26, v10_24, (bp g3)]) (R := (Sc u8)) rfl T22 rfl rfl hc37 (fun _ _ => rfl) ?_); intro v37 w37 o37 n37 g37 l37; have x37 := grown_ext g37; have q38 : Nq v26 v37 := ob31.nq n37; have q39 : Nq v10_24 v37 := o0_24.nq n37; have q40 : Nq (bp g3) v37 := o1_24.nq n37; replace i31_0 := i31_0.lift (Lift.call _ x37 n37); replace ob31 := ob31.extL (SlK.stab (Sc.stab _)) x37 (Lift.call _ x37 n37); replace o0_24 := o0_24.extL (SlK.stab (Sc.stab _)) x37 (Lift.call _ x37 n37); replace o1_24 := o1_24.ext x37; have n42 := Nw.ext e35 n37; have e41 := e35.trans x37; refine wla rfl rfl (q_assign (v := v37) rfl rfl) ?_; refine wl_nil ?_; refine W_th ?_; refine W_seq ?_; refine W_seq ?_; refine W_reg (by kernel_rfl) ?_; refine wla rfl rfl (q_move (v := v31) rfl rfl) ?_; refine wla rfl rfl (q_len rfl T60.sl rfl i31_0) ?_; refine wla rfl rfl (q_move (v := (i64 0)) rfl rfl) ?_; refine wl_nil ?_; refine W_th ?_; obtain ⟨x43, G43, H⟩ := bsi H; refine W_mid (fun f w => f 15 = v37 ∧ f 84 = undef ∧ Ext w0 w ∧ OwK (Sc u8) w [v37] 5 v37 x43 ∧ Nw w0 v37) ?_ ?_
  · refine W_block ?_; refine W_loop (fun s43 f w => f 9 = (bp g3) ∧ f 13 = v26 ∧ f 15 = v37 ∧ f 65 = v31 ∧ f 66 = (i64 ((r31.2.length : Int))) ∧ f 67 = (i64 s43.2) ∧ f 84 = undef ∧ Ext w0 w ∧ OwK By w [v26, v37, (bp g3)] 22 v26 r31.1 ∧ Nw w0 v26 ∧ OwK (Sc u8) w [v26, v37, (bp g3)] 5 v37 s43.1 ∧ Nw w0 v37 ∧ Blk w g3 3 #[(i64 r1.2)] ∧ Nw w0 (bp g3) ∧ Nq v26 v37 ∧ Nq v26 (bp g3) ∧ Nq v37 (bp g3) ∧ In w [v26, v37, (bp g3)] v31 r31.2) G43 ?_ ?_
    · exact ⟨s9_24, rfl, rfl, rfl, rfl, rfl, s84_24, e41, (ob31.weak (SlK.stab (Sc.stab _)) (fun _ h => ⟨h.2.1, h.1, h.2.2.2.1, trivial⟩)), n30, (o37.weak (Sc.stab _) (fun _ h => ⟨h.2.1, h.1, h.2.2.2.1, trivial⟩)), n42, o1_24, n1_24, q38, q28.symm, q40.symm, (i31_0.lift (Lift.sub (fun _ h => ⟨h.2.1, h.1, h.2.2.2.1, trivial⟩)))⟩
    rintro s43 _ _ w44 ⟨s9_44, s13_44, s15_44, s65_44, s66_44, s67_44, s84_44, hE44, o0_44, n0_44, o1_44, n1_44, o2_44, n2_44, q0_1_44, q0_2_44, q1_2_44, i0_44⟩ H43 hr43; refine W_seq ?_; refine W_reg (by kernel_rfl) ?_; refine wla rfl rfl (q_ltI rfl s67_44 s66_44) ?_; refine wl_nil ?_; refine W_th ?_; refine W_seq ?_; refine W_cond _ rfl rfl (fun hb45 => ?_) (fun hb45 => ?_)
    · replace H43 := (if_pos (of_decide_eq_true hb45)).symm.trans H43; refine W_skip ?_; refine W_th ?_; refine W_seq ?_; refine W_block ?_; refine W_seq ?_; refine W_reg (by kernel_rfl) ?_; refine wla rfl rfl (q_move (v := (i64 s43.2)) rfl s67_44) ?_; obtain ⟨c46, hc46, H43⟩ := bsi H43; refine wla rfl rfl (q_adr rfl T60 s65_44 s67_44 i0_44 hc46) ?_; refine wlq rfl rfl (q_loadS rfl T60 rfl i0_44 hc46) ?_; refine wla rfl rfl (q_assign (v := (i64 s43.2)) rfl rfl) ?_; refine wla rfl rfl (q_assign (v := (i64 c46)) rfl rfl) ?_; refine wl_nil ?_; refine W_th ?_; refine W_draw [5, 6, 8] [(0, 0), (1, 0), (2, 0), (3, 0), (4, 0), (5, 1), (6, 1), (7, 0), (8, 1), (9, 0), (10, 2)] mixed (by kernel_rfl) (by kernel_rfl) (by kernel_rfl) (by kernel_rfl) ?_; have x47 := Ext.drew w44; replace i0_44 := i0_44.lift (Lift.ext x47 _); replace o0_44 := o0_44.extL (SlK.stab (Sc.stab _)) x47 (Lift.ext x47 _); replace o1_44 := o1_44.extL (Sc.stab _) x47 (Lift.ext x47 _); replace o2_44 := o2_44.ext x47; have e48 := hE44.trans x47; refine wsa rfl rfl rfl (q_move (v := v37) rfl s15_44) ?_; refine wsa rfl rfl rfl (q_move (v := (i64 c46)) rfl rfl) ?_; refine wsa rfl rfl rfl (q_move (v := v26) rfl s13_44) ?_; refine wsa rfl rfl rfl (q_move (v := (i64 s43.2)) rfl rfl) ?_; obtain ⟨c49, hc49, H43⟩ := bsi H43; refine wsa rfl rfl rfl (q_adr rfl T27 rfl rfl (o0_44.rd (SlK.stab (Sc.stab _))) hc49) ?_; refine wsq_loadO (SlK.stab (Sc.stab _)) rfl rfl rfl rfl T27 rfl o0_44 hc49 (fun v50 i50 => ?_); replace i50 : By (World.drew w44) [v26, v37, (bp g3)] v50 c49 := i50; refine wsq rfl rfl rfl (q_loadB (u := (i64 r1.2)) rfl Try.isAgg3 (by exact s9_44) o2_44 rfl) ?_; obtain ⟨c51, hc51, H43⟩ := bsi H43; refine wsa rfl rfl rfl (q_adr rfl T22 rfl rfl i50 hc51) ?_; refine wsq rfl rfl rfl (q_loadS rfl T22 rfl i50 hc51) ?_; obtain ⟨c52, hc52, H43⟩ := bsi H43; refine wsa rfl rfl rfl (q_adr rfl T22 rfl rfl (o1_44.rd (Sc.stab _)) hc52) ?_; refine wsn rfl (by kernel_rfl) rfl rfl (stp_store (R := (Sc u8)) (u := (u8 c51)) (Sc.stab _) [v26] [(bp g3)] rfl T22 rfl rfl o1_44 (put_of c51 hc52) rfl rfl ?_); intro w53 o53 g53 l53; replace i0_44 := i0_44.lift l53; replace i50 := i50.lift l53; replace o0_44 := o0_44.other (SlK.stab (Sc.stab _)) g53 q0_1_44 l53; replace o2_44 := o2_44.other g53 q1_2_44.symm; have e54 := e48.grown g53 n1_44; refine ws_nil ?_; refine bk_n ?_; refine W_th ?_; refine W_reg (by kernel_rfl) ?_; refine wla rfl rfl (q_addI rfl s67_44 rfl) ?_; refine wla rfl rfl (q_move (v := (i64 ((wI (s43.2 + 1))))) rfl rfl) ?_; refine wl_nil ?_; obtain rfl := osi H43; exact ⟨_, rfl, s9_44, s13_44, s15_44, s65_44, s66_44, rfl, s84_44, e54, o0_44, n0_44, o53, n1_44, o2_44, n2_44, q0_1_44, q0_2_44, q1_2_44, i0_44⟩
    replace H43 := (if_neg (of_decide_eq_false hb45)).symm.trans H43; refine W_exit ?_; refine th_x ?_; obtain rfl := osi H43; obtain rfl := hr43 _ rfl; refine th_x ?_; refine bk_x ?_; exact ⟨s15_44, s84_44, hE44, (o1_44.weak (Sc.stab _) (fun _ h => ⟨h.2.1, trivial⟩)), n1_44⟩
  rintro _ w56 ⟨s15_56, s84_56, hE56, o0_56, n0_56⟩; refine W_th ?_; refine W_seq ?_; refine W_reg (by kernel_rfl) ?_; refine wla rfl rfl (q_move (v := v37) rfl s15_56) ?_; refine wla rfl rfl (q_assign (v := v37) rfl rfl) ?_; refine wla rfl rfl (q_assign (v := (i64 0)) rfl rfl) ?_; refine wl_nil ?_; refine W_th ?_; refine W_ret ?_; obtain rfl := osi H; refine rt2 v37 (i64 0) rfl rfl rfl rfl rfl s84_56 ?_; exact ⟨v37, rfl, hE56, n0_56, (o0_56.weak (Sc.stab _) (fun _ _ => trivial))⟩
end Gk

/- Regions in which several operations that act may come up, in whatever order: a tree of orders. No condition. -/
set_option linter.unusedVariables false
set_option linter.unusedSimpArgs false
namespace Gk
open Go
inductive Tr where
  | fin
  | br (i : Nat) (sch : List (Nat × Nat)) (t rest : Tr)
def Tr.len : Tr → Nat
  | .fin => 0
  | .br _ sch t _ => t.len + sch.length + 1
def Tr.roots : Tr → List Nat
  | .fin => []
  | .br i _ _ rest => i :: rest.roots
def Tr.isFin : Tr → Bool
  | .fin => true
  | _ => false
def okS (ops : Array Oper) (qs : List Nat) : Tr → Nat → Array Bool → Bool
  | .fin, _, _ => true
  | .br i sch t rest, m, listed =>
    Nat.beq (t.len + sch.length + 1) m && (schOKe ops qs (fun l => if t.isFin then (Region.ready .any ops l).isEmpty else (Region.ready .any ops l == t.roots && okS ops qs t t.len l)) sch (listed.setIfInBounds i true) && okS ops qs rest m listed)
def wt (t : Tr) (A B : Prop) : Prop := match t with | .fin => A | .br .. => B
def wr (P : Program) (ops : Array Oper) (qs : List Nat) (K : (Nat → Value) → World → Prop) : Tr → (Nat → Value) → World → Prop
  | .fin, _, _ => True
  | .br i sch t rest, f, w => stepT P ops qs i (ws P ops qs (fun f w => wt t (K f w) (wr P ops qs K t f w)) sch) f w ∧ wr P ops qs K rest f w
theorem tree_ok {P : Program} {n : Nat} {ops : Array Oper} {qs : List Nat} {K : (Nat → Value) → World → Prop} (hok : okRegion n ops = true) (hns : Region.noSelect ops = true) :
    ∀ (t : Tr) (m : Nat) (listed : Array Bool) (f : Nat → Value) (w : World), Closed .any ops listed → okS ops qs t (m + 1) listed = true → wr P ops qs K t f w →
      ∀ k ∈ t.roots, k ∈ Region.ready .any ops listed → wpOp P ops (fun e a w => e = .normal ∧ At n K a w) k (fun a' w' => (Ext w w' ∨ clearOf .any ops qs k = true) ∧ wpAnyE P .any ops (fun e a w => e = .normal ∧ At n K a w) Ext qs m (listed.setIfInBounds k true) a' w') (fr n f) w
  | .fin, _, _, _, _, _, _, _, k, hk, _ => by simp [Tr.roots] at hk
  | .br i sch t rest, m, listed, f, w, hcl, hs, h, k, hk, hr => by
    simp only [okS, Bool.and_eq_true] at hs
    obtain ⟨hl, hsch, hrest⟩ := hs
    have hl' : t.len + sch.length = m := by have := Nat.eq_of_beq_eq_true hl; omega
    unfold wr at h
    rcases List.mem_cons.1 hk with rfl | hk
    · have h1 := h.1
      unfold stepT at h1
      unfold Go.wpOp
      cases ho : ops[k]? with
      | none => rw [ho] at h1; exact h1.elim
      | some o =>
        rw [ho] at h1
        dsimp only at h1 ⊢
        have hmem : o ∈ ops := Array.mem_of_getElem? ho
        have hall := List.all_eq_true.1 hok o (Array.mem_toList_iff.2 hmem)
        simp only [Bool.and_eq_true] at hall
        have hwant := wantF_fr n ops f o hall.2
        have hcl' : Closed .any ops (listed.setIfInBounds k true) := by
          obtain ⟨_, o', ho', hall'⟩ := mem_ready.1 hr
          exact hcl.set ho' hall'
        have key : ∀ f w, ws P ops qs (fun f w => wt t (K f w) (wr P ops qs K t f w)) sch f w → wpAnyE P .any ops (fun e a w => e = .normal ∧ At n K a w) Ext qs m (listed.setIfInBounds k true) (fr n f) w := fun f w hw => by
          have := wpAnyE_of_wse (K0 := K) (m := t.len) hok hns (fun listed f w hcl2 hf hk2 => by
            cases t with
            | fin =>
              simp only [Tr.isFin, if_true] at hf
              rw [List.isEmpty_iff] at hf
              exact ⟨hf, rfl, At.mk hk2⟩
            | br i2 sch2 t2 rest2 =>
              simp only [Tr.isFin, Bool.false_eq_true, if_false, Bool.and_eq_true] at hf
              obtain ⟨hrd, hok2⟩ := hf
              have hrd' : Region.ready .any ops listed = (Tr.br i2 sch2 t2 rest2).roots := by simpa using hrd
              have ih := tree_ok hok hns (.br i2 sch2 t2 rest2) (t2.len + sch2.length) listed f w hcl2 hok2 hk2
              show wpAnyE P .any ops _ Ext qs (t2.len + sch2.length + 1) listed (fr n f) w
              refine ⟨fun h0 => ?_, fun j hj => ih j (by rw [← hrd']; exact hj) hj⟩
              rw [hrd'] at h0
              simp [Tr.roots] at h0) sch (listed.setIfInBounds k true) f w hcl' hsch hw
          rwa [hl'] at this
        by_cases hw : wantF ops f o = true
        · rw [if_pos hw] at h1
          rw [if_pos (hwant.trans hw)]
          exact .inl (Stp.wp hall.1 h1 fun v w' hv => ⟨hv.1, key _ _ hv.2⟩)
        · rw [if_neg hw] at h1
          have hwf : Region.wanted o (yielded ops (fr n f).tmps) = false := hwant.trans (by simpa using hw)
          rw [if_neg (by rw [hwf]; simp)]
          rw [fr_put _ _ _ _ (okOp.dst hall.1)]
          exact ⟨.inl (Ext.refl w), key _ _ h1⟩
    · exact tree_ok hok hns rest m listed f w hcl hrest h.2 k hk hr
theorem wr_mono {P : Program} {ops : Array Oper} {qs : List Nat} {K K' : (Nat → Value) → World → Prop} (hk : ∀ f w, K f w → K' f w) : ∀ (t : Tr) (f : Nat → Value) (w : World), wr P ops qs K t f w → wr P ops qs K' t f w
  | .fin, _, _, _ => trivial
  | .br i sch t rest, f, w, h => by
    unfold wr at h ⊢
    refine ⟨?_, wr_mono hk rest f w h.2⟩
    have h1 := h.1
    have key : ∀ f w, ws P ops qs (fun f w => wt t (K f w) (wr P ops qs K t f w)) sch f w → ws P ops qs (fun f w => wt t (K' f w) (wr P ops qs K' t f w)) sch f w :=
      ws_mono (fun f w h2 => by
        cases t with
        | fin => exact hk f w h2
        | br i2 sch2 t2 rest2 => exact wr_mono hk (.br i2 sch2 t2 rest2) f w h2) sch
    unfold stepT at h1 ⊢
    cases ho : ops[i]? with
    | none => rw [ho] at h1; exact h1
    | some o =>
      rw [ho] at h1
      dsimp only at h1 ⊢
      by_cases hw : wantF ops f o = true
      · rw [if_pos hw] at h1 ⊢
        exact Stp.mono h1 fun v w' h' => ⟨h'.1, key _ _ h'.2⟩
      · rw [if_neg hw] at h1 ⊢
        exact key _ _ h1
def schT (ops : Array Oper) (qs : List Nat) (t : Tr) (listed : Array Bool) : Bool := Region.ready .any ops listed == t.roots && (okS ops qs t t.len listed && !t.isFin)
section
variable {P : Program} {ro : Option Nat} {n : Nat} {Q : Exit → (Nat → Value) → World → Prop} {f : Nat → Value} {w : World}
theorem W_drawT {id : Nat} {l : List Oper} (qs : List Nat) (sch : List (Nat × Nat)) (t : Tr) (hm : P.follows .mixedOrders = true) (hok : okRegion n l.toArray = true) (hns : Region.noSelect l.toArray = true)
    (hlen : Nat.beq (t.len + sch.length) l.toArray.size = true) (hs : schOKe l.toArray qs (schT l.toArray qs t) sch (Array.replicate l.toArray.size false) = true)
    (h : ws P l.toArray qs (fun f w => wr P l.toArray qs (Q .normal) t f w) sch f w.drew) : W (ro := ro) P n (.region id l.toArray true) Q f w := by
  have h0 : ws P l.toArray qs (fun f w => wr P l.toArray qs (fun f w => ∃ f', fr n f = fr n f' ∧ Q .normal f' w) t f w) sch f w.drew := ws_mono (fun f w q => wr_mono (fun f _ q => ⟨f, rfl, q⟩) t f w q) _ _ _ h
  have h1 := wpAnyE_of_wse (K0 := fun f w => ∃ f', fr n f = fr n f' ∧ Q .normal f' w) (m := t.len) hok hns (fun listed f w hcl hf hk => by
    simp only [schT, Bool.and_eq_true] at hf
    obtain ⟨hrd, hok2, hnf⟩ := hf
    have hrd' : Region.ready .any l.toArray listed = t.roots := by simpa using hrd
    cases t with
    | fin => simp [Tr.isFin] at hnf
    | br i2 sch2 t2 rest2 =>
      have ih := tree_ok hok hns (.br i2 sch2 t2 rest2) (t2.len + sch2.length) listed f w hcl hok2 hk
      show wpAnyE P .any l.toArray _ Ext qs (t2.len + sch2.length + 1) listed (fr n f) w
      refine ⟨fun h0 => ?_, fun j hj => ih j (by rw [← hrd']; exact hj) hj⟩
      rw [hrd'] at h0
      simp [Tr.roots] at h0) sch _ f _ (Closed.none _ _ _) hs h0
  rw [Nat.eq_of_beq_eq_true hlen] at h1
  have h2 := any_in (ro := ro) (m := 0) no_out (okRegion.noDefer hok) _ _ _ _ (wpAny_of_E _ _ _ _ h1)
  refine Code.wpIn_mono ?_ (wpIn_region_any (id := id) hm h2)
  rintro e a w' ⟨rfl, f', rfl, f'', he, hk⟩
  exact ⟨f'', he, hk⟩
theorem wr_br {ops : Array Oper} {qs : List Nat} {K : (Nat → Value) → World → Prop} {i : Nat} {sch : List (Nat × Nat)} {t rest : Tr}
    (h1 : ws P ops qs (fun f w => wt t (K f w) (wr P ops qs K t f w)) ((i, 2) :: sch) f w) (h2 : wr P ops qs K rest f w) : wr P ops qs K (.br i sch t rest) f w := by
  unfold wr
  exact ⟨stepT_of_ws (fun _ _ h => h) h1, h2⟩
theorem wt_fin {A B : Prop} (h : A) : wt .fin A B := h
theorem wt_br {i : Nat} {sch : List (Nat × Nat)} {t rest : Tr} {A B : Prop} (h : B) : wt (.br i sch t rest) A B := h
end
end Gk

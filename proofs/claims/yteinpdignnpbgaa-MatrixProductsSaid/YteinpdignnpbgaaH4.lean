/- Printed by gen.py: for each Go function a pure function, and that the Go code comes to it. No condition beside the equation that says what the pure function gives. -/
import Derived.Test.YteinpdignnpbgaaF1
import Derived.Test.YteinpdignnpbgaaFf
import Derived.Test.YteinpdignnpbgaaFe
import Derived.Test.YteinpdignnpbgaaFg
set_option linter.unusedVariables false
set_option linter.unusedSimpArgs false
namespace Gk
open Go Go.Proofs

/-! largesse/matrix.size -/
noncomputable def matrix_size (a0n : Int) : Option Bool :=
(if 1 ≤ a0n then some (decide (a0n ≤ 64))
else some false)
set_option maxRecDepth 100000 in
set_option maxHeartbeats 8000000 in
theorem matrix_size_calls (a0n : Int) (r : Bool) (w0 : World) (H : matrix_size a0n = some r) :
    Calls Try.prog 71 [(i64 a0n)].toArray w0 (fun e w' => e = .returned (.bool r) ∧ Ext w0 w') := by
  have hE : Ext w0 w0 := Ext.refl w0
  unfold matrix_size at H
  refine calls_W (n := 9) Try.func71 rfl rfl rfl ?_
  refine W_seq ?_
  refine W_reg (by kernel_rfl) ?_
  refine wla rfl rfl (q_assign (v := (.bool false)) rfl rfl) ?_
  refine wl_nil ?_
  refine W_th ?_
  refine W_seq ?_
  refine W_reg (by kernel_rfl) ?_
  refine wla rfl rfl (q_move (v := (i64 a0n)) rfl rfl) ?_
  refine wla rfl rfl (q_geI rfl rfl rfl) ?_
  refine wlb rfl rfl (q_move (v := (.bool ((decide (1 ≤ a0n))))) rfl rfl) (fun hb1 => ?_) (fun hb1 => ?_)
  · replace H := (if_pos (of_decide_eq_true hb1)).symm.trans H
    refine wla rfl rfl (q_move (v := (i64 a0n)) rfl rfl) ?_
    refine wla rfl rfl (q_leI rfl rfl rfl) ?_
    refine wla rfl rfl (q_pick_t (v := (.bool ((decide (a0n ≤ 64))))) rfl rfl rfl) ?_
    refine wla rfl rfl (q_assign (v := (.bool ((decide (a0n ≤ 64))))) rfl rfl) ?_
    refine wl_nil ?_
    refine W_th ?_
    refine W_ret ?_
    obtain rfl := Option.some.inj H
    refine rt1 (.bool ((decide (a0n ≤ 64)))) rfl rfl rfl rfl ?_
    exact ⟨rfl, hE⟩
  · replace H := (if_neg (of_decide_eq_false hb1)).symm.trans H
    refine wlk rfl rfl ?_
    refine wlk rfl rfl ?_
    refine wla rfl rfl (q_pick_f (v := (.bool false)) rfl rfl rfl) ?_
    refine wla rfl rfl (q_assign (v := (.bool false)) rfl rfl) ?_
    refine wl_nil ?_
    refine W_th ?_
    refine W_ret ?_
    obtain rfl := Option.some.inj H
    refine rt1 (.bool false) rfl rfl rfl rfl ?_
    exact ⟨rfl, hE⟩

/-! largesse/matrix.blank -/
noncomputable def matrix_blank (a0rows : Int) (a1columns : Int) : Option (List (List UInt8)) :=
((makeL a0rows ([] : List UInt8)).bind fun c1 =>
((iterC (fun s9 : List (List UInt8) × Int =>
(if s9.2 < (c1.length : Int) then
((makeL a1columns (0 : UInt8)).bind fun c14 =>
((idx s9.1 s9.2).bind fun c19 => some (.inl ((s9.1.set (s9.2 : Int).toNat c14), (wI (s9.2 + 1))))))
else some (.inr s9.1))) (c1, 0)).bind fun x9 => some x9))
set_option maxRecDepth 100000 in
set_option maxHeartbeats 8000000 in
theorem matrix_blank_calls (a0rows : Int) (a1columns : Int) (r : List (List UInt8)) (w0 : World) (H : matrix_blank a0rows a1columns = some r) :
    Calls Try.prog 72 [(i64 a0rows), (i64 a1columns)].toArray w0 (fun e w' => ∃ u0 : Value, e = .returned u0 ∧ Ext w0 w' ∧ MxO w0 w' u0 r) := by
  have hE : Ext w0 w0 := Ext.refl w0
  unfold matrix_blank at H
  refine calls_W (n := 29) Try.func72 rfl rfl rfl ?_
  refine W_seq ?_
  refine W_reg (by kernel_rfl) ?_
  refine wla rfl rfl (q_assign (v := (.pointer none)) rfl rfl) ?_
  refine wl_nil ?_
  refine W_th ?_
  refine W_seq ?_
  refine W_reg (by kernel_rfl) ?_
  refine wla rfl rfl (q_move (v := (i64 a0rows)) rfl rfl) ?_
  obtain ⟨c1, hc1, H⟩ := Option.bind_eq_some_iff.1 H
  refine wls rfl rfl (stp_makeD (e2 := 5) [] rfl T46 rfl rfl hc1 ?_)
  intro G2 v2 w2 o2 n2 g2 l2
  have x2 := grown_ext g2
  have n4 := Nw.ext hE n2
  have e3 := hE.trans x2
  refine wla rfl rfl (q_buildM rfl rfl (OwD.shape o2)) ?_
  refine wls rfl rfl (stp_boxL (v := (.agg #[v2])) (cs := #[v2]) [G2] rfl rfl rfl ?_)
  intro g5 w5 o5 n5 g5r l5
  have x5 := grown_ext g5r
  have q6 : Nq G2 (bp g5) := o2.nq n5
  replace o2 := o2.ext x5
  have n8 := Nw.ext e3 n5
  have e7 := e3.trans x5
  refine wla rfl rfl (q_assign (v := (bp g5)) rfl rfl) ?_
  refine wl_nil ?_
  refine W_th ?_
  refine W_seq ?_
  refine W_seq ?_
  refine W_reg (by kernel_rfl) ?_
  refine wla rfl rfl (q_move (v := (bp g5)) rfl rfl) ?_
  refine wla rfl rfl (q_nilP rfl rfl) ?_
  refine wla rfl rfl (q_fldP rfl fieldAtM rfl) ?_
  refine wlq rfl rfl (q_loadB (u := v2) rfl Try.isAgg46 rfl o5 rfl) ?_
  refine wla rfl rfl (q_len rfl T46.sl rfl o2.rd) ?_
  refine wla rfl rfl (q_move (v := (i64 0)) rfl rfl) ?_
  refine wl_nil ?_
  refine W_th ?_
  obtain ⟨x9, G9, H⟩ := Option.bind_eq_some_iff.1 H
  refine W_mid (fun f w => ∃ Gbbpg5_27 : Value, f 5 = (bp g5) ∧ f 29 = undef ∧ Ext w0 w ∧ OwD w 22 5 Gbbpg5_27 v2 x9 ∧ Nw w0 Gbbpg5_27 ∧ Blk w g5 94 #[v2] ∧ Nw w0 (bp g5) ∧ Nq Gbbpg5_27 (bp g5)) ?_ ?_
  · refine W_block ?_
    refine W_loop (fun s9 f w => ∃ Gbbpg5_25 : Value, f 1 = (i64 a1columns) ∧ f 5 = (bp g5) ∧ f 15 = (i64 ((c1.length : Int))) ∧ f 16 = (i64 s9.2) ∧ f 29 = undef ∧ Ext w0 w ∧ OwD w 22 5 Gbbpg5_25 v2 s9.1 ∧ Nw w0 Gbbpg5_25 ∧ Blk w g5 94 #[v2] ∧ Nw w0 (bp g5) ∧ Nq Gbbpg5_25 (bp g5)) G9 ?_ ?_
    · exact ⟨G2, rfl, rfl, rfl, rfl, rfl, e7, o2, n4, o5, n8, q6⟩
    · rintro s9 _ _ w10 ⟨Gbbpg5_10, s1_10, s5_10, s15_10, s16_10, s29_10, hE10, o0_10, n0_10, o1_10, n1_10, q0_1_10⟩ H9 hr9
      refine W_seq ?_
      refine W_reg (by kernel_rfl) ?_
      refine wla rfl rfl (q_ltI rfl s16_10 s15_10) ?_
      refine wl_nil ?_
      refine W_th ?_
      refine W_seq ?_
      refine W_cond _ rfl rfl (fun hb11 => ?_) (fun hb11 => ?_)
      · replace H9 := (if_pos (of_decide_eq_true hb11)).symm.trans H9
        refine W_skip ?_
        refine W_th ?_
        refine W_seq ?_
        refine W_block ?_
        refine W_seq ?_
        refine W_reg (by kernel_rfl) ?_
        refine wla rfl rfl (q_move (v := (i64 s9.2)) rfl s16_10) ?_
        refine wla rfl rfl (q_assign (v := (i64 s9.2)) rfl rfl) ?_
        refine wl_nil ?_
        refine W_th ?_
        refine W_draw [3] [(0, 0), (1, 0), (2, 0), (3, 1), (4, 0), (5, 0), (6, 2), (7, 0), (8, 2)] mixed (by kernel_rfl) (by kernel_rfl) (by kernel_rfl) (by kernel_rfl) ?_
        have x12 := Ext.drew w10
        replace o0_10 := o0_10.ext x12
        replace o1_10 := o1_10.ext x12
        have e13 := hE10.trans x12
        refine wsa rfl rfl rfl (q_move (v := (bp g5)) rfl s5_10) ?_
        refine wsa rfl rfl rfl (q_nilP rfl rfl) ?_
        refine wsa rfl rfl rfl (q_fldP rfl fieldAtM rfl) ?_
        refine wsq rfl rfl rfl (q_loadB (u := v2) rfl Try.isAgg46 rfl o1_10 rfl) ?_
        refine wsa rfl rfl rfl (q_move (v := (i64 s9.2)) rfl rfl) ?_
        refine wsa rfl rfl rfl (q_move (v := (i64 a1columns)) rfl s1_10) ?_
        obtain ⟨c14, hc14, H9⟩ := Option.bind_eq_some_iff.1 H9
        refine wss rfl rfl rfl (stp_make (L := [Gbbpg5_10, (bp g5)]) (R := (Sc u8)) rfl T22 rfl rfl hc14 (fun _ _ => rfl) ?_)
        intro v14 w14 o14 n14 g14 l14
        refine ⟨grown_ext g14, ?_⟩
        have x14 := grown_ext g14
        have q15 : Nq Gbbpg5_10 v14 := o0_10.nq n14
        have q16 : Nq (bp g5) v14 := o1_10.nq n14
        replace o0_10 := o0_10.ext x14
        replace o1_10 := o1_10.ext x14
        have n18 := Nw.ext e13 n14
        have e17 := e13.trans x14
        obtain ⟨c19, hc19, H9⟩ := Option.bind_eq_some_iff.1 H9
        refine wsa rfl rfl rfl (q_adr rfl T46 rfl rfl o0_10.rd hc19) ?_
        refine wsn rfl (by kernel_rfl) rfl rfl (stp_storeRow (x := v14) [v14] [(bp g5)] rfl T46 rfl rfl o0_10 hc19 o14 q15.symm ?_)
        intro G21 w20 o20 g20 hG20 l20
        replace o14 := o14.other (Sc.stab _) g20 q15.symm l20
        replace o1_10 := o1_10.other g20 q0_1_10.symm
        have e22 := e17.grown g20 n0_10
        have q23 : Nq (bp g5) G21 := OwD.relist hG20 q0_1_10.symm q16
        have n24 : Nw w0 G21 := fun k hk => (hG20 k hk).elim (n0_10 k) (n18 k)
        refine ws_nil ?_
        refine bk_n ?_
        refine W_th ?_
        refine W_reg (by kernel_rfl) ?_
        refine wla rfl rfl (q_addI rfl s16_10 rfl) ?_
        refine wla rfl rfl (q_move (v := (i64 ((wI (s9.2 + 1))))) rfl rfl) ?_
        refine wl_nil ?_
        obtain rfl := Option.some.inj H9
        exact ⟨_, rfl, G21, s1_10, s5_10, s15_10, rfl, s29_10, e22, o20, n24, o1_10, n1_10, q23.symm⟩
      · replace H9 := (if_neg (of_decide_eq_false hb11)).symm.trans H9
        refine W_exit ?_
        refine th_x ?_
        obtain rfl := Option.some.inj H9
        obtain rfl := hr9 _ rfl
        refine th_x ?_
        refine bk_x ?_
        exact ⟨Gbbpg5_10, s5_10, s29_10, hE10, o0_10, n0_10, o1_10, n1_10, q0_1_10⟩
  · rintro _ w26 ⟨Gbbpg5_26, s5_26, s29_26, hE26, o0_26, n0_26, o1_26, n1_26, q0_1_26⟩
    refine W_th ?_
    refine W_seq ?_
    refine W_reg (by kernel_rfl) ?_
    refine wla rfl rfl (q_move (v := (bp g5)) rfl s5_26) ?_
    refine wla rfl rfl (q_assign (v := (bp g5)) rfl rfl) ?_
    refine wl_nil ?_
    refine W_th ?_
    refine W_ret ?_
    obtain rfl := Option.some.inj H
    refine rt1 (bp g5) rfl rfl rfl s29_26 ?_
    exact ⟨(bp g5), rfl, hE26, ⟨_, _, _, rfl, n1_26, o1_26, n0_26, o0_26, q0_1_26.symm⟩⟩

/-! largesse/matrix.New -/
noncomputable def matrix_New (a0rows : List (List UInt8)) : Option (Option (List (List UInt8)) × Int) :=
((matrix_size (a0rows.length : Int)).bind fun r1 =>
(if (!r1) = true then some ((none : Option (List (List UInt8))), 2)
else
((idx a0rows 0).bind fun c4 =>
((matrix_size (c4.length : Int)).bind fun r6 =>
(if (!r6) = true then some ((none : Option (List (List UInt8))), 2)
else
((idx a0rows 0).bind fun c9 =>
((matrix_blank (a0rows.length : Int) (c9.length : Int)).bind fun r11 =>
((iterC (fun s15 : List (List UInt8) × Int =>
(if s15.2 < (a0rows.length : Int) then
((idx a0rows s15.2).bind fun c18 =>
((idx a0rows 0).bind fun c20 =>
(if (c18.length : Int) = (c20.length : Int) then
((idx s15.1 s15.2).bind fun c23 => some (.inl ((s15.1.set (s15.2 : Int).toNat (copyL c23 0 c18)), (wI (s15.2 + 1)))))
else some (.inr (.inr ((none : Option (List (List UInt8))), 1))))))
else some (.inr (.inl s15.1)))) (r11, 0)).bind (Sum.elim (fun y15 => some ((some y15), 0)) (fun q15 => some q15))))))))))
set_option maxRecDepth 100000 in
set_option maxHeartbeats 8000000 in
theorem matrix_New_calls (a0rows : List (List UInt8)) (p0 : Value) (r : Option (List (List UInt8)) × Int) (w0 : World) (L0 : List Value) (hL0 : Old w0 L0) (hp0 : Rw w0 [] p0 a0rows) (H : matrix_New a0rows = some r) :
    Calls Try.prog 38 [p0].toArray w0 (fun e w' => ∃ u0 : Value, e = .returned (.tuple #[u0, (i64 r.2)]) ∧ Ext w0 w' ∧ Mx w' L0 u0 r.1) := by
  have hE : Ext w0 w0 := Ext.refl w0
  unfold matrix_New at H
  refine calls_W (n := 51) Try.func38 rfl rfl rfl ?_
  refine W_seq ?_
  refine W_reg (by kernel_rfl) ?_
  refine wla rfl rfl (q_assign (v := (.pointer none)) rfl rfl) ?_
  refine wla rfl rfl (q_assign (v := (i64 0)) rfl rfl) ?_
  refine wl_nil ?_
  refine W_th ?_
  refine W_seq ?_
  refine W_seq ?_
  refine W_reg (by kernel_rfl) ?_
  refine wla rfl rfl (q_move (v := p0) rfl rfl) ?_
  refine wla rfl rfl (q_len rfl T46.sl rfl (hp0.lift (Lift.ext hE _))) ?_
  obtain ⟨r1, hr1, H⟩ := Option.bind_eq_some_iff.1 H
  refine wls rfl rfl (stp_call (vs := [(i64 ((a0rows.length : Int)))]) Try.func71 rfl rfl rfl (ar1 rfl) (matrix_size_calls (a0rows.length : Int)  r1 _  hr1) ?_)
  rintro _ w1 ⟨rfl, x1⟩
  refine ⟨_, rfl, ?_⟩
  have e2 := hE.trans x1
  refine wla rfl rfl (q_not rfl rfl) ?_
  refine wlb rfl rfl (q_move (v := (.bool ((!r1)))) rfl rfl) (fun hb3 => ?_) (fun hb3 => ?_)
  · replace H := (if_pos hb3).symm.trans H
    refine wlk rfl rfl ?_
    refine wlk rfl rfl ?_
    refine wlk rfl rfl ?_
    refine wlk rfl rfl ?_
    refine wlk rfl rfl ?_
    refine wlk rfl rfl ?_
    refine wla rfl rfl (q_pick_t (v := (.bool true)) rfl rfl rfl) ?_
    refine wl_nil ?_
    refine W_th ?_
    refine W_cond true rfl rfl (fun _ => ?_) (fun hb => by cases hb)
    refine W_seq ?_
    refine W_reg (by kernel_rfl) ?_
    refine wla rfl rfl (q_assign (v := (.pointer none)) rfl rfl) ?_
    refine wla rfl rfl (q_assign (v := (i64 2)) rfl rfl) ?_
    refine wl_nil ?_
    refine W_th ?_
    refine W_ret ?_
    refine th_r ?_
    obtain rfl := Option.some.inj H
    refine rt2 (.pointer none) (i64 2) rfl rfl rfl rfl rfl rfl ?_
    exact ⟨(.pointer none), rfl, e2, (Mx.nil _ _)⟩
  · replace H := (if_neg (ne_true_of_eq_false hb3)).symm.trans H
    refine wla rfl rfl (q_move (v := p0) rfl rfl) ?_
    obtain ⟨c4, hc4, H⟩ := Option.bind_eq_some_iff.1 H
    refine wla rfl rfl (q_adr rfl T46 rfl rfl (hp0.lift (Lift.ext e2 _)) hc4) ?_
    refine wlq_load rfl rfl rfl T46 rfl hp0 hc4 e2 (fun v5 ha5 => ?_)
    refine wla rfl rfl (q_len rfl T22.sl rfl (ha5.lift (Lift.ext e2 _))) ?_
    obtain ⟨r6, hr6, H⟩ := Option.bind_eq_some_iff.1 H
    refine wls rfl rfl (stp_call (vs := [(i64 ((c4.length : Int)))]) Try.func71 rfl rfl rfl (ar1 rfl) (matrix_size_calls (c4.length : Int)  r6 _  hr6) ?_)
    rintro _ w6 ⟨rfl, x6⟩
    refine ⟨_, rfl, ?_⟩
    have e7 := e2.trans x6
    refine wla rfl rfl (q_not rfl rfl) ?_
    refine wla rfl rfl (q_pick_f (v := (.bool ((!r6)))) rfl rfl rfl) ?_
    refine wl_nil ?_
    refine W_th ?_
    refine W_cond _ rfl rfl (fun hb8 => ?_) (fun hb8 => ?_)
    · replace H := (if_pos hb8).symm.trans H
      refine W_seq ?_
      refine W_reg (by kernel_rfl) ?_
      refine wla rfl rfl (q_assign (v := (.pointer none)) rfl rfl) ?_
      refine wla rfl rfl (q_assign (v := (i64 2)) rfl rfl) ?_
      refine wl_nil ?_
      refine W_th ?_
      refine W_ret ?_
      refine th_r ?_
      obtain rfl := Option.some.inj H
      refine rt2 (.pointer none) (i64 2) rfl rfl rfl rfl rfl rfl ?_
      exact ⟨(.pointer none), rfl, e7, (Mx.nil _ _)⟩
    · replace H := (if_neg (ne_true_of_eq_false hb8)).symm.trans H
      refine W_skip ?_
      refine W_th ?_
      refine W_seq ?_
      refine W_reg (by kernel_rfl) ?_
      refine wla rfl rfl (q_move (v := p0) rfl rfl) ?_
      refine wla rfl rfl (q_len rfl T46.sl rfl (hp0.lift (Lift.ext e7 _))) ?_
      refine wla rfl rfl (q_move (v := p0) rfl rfl) ?_
      obtain ⟨c9, hc9, H⟩ := Option.bind_eq_some_iff.1 H
      refine wla rfl rfl (q_adr rfl T46 rfl rfl (hp0.lift (Lift.ext e7 _)) hc9) ?_
      refine wlq_load rfl rfl rfl T46 rfl hp0 hc9 e7 (fun v10 ha10 => ?_)
      refine wla rfl rfl (q_len rfl T22.sl rfl (ha10.lift (Lift.ext e7 _))) ?_
      obtain ⟨r11, hr11, H⟩ := Option.bind_eq_some_iff.1 H
      refine wls rfl rfl (stp_call (vs := [(i64 ((a0rows.length : Int))), (i64 ((c9.length : Int)))]) Try.func72 rfl rfl rfl (ar2 rfl rfl) (matrix_blank_calls (a0rows.length : Int) (c9.length : Int)  r11 _  hr11) ?_)
      rintro _ w11 ⟨v11, rfl, x11, i11_0⟩
      refine ⟨_, rfl, ?_⟩
      obtain ⟨g11, uv11, G11, rfl, nB11, hB11, nG11, hD11, hq11⟩ := i11_0
      have n12 := Nw.ext e7 nB11
      have n13 := Nw.ext e7 nG11
      have e14 := e7.trans x11
      refine wla rfl rfl (q_assign (v := (bp g11)) rfl rfl) ?_
      refine wl_nil ?_
      refine W_th ?_
      refine W_seq ?_
      refine W_seq ?_
      refine W_reg (by kernel_rfl) ?_
      refine wla rfl rfl (q_move (v := p0) rfl rfl) ?_
      refine wla rfl rfl (q_len rfl T46.sl rfl (hp0.lift (Lift.ext e14 _))) ?_
      refine wla rfl rfl (q_move (v := (i64 0)) rfl rfl) ?_
      refine wl_nil ?_
      refine W_th ?_
      obtain ⟨x15, G15, H⟩ := Option.bind_eq_some_iff.1 H
      refine W_mid (fun f w => ∃ y15, x15 = .inl y15 ∧ ∃ Gbbpg11_30 : Value, f 4 = (bp g11) ∧ f 51 = undef ∧ Ext w0 w ∧ OwD w 22 5 Gbbpg11_30 uv11 y15 ∧ Nw w0 Gbbpg11_30 ∧ Blk w g11 94 #[uv11] ∧ Nw w0 (bp g11) ∧ Nq Gbbpg11_30 (bp g11)) ?_ ?_
      · refine W_block ?_
        refine W_loop (fun s15 f w => ∃ Gbbpg11_28 : Value, f 0 = p0 ∧ f 4 = (bp g11) ∧ f 26 = p0 ∧ f 27 = (i64 ((a0rows.length : Int))) ∧ f 28 = (i64 s15.2) ∧ f 51 = undef ∧ Ext w0 w ∧ OwD w 22 5 Gbbpg11_28 uv11 s15.1 ∧ Nw w0 Gbbpg11_28 ∧ Blk w g11 94 #[uv11] ∧ Nw w0 (bp g11) ∧ Nq Gbbpg11_28 (bp g11)) G15 ?_ ?_
        · exact ⟨G11, rfl, rfl, rfl, rfl, rfl, rfl, e14, hD11, n13, hB11, n12, hq11.symm⟩
        · rintro s15 _ _ w16 ⟨Gbbpg11_16, s0_16, s4_16, s26_16, s27_16, s28_16, s51_16, hE16, o0_16, n0_16, o1_16, n1_16, q0_1_16⟩ H15 hr15
          refine W_seq ?_
          refine W_reg (by kernel_rfl) ?_
          refine wla rfl rfl (q_ltI rfl s28_16 s27_16) ?_
          refine wl_nil ?_
          refine W_th ?_
          refine W_seq ?_
          refine W_cond _ rfl rfl (fun hb17 => ?_) (fun hb17 => ?_)
          · replace H15 := (if_pos (of_decide_eq_true hb17)).symm.trans H15
            refine W_skip ?_
            refine W_th ?_
            refine W_seq ?_
            refine W_block ?_
            refine W_seq ?_
            refine W_reg (by kernel_rfl) ?_
            refine wla rfl rfl (q_move (v := (i64 s15.2)) rfl s28_16) ?_
            obtain ⟨c18, hc18, H15⟩ := Option.bind_eq_some_iff.1 H15
            refine wla rfl rfl (q_adr rfl T46 s26_16 s28_16 (hp0.lift (Lift.ext hE16 _)) hc18) ?_
            refine wlq_load rfl rfl rfl T46 rfl hp0 hc18 hE16 (fun v19 ha19 => ?_)
            refine wla rfl rfl (q_assign (v := (i64 s15.2)) rfl rfl) ?_
            refine wla rfl rfl (q_assign (v := v19) rfl rfl) ?_
            refine wl_nil ?_
            refine W_th ?_
            refine W_seq ?_
            refine W_seq ?_
            refine W_reg (by kernel_rfl) ?_
            refine wla rfl rfl (q_move (v := v19) rfl rfl) ?_
            refine wla rfl rfl (q_len rfl T22.sl rfl (ha19.lift (Lift.ext hE16 _))) ?_
            refine wla rfl rfl (q_move (v := p0) rfl s0_16) ?_
            obtain ⟨c20, hc20, H15⟩ := Option.bind_eq_some_iff.1 H15
            refine wla rfl rfl (q_adr rfl T46 rfl rfl (hp0.lift (Lift.ext hE16 _)) hc20) ?_
            refine wlq_load rfl rfl rfl T46 rfl hp0 hc20 hE16 (fun v21 ha21 => ?_)
            refine wla rfl rfl (q_len rfl T22.sl rfl (ha21.lift (Lift.ext hE16 _))) ?_
            refine wla rfl rfl (q_neI rfl rfl rfl) ?_
            refine wl_nil ?_
            refine W_th ?_
            refine W_cond _ rfl rfl (fun hb22 => ?_) (fun hb22 => ?_)
            · replace H15 := (if_neg (ndec_t hb22)).symm.trans H15
              refine W_seq ?_
              refine W_reg (by kernel_rfl) ?_
              refine wla rfl rfl (q_assign (v := (.pointer none)) rfl rfl) ?_
              refine wla rfl rfl (q_assign (v := (i64 1)) rfl rfl) ?_
              refine wl_nil ?_
              refine W_th ?_
              refine W_ret ?_
              refine th_r ?_
              refine bk_r ?_
              refine th_r ?_
              obtain rfl := Option.some.inj H15
              obtain rfl := hr15 _ rfl
              simp only [Sum.elim_inr] at H
              refine th_r ?_
              refine bk_r ?_
              refine th_r ?_
              refine th_r ?_
              obtain rfl := Option.some.inj H
              refine rt2 (.pointer none) (i64 1) rfl rfl rfl rfl rfl s51_16 ?_
              exact ⟨(.pointer none), rfl, hE16, (Mx.nil _ _)⟩
            · replace H15 := (if_pos (ndec_f hb22)).symm.trans H15
              refine W_skip ?_
              refine W_th ?_
              refine W_reg (by kernel_rfl) ?_
              refine wla rfl rfl (q_move (v := (bp g11)) rfl s4_16) ?_
              refine wla rfl rfl (q_nilP rfl rfl) ?_
              refine wla rfl rfl (q_fldP rfl fieldAtM rfl) ?_
              refine wlq rfl rfl (q_loadB (u := uv11) rfl Try.isAgg46 rfl o1_16 rfl) ?_
              refine wla rfl rfl (q_move (v := (i64 s15.2)) rfl rfl) ?_
              obtain ⟨c23, hc23, H15⟩ := Option.bind_eq_some_iff.1 H15
              refine wla rfl rfl (q_adr rfl T46 rfl rfl o0_16.rd hc23) ?_
              refine wlq_loadD rfl rfl rfl T46 rfl o0_16 hc23 (fun v24 hD24 => ?_)
              refine wla rfl rfl (q_move (v := v19) rfl rfl) ?_
              refine wls rfl rfl (stp_copyD (off := 0) (dv := v24) (s := v19) [] ((bp g11) :: L0) rfl T22 rfl rfl o0_16 hD24 hc23 (drow_whole o0_16 hD24 hc23) (by decide) (Int.natCast_nonneg _) (ha19.lift (Lift.ext hE16 _)) ?_)
              intro w26 o26 g26 l26
              replace o1_16 := o1_16.other g26 q0_1_16.symm
              have e27 := hE16.grown g26 n0_16
              refine wl_nil ?_
              refine bk_n ?_
              refine W_th ?_
              refine W_reg (by kernel_rfl) ?_
              refine wla rfl rfl (q_addI rfl s28_16 rfl) ?_
              refine wla rfl rfl (q_move (v := (i64 ((wI (s15.2 + 1))))) rfl rfl) ?_
              refine wl_nil ?_
              obtain rfl := Option.some.inj H15
              exact ⟨_, rfl, Gbbpg11_16, s0_16, s4_16, s26_16, s27_16, rfl, s51_16, e27, o26, n0_16, o1_16, n1_16, q0_1_16⟩
          · replace H15 := (if_neg (of_decide_eq_false hb17)).symm.trans H15
            refine W_exit ?_
            refine th_x ?_
            obtain rfl := Option.some.inj H15
            obtain rfl := hr15 _ rfl
            refine th_x ?_
            refine bk_x ?_
            exact ⟨_, rfl, Gbbpg11_16, s4_16, s51_16, hE16, o0_16, n0_16, o1_16, n1_16, q0_1_16⟩
      · rintro _ w29 ⟨y15, rfl, Gbbpg11_29, s4_29, s51_29, hE29, o0_29, n0_29, o1_29, n1_29, q0_1_29⟩
        simp only [Sum.elim_inl] at H
        refine W_th ?_
        refine W_seq ?_
        refine W_reg (by kernel_rfl) ?_
        refine wla rfl rfl (q_move (v := (bp g11)) rfl s4_29) ?_
        refine wla rfl rfl (q_assign (v := (bp g11)) rfl rfl) ?_
        refine wla rfl rfl (q_assign (v := (i64 0)) rfl rfl) ?_
        refine wl_nil ?_
        refine W_th ?_
        refine W_ret ?_
        obtain rfl := Option.some.inj H
        refine rt2 (bp g11) (i64 0) rfl rfl rfl rfl rfl s51_29 ?_
        exact ⟨(bp g11), rfl, hE29, (Mx.mk o1_29 (hL0 _ (n1_29 _ (hs_bp' _))) (o0_29.rw L0 (fun k hk => hL0 k (n0_29 k hk))))⟩

/-! (*largesse/matrix.Matrix).Size -/
noncomputable def matrix_Size (a0m : Option (List (List UInt8))) : Option (Int × Int) :=
(if a0m.isNone = true then some (0, 0)
else
((a0m).bind fun c4 =>
((idx c4 0).bind fun c5 => some ((c4.length : Int), (c5.length : Int)))))
set_option maxRecDepth 100000 in
set_option maxHeartbeats 8000000 in
theorem matrix_Size_calls (a0m : Option (List (List UInt8))) (p0 : Value) (r : Int × Int) (w0 : World) (hp0 : Mx w0 [] p0 a0m) (H : matrix_Size a0m = some r) :
    Calls Try.prog 39 [p0].toArray w0 (fun e w' => e = .returned (.tuple #[(i64 r.1), (i64 r.2)]) ∧ Ext w0 w') := by
  have hE : Ext w0 w0 := Ext.refl w0
  unfold matrix_Size at H
  refine calls_W (n := 18) Try.func39 rfl rfl rfl ?_
  refine W_seq ?_
  refine W_reg (by kernel_rfl) ?_
  refine wla rfl rfl (q_assign (v := (i64 0)) rfl rfl) ?_
  refine wla rfl rfl (q_assign (v := (i64 0)) rfl rfl) ?_
  refine wl_nil ?_
  refine W_th ?_
  refine W_seq ?_
  refine W_seq ?_
  refine W_reg (by kernel_rfl) ?_
  refine wla rfl rfl (q_move (v := p0) rfl rfl) ?_
  refine wla rfl rfl (q_eqM rfl rfl rfl rfl (hp0.lift (Lift.ext hE _))) ?_
  refine wl_nil ?_
  refine W_th ?_
  refine W_cond _ rfl rfl (fun hb1 => ?_) (fun hb1 => ?_)
  · replace H := (if_pos hb1).symm.trans H
    refine W_seq ?_
    refine W_reg (by kernel_rfl) ?_
    refine wla rfl rfl (q_assign (v := (i64 0)) rfl rfl) ?_
    refine wla rfl rfl (q_assign (v := (i64 0)) rfl rfl) ?_
    refine wl_nil ?_
    refine W_th ?_
    refine W_ret ?_
    refine th_r ?_
    obtain rfl := Option.some.inj H
    refine rt2 (i64 0) (i64 0) rfl rfl rfl rfl rfl rfl ?_
    exact ⟨rfl, hE⟩
  · replace H := (if_neg (ne_true_of_eq_false hb1)).symm.trans H
    refine W_skip ?_
    refine W_th ?_
    refine W_seq ?_
    refine W_draw [3, 8, 10] [(0, 0), (1, 0), (2, 0), (3, 1), (4, 0), (5, 0), (6, 0), (7, 0), (8, 1), (9, 0), (10, 1), (11, 0), (12, 0), (13, 0)] mixed (by kernel_rfl) (by kernel_rfl) (by kernel_rfl) (by kernel_rfl) ?_
    have x2 := Ext.drew w0
    have e3 := hE.trans x2
    refine wsa rfl rfl rfl (q_move (v := p0) rfl rfl) ?_
    obtain ⟨c4, hc4, H⟩ := Option.bind_eq_some_iff.1 H
    obtain ⟨g4, uv4, hv4, hB4, hR4⟩ := MxT.some hp0 hc4
    refine wsa rfl rfl rfl (q_nilP (g := g4) (m := 0) rfl (Eq.trans rfl hv4)) ?_
    refine wsa rfl rfl rfl (q_fldP rfl fieldAtM rfl) ?_
    refine wsq rfl rfl rfl (q_loadB (u := uv4) rfl Try.isAgg46 rfl (hB4.ext e3) rfl) ?_
    refine wsa rfl rfl rfl (q_len rfl T46.sl rfl (hR4.lift (Lift.ext e3 _))) ?_
    refine wsa rfl rfl rfl (q_move (v := p0) rfl rfl) ?_
    refine wsa rfl rfl rfl (q_nilP (g := g4) (m := 0) rfl (Eq.trans rfl hv4)) ?_
    refine wsa rfl rfl rfl (q_fldP rfl fieldAtM rfl) ?_
    refine wsq rfl rfl rfl (q_loadB (u := uv4) rfl Try.isAgg46 rfl (hB4.ext e3) rfl) ?_
    obtain ⟨c5, hc5, H⟩ := Option.bind_eq_some_iff.1 H
    refine wsa rfl rfl rfl (q_adr rfl T46 rfl rfl (hR4.lift (Lift.ext e3 _)) hc5) ?_
    refine wsq_load rfl rfl rfl rfl T46 rfl hR4 hc5 e3 (fun v6 ha6 => ?_)
    refine wsa rfl rfl rfl (q_len rfl T22.sl rfl (ha6.lift (Lift.ext e3 _))) ?_
    refine wsa rfl rfl rfl (q_assign (v := (i64 ((c4.length : Int)))) rfl rfl) ?_
    refine wsa rfl rfl rfl (q_assign (v := (i64 ((c5.length : Int)))) rfl rfl) ?_
    refine ws_nil ?_
    refine W_th ?_
    refine W_ret ?_
    obtain rfl := Option.some.inj H
    refine rt2 (i64 ((c4.length : Int))) (i64 ((c5.length : Int))) rfl rfl rfl rfl rfl rfl ?_
    exact ⟨rfl, e3⟩

/-! (*largesse/matrix.Matrix).Row -/
noncomputable def matrix_Row (a0m : Option (List (List UInt8))) (a1i : Int) : Option (List UInt8) :=
(if a0m.isNone = true then some ([] : List UInt8)
else
(if a1i < 0 then some ([] : List UInt8)
else
((a0m).bind fun c3 =>
(if (c3.length : Int) ≤ a1i then some ([] : List UInt8)
else
((idx c3 a1i).bind fun c5 =>
((slices_Clone_sbytebyte c5).bind fun r7 => some r7))))))
set_option maxRecDepth 100000 in
set_option maxHeartbeats 8000000 in
theorem matrix_Row_calls (a0m : Option (List (List UInt8))) (a1i : Int) (p0 : Value) (r : List UInt8) (w0 : World) (hp0 : Mx w0 [] p0 a0m) (H : matrix_Row a0m a1i = some r) :
    Calls Try.prog 43 [p0, (i64 a1i)].toArray w0 (fun e w' => ∃ u0 : Value, e = .returned u0 ∧ Ext w0 w' ∧ Nw w0 u0 ∧ OwK (Sc u8) w' [] 5 u0 r) := by
  have hE : Ext w0 w0 := Ext.refl w0
  unfold matrix_Row at H
  refine calls_W (n := 28) Try.func43 rfl rfl rfl ?_
  refine W_seq ?_
  refine W_reg (by kernel_rfl) ?_
  refine wla rfl rfl (q_assign (v := (.slice none 0 0)) rfl rfl) ?_
  refine wl_nil ?_
  refine W_th ?_
  refine W_seq ?_
  refine W_seq ?_
  refine W_reg (by kernel_rfl) ?_
  refine wla rfl rfl (q_move (v := p0) rfl rfl) ?_
  refine wla rfl rfl (q_eqM rfl rfl rfl rfl (hp0.lift (Lift.ext hE _))) ?_
  refine wlb rfl rfl (q_move (v := (.bool a0m.isNone)) rfl rfl) (fun hb1 => ?_) (fun hb1 => ?_)
  · replace H := (if_pos hb1).symm.trans H
    refine wlk rfl rfl ?_
    refine wlk rfl rfl ?_
    refine wla rfl rfl (q_pick_t (v := (.bool true)) rfl rfl rfl) ?_
    refine wla rfl rfl (q_move (v := (.bool true)) rfl rfl) ?_
    refine wlk rfl rfl ?_
    refine wlk rfl rfl ?_
    refine wlk rfl rfl ?_
    refine wlk rfl rfl ?_
    refine wlk rfl rfl ?_
    refine wlk rfl rfl ?_
    refine wlk rfl rfl ?_
    refine wla rfl rfl (q_pick_t (v := (.bool true)) rfl rfl rfl) ?_
    refine wl_nil ?_
    refine W_th ?_
    refine W_cond true rfl rfl (fun _ => ?_) (fun hb => by cases hb)
    refine W_seq ?_
    refine W_reg (by kernel_rfl) ?_
    refine wla rfl rfl (q_assign (v := (.slice none 0 0)) rfl rfl) ?_
    refine wl_nil ?_
    refine W_th ?_
    refine W_ret ?_
    refine th_r ?_
    obtain rfl := Option.some.inj H
    refine rt1 (.slice none 0 0) rfl rfl rfl rfl ?_
    exact ⟨(.slice none 0 0), rfl, hE, Nw.nil _, (OwK.nil _ _ _ _)⟩
  · replace H := (if_neg (ne_true_of_eq_false hb1)).symm.trans H
    refine wla rfl rfl (q_move (v := (i64 a1i)) rfl rfl) ?_
    refine wla rfl rfl (q_ltI rfl rfl rfl) ?_
    refine wla rfl rfl (q_pick_f (v := (.bool ((decide (a1i < 0))))) rfl rfl rfl) ?_
    refine wlb rfl rfl (q_move (v := (.bool ((decide (a1i < 0))))) rfl rfl) (fun hb2 => ?_) (fun hb2 => ?_)
    · replace H := (if_pos (of_decide_eq_true hb2)).symm.trans H
      refine wlk rfl rfl ?_
      refine wlk rfl rfl ?_
      refine wlk rfl rfl ?_
      refine wlk rfl rfl ?_
      refine wlk rfl rfl ?_
      refine wlk rfl rfl ?_
      refine wlk rfl rfl ?_
      refine wla rfl rfl (q_pick_t (v := (.bool true)) rfl rfl rfl) ?_
      refine wl_nil ?_
      refine W_th ?_
      refine W_cond true rfl rfl (fun _ => ?_) (fun hb => by cases hb)
      refine W_seq ?_
      refine W_reg (by kernel_rfl) ?_
      refine wla rfl rfl (q_assign (v := (.slice none 0 0)) rfl rfl) ?_
      refine wl_nil ?_
      refine W_th ?_
      refine W_ret ?_
      refine th_r ?_
      obtain rfl := Option.some.inj H
      refine rt1 (.slice none 0 0) rfl rfl rfl rfl ?_
      exact ⟨(.slice none 0 0), rfl, hE, Nw.nil _, (OwK.nil _ _ _ _)⟩
    · replace H := (if_neg (of_decide_eq_false hb2)).symm.trans H
      refine wla rfl rfl (q_move (v := (i64 a1i)) rfl rfl) ?_
      refine wla rfl rfl (q_move (v := p0) rfl rfl) ?_
      obtain ⟨c3, hc3, H⟩ := Option.bind_eq_some_iff.1 H
      obtain ⟨g3, uv3, hv3, hB3, hR3⟩ := MxT.some hp0 hc3
      refine wla rfl rfl (q_nilP (g := g3) (m := 0) rfl (Eq.trans rfl hv3)) ?_
      refine wla rfl rfl (q_fldP rfl fieldAtM rfl) ?_
      refine wlq rfl rfl (q_loadB (u := uv3) rfl Try.isAgg46 rfl (hB3.ext hE) rfl) ?_
      refine wla rfl rfl (q_len rfl T46.sl rfl (hR3.lift (Lift.ext hE _))) ?_
      refine wla rfl rfl (q_geI rfl rfl rfl) ?_
      refine wla rfl rfl (q_pick_f (v := (.bool ((decide ((c3.length : Int) ≤ a1i))))) rfl rfl rfl) ?_
      refine wl_nil ?_
      refine W_th ?_
      refine W_cond _ rfl rfl (fun hb4 => ?_) (fun hb4 => ?_)
      · replace H := (if_pos (of_decide_eq_true hb4)).symm.trans H
        refine W_seq ?_
        refine W_reg (by kernel_rfl) ?_
        refine wla rfl rfl (q_assign (v := (.slice none 0 0)) rfl rfl) ?_
        refine wl_nil ?_
        refine W_th ?_
        refine W_ret ?_
        refine th_r ?_
        obtain rfl := Option.some.inj H
        refine rt1 (.slice none 0 0) rfl rfl rfl rfl ?_
        exact ⟨(.slice none 0 0), rfl, hE, Nw.nil _, (OwK.nil _ _ _ _)⟩
      · replace H := (if_neg (of_decide_eq_false hb4)).symm.trans H
        refine W_skip ?_
        refine W_th ?_
        refine W_seq ?_
        refine W_reg (by kernel_rfl) ?_
        refine wla rfl rfl (q_move (v := p0) rfl rfl) ?_
        refine wla rfl rfl (q_nilP (g := g3) (m := 0) rfl (Eq.trans rfl hv3)) ?_
        refine wla rfl rfl (q_fldP rfl fieldAtM rfl) ?_
        refine wlq rfl rfl (q_loadB (u := uv3) rfl Try.isAgg46 rfl (hB3.ext hE) rfl) ?_
        refine wla rfl rfl (q_move (v := (i64 a1i)) rfl rfl) ?_
        obtain ⟨c5, hc5, H⟩ := Option.bind_eq_some_iff.1 H
        refine wla rfl rfl (q_adr rfl T46 rfl rfl (hR3.lift (Lift.ext hE _)) hc5) ?_
        refine wlq_load rfl rfl rfl T46 rfl hR3 hc5 hE (fun v6 ha6 => ?_)
        obtain ⟨r7, hr7, H⟩ := Option.bind_eq_some_iff.1 H
        refine wls rfl rfl (stp_call (vs := [v6]) Try.func67 rfl rfl rfl (ar1 rfl) (slices_Clone_sbytebyte_calls c5 v6 r7 _ (ha6.lift (Lift.ext hE _)) hr7) ?_)
        rintro _ w7 ⟨v7, rfl, x7, n7_0, o7_0⟩
        refine ⟨_, rfl, ?_⟩
        have o7 : OwK (Sc u8) w7 (v7 :: []) 5 v7 r7 := OwK.scal o7_0 _
        have n9 := Nw.ext hE n7_0
        have e8 := hE.trans x7
        refine wla rfl rfl (q_assign (v := v7) rfl rfl) ?_
        refine wl_nil ?_
        refine W_th ?_
        refine W_ret ?_
        obtain rfl := Option.some.inj H
        refine rt1 v7 rfl rfl rfl rfl ?_
        exact ⟨v7, rfl, e8, n9, (o7.weak (Sc.stab _) (fun _ _ => trivial))⟩

/-! largesse/matrix.Identity -/
noncomputable def matrix_Identity (a0n : Int) : Option (Option (List (List UInt8)) × Int) :=
((matrix_size a0n).bind fun r1 =>
(if (!r1) = true then some ((none : Option (List (List UInt8))), 2)
else
((matrix_blank a0n a0n).bind fun r4 =>
((iterC (fun s8 : List (List UInt8) × Int =>
(if s8.2 < a0n then
((idx s8.1 s8.2).bind fun c11 =>
((idx c11 s8.2).bind fun c13 => some (.inl ((s8.1.set (s8.2 : Int).toNat (c11.set (s8.2 : Int).toNat ((1 : UInt8)))), (wI (s8.2 + 1))))))
else some (.inr s8.1))) (r4, 0)).bind fun x8 => some ((some x8), 0)))))
set_option maxRecDepth 100000 in
set_option maxHeartbeats 8000000 in
theorem matrix_Identity_calls (a0n : Int) (r : Option (List (List UInt8)) × Int) (w0 : World) (L0 : List Value) (hL0 : Old w0 L0) (H : matrix_Identity a0n = some r) :
    Calls Try.prog 54 [(i64 a0n)].toArray w0 (fun e w' => ∃ u0 : Value, e = .returned (.tuple #[u0, (i64 r.2)]) ∧ Ext w0 w' ∧ Mx w' L0 u0 r.1) := by
  have hE : Ext w0 w0 := Ext.refl w0
  unfold matrix_Identity at H
  refine calls_W (n := 27) Try.func54 rfl rfl rfl ?_
  refine W_seq ?_
  refine W_reg (by kernel_rfl) ?_
  refine wla rfl rfl (q_assign (v := (.pointer none)) rfl rfl) ?_
  refine wla rfl rfl (q_assign (v := (i64 0)) rfl rfl) ?_
  refine wl_nil ?_
  refine W_th ?_
  refine W_seq ?_
  refine W_seq ?_
  refine W_reg (by kernel_rfl) ?_
  refine wla rfl rfl (q_move (v := (i64 a0n)) rfl rfl) ?_
  obtain ⟨r1, hr1, H⟩ := Option.bind_eq_some_iff.1 H
  refine wls rfl rfl (stp_call (vs := [(i64 a0n)]) Try.func71 rfl rfl rfl (ar1 rfl) (matrix_size_calls a0n  r1 _  hr1) ?_)
  rintro _ w1 ⟨rfl, x1⟩
  refine ⟨_, rfl, ?_⟩
  have e2 := hE.trans x1
  refine wla rfl rfl (q_not rfl rfl) ?_
  refine wl_nil ?_
  refine W_th ?_
  refine W_cond _ rfl rfl (fun hb3 => ?_) (fun hb3 => ?_)
  · replace H := (if_pos hb3).symm.trans H
    refine W_seq ?_
    refine W_reg (by kernel_rfl) ?_
    refine wla rfl rfl (q_assign (v := (.pointer none)) rfl rfl) ?_
    refine wla rfl rfl (q_assign (v := (i64 2)) rfl rfl) ?_
    refine wl_nil ?_
    refine W_th ?_
    refine W_ret ?_
    refine th_r ?_
    obtain rfl := Option.some.inj H
    refine rt2 (.pointer none) (i64 2) rfl rfl rfl rfl rfl rfl ?_
    exact ⟨(.pointer none), rfl, e2, (Mx.nil _ _)⟩
  · replace H := (if_neg (ne_true_of_eq_false hb3)).symm.trans H
    refine W_skip ?_
    refine W_th ?_
    refine W_seq ?_
    refine W_reg (by kernel_rfl) ?_
    refine wla rfl rfl (q_move (v := (i64 a0n)) rfl rfl) ?_
    refine wla rfl rfl (q_move (v := (i64 a0n)) rfl rfl) ?_
    obtain ⟨r4, hr4, H⟩ := Option.bind_eq_some_iff.1 H
    refine wls rfl rfl (stp_call (vs := [(i64 a0n), (i64 a0n)]) Try.func72 rfl rfl rfl (ar2 rfl rfl) (matrix_blank_calls a0n a0n  r4 _  hr4) ?_)
    rintro _ w4 ⟨v4, rfl, x4, i4_0⟩
    refine ⟨_, rfl, ?_⟩
    obtain ⟨g4, uv4, G4, rfl, nB4, hB4, nG4, hD4, hq4⟩ := i4_0
    have n5 := Nw.ext e2 nB4
    have n6 := Nw.ext e2 nG4
    have e7 := e2.trans x4
    refine wla rfl rfl (q_assign (v := (bp g4)) rfl rfl) ?_
    refine wl_nil ?_
    refine W_th ?_
    refine W_seq ?_
    refine W_seq ?_
    refine W_reg (by kernel_rfl) ?_
    refine wla rfl rfl (q_move (v := (i64 a0n)) rfl rfl) ?_
    refine wla rfl rfl (q_move (v := (i64 0)) rfl rfl) ?_
    refine wl_nil ?_
    refine W_th ?_
    obtain ⟨x8, G8, H⟩ := Option.bind_eq_some_iff.1 H
    refine W_mid (fun f w => ∃ Gbbpg4_18 : Value, f 4 = (bp g4) ∧ f 27 = undef ∧ Ext w0 w ∧ OwD w 22 5 Gbbpg4_18 uv4 x8 ∧ Nw w0 Gbbpg4_18 ∧ Blk w g4 94 #[uv4] ∧ Nw w0 (bp g4) ∧ Nq Gbbpg4_18 (bp g4)) ?_ ?_
    · refine W_block ?_
      refine W_loop (fun s8 f w => ∃ Gbbpg4_16 : Value, f 4 = (bp g4) ∧ f 12 = (i64 a0n) ∧ f 13 = (i64 s8.2) ∧ f 27 = undef ∧ Ext w0 w ∧ OwD w 22 5 Gbbpg4_16 uv4 s8.1 ∧ Nw w0 Gbbpg4_16 ∧ Blk w g4 94 #[uv4] ∧ Nw w0 (bp g4) ∧ Nq Gbbpg4_16 (bp g4)) G8 ?_ ?_
      · exact ⟨G4, rfl, rfl, rfl, rfl, e7, hD4, n6, hB4, n5, hq4.symm⟩
      · rintro s8 _ _ w9 ⟨Gbbpg4_9, s4_9, s12_9, s13_9, s27_9, hE9, o0_9, n0_9, o1_9, n1_9, q0_1_9⟩ H8 hr8
        refine W_seq ?_
        refine W_reg (by kernel_rfl) ?_
        refine wla rfl rfl (q_ltI rfl s13_9 s12_9) ?_
        refine wl_nil ?_
        refine W_th ?_
        refine W_seq ?_
        refine W_cond _ rfl rfl (fun hb10 => ?_) (fun hb10 => ?_)
        · replace H8 := (if_pos (of_decide_eq_true hb10)).symm.trans H8
          refine W_skip ?_
          refine W_th ?_
          refine W_seq ?_
          refine W_block ?_
          refine W_seq ?_
          refine W_reg (by kernel_rfl) ?_
          refine wla rfl rfl (q_move (v := (i64 s8.2)) rfl s13_9) ?_
          refine wla rfl rfl (q_assign (v := (i64 s8.2)) rfl rfl) ?_
          refine wl_nil ?_
          refine W_th ?_
          refine W_reg (by kernel_rfl) ?_
          refine wla rfl rfl (q_move (v := (bp g4)) rfl s4_9) ?_
          refine wla rfl rfl (q_nilP rfl rfl) ?_
          refine wla rfl rfl (q_fldP rfl fieldAtM rfl) ?_
          refine wlq rfl rfl (q_loadB (u := uv4) rfl Try.isAgg46 rfl o1_9 rfl) ?_
          refine wla rfl rfl (q_move (v := (i64 s8.2)) rfl rfl) ?_
          obtain ⟨c11, hc11, H8⟩ := Option.bind_eq_some_iff.1 H8
          refine wla rfl rfl (q_adr rfl T46 rfl rfl o0_9.rd hc11) ?_
          refine wlq_loadD rfl rfl rfl T46 rfl o0_9 hc11 (fun v12 hD12 => ?_)
          refine wla rfl rfl (q_move (v := (i64 s8.2)) rfl rfl) ?_
          obtain ⟨c13, hc13, H8⟩ := Option.bind_eq_some_iff.1 H8
          refine wla rfl rfl (q_adr rfl T22 rfl rfl (OwD.rowrd o0_9 hD12 hc11) hc13) ?_
          refine wln rfl rfl (stp_storeD [] ((bp g4) :: L0) rfl T22 rfl (cst8 (1 : UInt8) rfl) o0_9 hD12 hc11 hc13 ?_)
          intro w14 o14 g14 l14
          replace o1_9 := o1_9.other g14 q0_1_9.symm
          have e15 := hE9.grown g14 n0_9
          refine wl_nil ?_
          refine bk_n ?_
          refine W_th ?_
          refine W_reg (by kernel_rfl) ?_
          refine wla rfl rfl (q_addI rfl s13_9 rfl) ?_
          refine wla rfl rfl (q_move (v := (i64 ((wI (s8.2 + 1))))) rfl rfl) ?_
          refine wl_nil ?_
          obtain rfl := Option.some.inj H8
          exact ⟨_, rfl, Gbbpg4_9, s4_9, s12_9, rfl, s27_9, e15, o14, n0_9, o1_9, n1_9, q0_1_9⟩
        · replace H8 := (if_neg (of_decide_eq_false hb10)).symm.trans H8
          refine W_exit ?_
          refine th_x ?_
          obtain rfl := Option.some.inj H8
          obtain rfl := hr8 _ rfl
          refine th_x ?_
          refine bk_x ?_
          exact ⟨Gbbpg4_9, s4_9, s27_9, hE9, o0_9, n0_9, o1_9, n1_9, q0_1_9⟩
    · rintro _ w17 ⟨Gbbpg4_17, s4_17, s27_17, hE17, o0_17, n0_17, o1_17, n1_17, q0_1_17⟩
      refine W_th ?_
      refine W_seq ?_
      refine W_reg (by kernel_rfl) ?_
      refine wla rfl rfl (q_move (v := (bp g4)) rfl s4_17) ?_
      refine wla rfl rfl (q_assign (v := (bp g4)) rfl rfl) ?_
      refine wla rfl rfl (q_assign (v := (i64 0)) rfl rfl) ?_
      refine wl_nil ?_
      refine W_th ?_
      refine W_ret ?_
      obtain rfl := Option.some.inj H
      refine rt2 (bp g4) (i64 0) rfl rfl rfl rfl rfl s27_17 ?_
      exact ⟨(bp g4), rfl, hE17, (Mx.mk o1_17 (hL0 _ (n1_17 _ (hs_bp' _))) (o0_17.rw L0 (fun k hk => hL0 k (n0_17 k hk))))⟩

/-! largesse/matrix.Vandermonde -/
noncomputable def matrix_Vandermonde (a0f : Bool) (a1xs : List UInt8) (a2columns : Int) : Option (Option (List (List UInt8)) × Int) :=
(if (!a0f) = true then some ((none : Option (List (List UInt8))), 1)
else
((matrix_size (a1xs.length : Int)).bind fun r2 =>
(if (!r2) = true then some ((none : Option (List (List UInt8))), 2)
else
((matrix_size a2columns).bind fun r5 =>
(if (!r5) = true then some ((none : Option (List (List UInt8))), 2)
else
((matrix_blank (a1xs.length : Int) a2columns).bind fun r8 =>
((iterC (fun s12 : List (List UInt8) × Int =>
(if s12.2 < (a1xs.length : Int) then
((idx a1xs s12.2).bind fun c15 =>
((iterC (fun s16 : List (List UInt8) × Int =>
(if s16.2 < a2columns then
((idx s16.1 s12.2).bind fun c21 =>
((field_Pow a0f c15 s16.2).bind fun r23 =>
((idx c21 s16.2).bind fun c25 => some (.inl ((s16.1.set (s12.2 : Int).toNat (c21.set (s16.2 : Int).toNat r23)), (wI (s16.2 + 1)))))))
else some (.inr s16.1))) (s12.1, 0)).bind fun x16 => some (.inl (x16, (wI (s12.2 + 1))))))
else some (.inr s12.1))) (r8, 0)).bind fun x12 => some ((some x12), 0))))))))
set_option maxRecDepth 100000 in
set_option maxHeartbeats 8000000 in
theorem matrix_Vandermonde_calls (a0f : Bool) (a1xs : List UInt8) (a2columns : Int) (p0 : Value) (p1 : Value) (r : Option (List (List UInt8)) × Int) (w0 : World) (L0 : List Value) (hL0 : Old w0 L0) (hp0 : Fd w0 [] p0 a0f) (hp1 : By w0 [] p1 a1xs) (H : matrix_Vandermonde a0f a1xs a2columns = some r) :
    Calls Try.prog 55 [p0, p1, (i64 a2columns)].toArray w0 (fun e w' => ∃ u0 : Value, e = .returned (.tuple #[u0, (i64 r.2)]) ∧ Ext w0 w' ∧ Mx w' L0 u0 r.1) := by
  have hE : Ext w0 w0 := Ext.refl w0
  unfold matrix_Vandermonde at H
  refine calls_W (n := 56) Try.func55 rfl rfl rfl ?_
  refine W_seq ?_
  refine W_reg (by kernel_rfl) ?_
  refine wla rfl rfl (q_assign (v := (.pointer none)) rfl rfl) ?_
  refine wla rfl rfl (q_assign (v := (i64 0)) rfl rfl) ?_
  refine wl_nil ?_
  refine W_th ?_
  refine W_seq ?_
  refine W_block ?_
  refine W_seq ?_
  refine W_reg (by kernel_rfl) ?_
  refine wla rfl rfl (q_move (v := p0) rfl rfl) ?_
  refine wla rfl rfl (q_eqF rfl rfl rfl rfl (hp0.lift (Lift.ext hE _))) ?_
  refine wla rfl rfl (q_assign (v := (.bool ((!a0f)))) rfl rfl) ?_
  refine wl_nil ?_
  refine W_th ?_
  refine W_cond _ rfl rfl (fun hb1 => ?_) (fun hb1 => ?_)
  · replace H := (if_pos hb1).symm.trans H
    refine W_seq ?_
    refine W_reg (by kernel_rfl) ?_
    refine wla rfl rfl (q_assign (v := (.pointer none)) rfl rfl) ?_
    refine wla rfl rfl (q_assign (v := (i64 1)) rfl rfl) ?_
    refine wl_nil ?_
    refine W_th ?_
    refine W_ret ?_
    refine bk_r ?_
    refine th_r ?_
    obtain rfl := Option.some.inj H
    refine rt2 (.pointer none) (i64 1) rfl rfl rfl rfl rfl rfl ?_
    exact ⟨(.pointer none), rfl, hE, (Mx.nil _ _)⟩
  · replace H := (if_neg (ne_true_of_eq_false hb1)).symm.trans H
    refine W_seq ?_
    refine W_reg (by kernel_rfl) ?_
    refine wla rfl rfl (q_move (v := p1) rfl rfl) ?_
    refine wla rfl rfl (q_len rfl T22.sl rfl (hp1.lift (Lift.ext hE _))) ?_
    obtain ⟨r2, hr2, H⟩ := Option.bind_eq_some_iff.1 H
    refine wls rfl rfl (stp_call (vs := [(i64 ((a1xs.length : Int)))]) Try.func71 rfl rfl rfl (ar1 rfl) (matrix_size_calls (a1xs.length : Int)  r2 _  hr2) ?_)
    rintro _ w2 ⟨rfl, x2⟩
    refine ⟨_, rfl, ?_⟩
    have e3 := hE.trans x2
    refine wla rfl rfl (q_not rfl rfl) ?_
    refine wlb rfl rfl (q_move (v := (.bool ((!r2)))) rfl rfl) (fun hb4 => ?_) (fun hb4 => ?_)
    · replace H := (if_pos hb4).symm.trans H
      refine wlk rfl rfl ?_
      refine wlk rfl rfl ?_
      refine wlk rfl rfl ?_
      refine wla rfl rfl (q_pick_t (v := (.bool true)) rfl rfl rfl) ?_
      refine wla rfl rfl (q_assign (v := (.bool true)) rfl rfl) ?_
      refine wl_nil ?_
      refine W_th ?_
      refine W_cond true rfl rfl (fun _ => ?_) (fun hb => by cases hb)
      refine W_seq ?_
      refine W_reg (by kernel_rfl) ?_
      refine wla rfl rfl (q_assign (v := (.pointer none)) rfl rfl) ?_
      refine wla rfl rfl (q_assign (v := (i64 2)) rfl rfl) ?_
      refine wl_nil ?_
      refine W_th ?_
      refine W_ret ?_
      refine bk_r ?_
      refine th_r ?_
      obtain rfl := Option.some.inj H
      refine rt2 (.pointer none) (i64 2) rfl rfl rfl rfl rfl rfl ?_
      exact ⟨(.pointer none), rfl, e3, (Mx.nil _ _)⟩
    · replace H := (if_neg (ne_true_of_eq_false hb4)).symm.trans H
      refine wla rfl rfl (q_move (v := (i64 a2columns)) rfl rfl) ?_
      obtain ⟨r5, hr5, H⟩ := Option.bind_eq_some_iff.1 H
      refine wls rfl rfl (stp_call (vs := [(i64 a2columns)]) Try.func71 rfl rfl rfl (ar1 rfl) (matrix_size_calls a2columns  r5 _  hr5) ?_)
      rintro _ w5 ⟨rfl, x5⟩
      refine ⟨_, rfl, ?_⟩
      have e6 := e3.trans x5
      refine wla rfl rfl (q_not rfl rfl) ?_
      refine wla rfl rfl (q_pick_f (v := (.bool ((!r5)))) rfl rfl rfl) ?_
      refine wla rfl rfl (q_assign (v := (.bool ((!r5)))) rfl rfl) ?_
      refine wl_nil ?_
      refine W_th ?_
      refine W_cond _ rfl rfl (fun hb7 => ?_) (fun hb7 => ?_)
      · replace H := (if_pos hb7).symm.trans H
        refine W_seq ?_
        refine W_reg (by kernel_rfl) ?_
        refine wla rfl rfl (q_assign (v := (.pointer none)) rfl rfl) ?_
        refine wla rfl rfl (q_assign (v := (i64 2)) rfl rfl) ?_
        refine wl_nil ?_
        refine W_th ?_
        refine W_ret ?_
        refine bk_r ?_
        refine th_r ?_
        obtain rfl := Option.some.inj H
        refine rt2 (.pointer none) (i64 2) rfl rfl rfl rfl rfl rfl ?_
        exact ⟨(.pointer none), rfl, e6, (Mx.nil _ _)⟩
      · replace H := (if_neg (ne_true_of_eq_false hb7)).symm.trans H
        refine W_skip ?_
        refine bk_n ?_
        refine W_th ?_
        refine W_seq ?_
        refine W_reg (by kernel_rfl) ?_
        refine wla rfl rfl (q_move (v := p1) rfl rfl) ?_
        refine wla rfl rfl (q_len rfl T22.sl rfl (hp1.lift (Lift.ext e6 _))) ?_
        refine wla rfl rfl (q_move (v := (i64 a2columns)) rfl rfl) ?_
        obtain ⟨r8, hr8, H⟩ := Option.bind_eq_some_iff.1 H
        refine wls rfl rfl (stp_call (vs := [(i64 ((a1xs.length : Int))), (i64 a2columns)]) Try.func72 rfl rfl rfl (ar2 rfl rfl) (matrix_blank_calls (a1xs.length : Int) a2columns  r8 _  hr8) ?_)
        rintro _ w8 ⟨v8, rfl, x8, i8_0⟩
        refine ⟨_, rfl, ?_⟩
        obtain ⟨g8, uv8, G8, rfl, nB8, hB8, nG8, hD8, hq8⟩ := i8_0
        have n9 := Nw.ext e6 nB8
        have n10 := Nw.ext e6 nG8
        have e11 := e6.trans x8
        refine wla rfl rfl (q_assign (v := (bp g8)) rfl rfl) ?_
        refine wl_nil ?_
        refine W_th ?_
        refine W_seq ?_
        refine W_seq ?_
        refine W_reg (by kernel_rfl) ?_
        refine wla rfl rfl (q_move (v := p1) rfl rfl) ?_
        refine wla rfl rfl (q_len rfl T22.sl rfl (hp1.lift (Lift.ext e11 _))) ?_
        refine wla rfl rfl (q_move (v := (i64 0)) rfl rfl) ?_
        refine wl_nil ?_
        refine W_th ?_
        obtain ⟨x12, G12, H⟩ := Option.bind_eq_some_iff.1 H
        refine W_mid (fun f w => ∃ Gbbpg8_33 : Value, f 8 = (bp g8) ∧ f 56 = undef ∧ Ext w0 w ∧ OwD w 22 5 Gbbpg8_33 uv8 x12 ∧ Nw w0 Gbbpg8_33 ∧ Blk w g8 94 #[uv8] ∧ Nw w0 (bp g8) ∧ Nq Gbbpg8_33 (bp g8)) ?_ ?_
        · refine W_block ?_
          refine W_loop (fun s12 f w => ∃ Gbbpg8_31 : Value, f 0 = p0 ∧ f 2 = (i64 a2columns) ∧ f 8 = (bp g8) ∧ f 29 = p1 ∧ f 30 = (i64 ((a1xs.length : Int))) ∧ f 31 = (i64 s12.2) ∧ f 56 = undef ∧ Ext w0 w ∧ OwD w 22 5 Gbbpg8_31 uv8 s12.1 ∧ Nw w0 Gbbpg8_31 ∧ Blk w g8 94 #[uv8] ∧ Nw w0 (bp g8) ∧ Nq Gbbpg8_31 (bp g8)) G12 ?_ ?_
          · exact ⟨G8, rfl, rfl, rfl, rfl, rfl, rfl, rfl, e11, hD8, n10, hB8, n9, hq8.symm⟩
          · rintro s12 _ _ w13 ⟨Gbbpg8_13, s0_13, s2_13, s8_13, s29_13, s30_13, s31_13, s56_13, hE13, o0_13, n0_13, o1_13, n1_13, q0_1_13⟩ H12 hr12
            refine W_seq ?_
            refine W_reg (by kernel_rfl) ?_
            refine wla rfl rfl (q_ltI rfl s31_13 s30_13) ?_
            refine wl_nil ?_
            refine W_th ?_
            refine W_seq ?_
            refine W_cond _ rfl rfl (fun hb14 => ?_) (fun hb14 => ?_)
            · replace H12 := (if_pos (of_decide_eq_true hb14)).symm.trans H12
              refine W_skip ?_
              refine W_th ?_
              refine W_seq ?_
              refine W_block ?_
              refine W_seq ?_
              refine W_reg (by kernel_rfl) ?_
              refine wla rfl rfl (q_move (v := (i64 s12.2)) rfl s31_13) ?_
              obtain ⟨c15, hc15, H12⟩ := Option.bind_eq_some_iff.1 H12
              refine wla rfl rfl (q_adr rfl T22 s29_13 s31_13 (hp1.lift (Lift.ext hE13 _)) hc15) ?_
              refine wlq rfl rfl (q_loadS rfl T22 rfl (hp1.lift (Lift.ext hE13 _)) hc15) ?_
              refine wla rfl rfl (q_assign (v := (i64 s12.2)) rfl rfl) ?_
              refine wla rfl rfl (q_assign (v := (u8 c15)) rfl rfl) ?_
              refine wl_nil ?_
              refine W_th ?_
              refine W_seq ?_
              refine W_reg (by kernel_rfl) ?_
              refine wla rfl rfl (q_move (v := (i64 a2columns)) rfl s2_13) ?_
              refine wla rfl rfl (q_move (v := (i64 0)) rfl rfl) ?_
              refine wl_nil ?_
              refine W_th ?_
              obtain ⟨x16, G16, H12⟩ := Option.bind_eq_some_iff.1 H12
              refine W_mid (fun f w => ∃ Gbbpg8_30 : Value, f 0 = p0 ∧ f 2 = (i64 a2columns) ∧ f 8 = (bp g8) ∧ f 29 = p1 ∧ f 30 = (i64 ((a1xs.length : Int))) ∧ f 31 = (i64 s12.2) ∧ f 56 = undef ∧ Ext w0 w ∧ OwD w 22 5 Gbbpg8_30 uv8 x16 ∧ Nw w0 Gbbpg8_30 ∧ Blk w g8 94 #[uv8] ∧ Nw w0 (bp g8) ∧ Nq Gbbpg8_30 (bp g8)) ?_ ?_
              · refine W_block ?_
                refine W_loop (fun s16 f w => ∃ Gbbpg8_28 : Value, f 0 = p0 ∧ f 2 = (i64 a2columns) ∧ f 8 = (bp g8) ∧ f 9 = (i64 s12.2) ∧ f 10 = (u8 c15) ∧ f 29 = p1 ∧ f 30 = (i64 ((a1xs.length : Int))) ∧ f 31 = (i64 s12.2) ∧ f 36 = (i64 a2columns) ∧ f 37 = (i64 s16.2) ∧ f 56 = undef ∧ Ext w0 w ∧ OwD w 22 5 Gbbpg8_28 uv8 s16.1 ∧ Nw w0 Gbbpg8_28 ∧ Blk w g8 94 #[uv8] ∧ Nw w0 (bp g8) ∧ Nq Gbbpg8_28 (bp g8)) G16 ?_ ?_
                · exact ⟨Gbbpg8_13, s0_13, s2_13, s8_13, rfl, rfl, s29_13, s30_13, s31_13, rfl, rfl, s56_13, hE13, o0_13, n0_13, o1_13, n1_13, q0_1_13⟩
                · rintro s16 _ _ w17 ⟨Gbbpg8_17, s0_17, s2_17, s8_17, s9_17, s10_17, s29_17, s30_17, s31_17, s36_17, s37_17, s56_17, hE17, o0_17, n0_17, o1_17, n1_17, q0_1_17⟩ H16 hr16
                  refine W_seq ?_
                  refine W_reg (by kernel_rfl) ?_
                  refine wla rfl rfl (q_ltI rfl s37_17 s36_17) ?_
                  refine wl_nil ?_
                  refine W_th ?_
                  refine W_seq ?_
                  refine W_cond _ rfl rfl (fun hb18 => ?_) (fun hb18 => ?_)
                  · replace H16 := (if_pos (of_decide_eq_true hb18)).symm.trans H16
                    refine W_skip ?_
                    refine W_th ?_
                    refine W_seq ?_
                    refine W_block ?_
                    refine W_seq ?_
                    refine W_reg (by kernel_rfl) ?_
                    refine wla rfl rfl (q_move (v := (i64 s16.2)) rfl s37_17) ?_
                    refine wla rfl rfl (q_assign (v := (i64 s16.2)) rfl rfl) ?_
                    refine wl_nil ?_
                    refine W_th ?_
                    refine W_draw [3, 6] [(0, 0), (1, 0), (2, 0), (3, 1), (4, 0), (5, 0), (6, 1), (7, 0), (8, 0), (9, 0), (10, 0), (11, 2), (12, 0), (13, 2)] mixed (by kernel_rfl) (by kernel_rfl) (by kernel_rfl) (by kernel_rfl) ?_
                    have x19 := Ext.drew w17
                    replace o0_17 := o0_17.ext x19
                    replace o1_17 := o1_17.ext x19
                    have e20 := hE17.trans x19
                    refine wsa rfl rfl rfl (q_move (v := (bp g8)) rfl s8_17) ?_
                    refine wsa rfl rfl rfl (q_nilP rfl rfl) ?_
                    refine wsa rfl rfl rfl (q_fldP rfl fieldAtM rfl) ?_
                    refine wsq rfl rfl rfl (q_loadB (u := uv8) rfl Try.isAgg46 rfl o1_17 rfl) ?_
                    refine wsa rfl rfl rfl (q_move (v := (i64 s12.2)) rfl s9_17) ?_
                    obtain ⟨c21, hc21, H16⟩ := Option.bind_eq_some_iff.1 H16
                    refine wsa rfl rfl rfl (q_adr rfl T46 rfl rfl o0_17.rd hc21) ?_
                    refine wsq_loadD rfl rfl rfl rfl T46 rfl o0_17 hc21 (fun v22 hD22 => ?_)
                    refine wsa rfl rfl rfl (q_move (v := (i64 s16.2)) rfl rfl) ?_
                    refine wsa rfl rfl rfl (q_move (v := p0) rfl s0_17) ?_
                    refine wsa rfl rfl rfl (q_move (v := (u8 c15)) rfl s10_17) ?_
                    refine wsa rfl rfl rfl (q_move (v := (i64 s16.2)) rfl rfl) ?_
                    obtain ⟨r23, hr23, H16⟩ := Option.bind_eq_some_iff.1 H16
                    refine wss rfl rfl rfl (stp_call (vs := [p0, (u8 c15), (i64 s16.2)]) Try.func80 rfl rfl rfl (ar3 rfl rfl rfl) (field_Pow_calls a0f c15 s16.2 p0 r23 _ (hp0.lift (Lift.ext e20 _)) hr23) ?_)
                    rintro _ w23 ⟨rfl, x23⟩
                    refine ⟨_, rfl, x23, ?_⟩
                    replace o0_17 := o0_17.ext x23
                    replace o1_17 := o1_17.ext x23
                    have e24 := e20.trans x23
                    obtain ⟨c25, hc25, H16⟩ := Option.bind_eq_some_iff.1 H16
                    refine wsa rfl rfl rfl (q_adr rfl T22 rfl rfl (OwD.rowrd o0_17 hD22 hc21) hc25) ?_
                    refine wsn rfl (by kernel_rfl) rfl rfl (stp_storeD [] ((bp g8) :: L0) rfl T22 rfl rfl o0_17 hD22 hc21 hc25 ?_)
                    intro w26 o26 g26 l26
                    replace o1_17 := o1_17.other g26 q0_1_17.symm
                    have e27 := e24.grown g26 n0_17
                    refine ws_nil ?_
                    refine bk_n ?_
                    refine W_th ?_
                    refine W_reg (by kernel_rfl) ?_
                    refine wla rfl rfl (q_addI rfl s37_17 rfl) ?_
                    refine wla rfl rfl (q_move (v := (i64 ((wI (s16.2 + 1))))) rfl rfl) ?_
                    refine wl_nil ?_
                    obtain rfl := Option.some.inj H16
                    exact ⟨_, rfl, Gbbpg8_17, s0_17, s2_17, s8_17, s9_17, s10_17, s29_17, s30_17, s31_17, s36_17, rfl, s56_17, e27, o26, n0_17, o1_17, n1_17, q0_1_17⟩
                  · replace H16 := (if_neg (of_decide_eq_false hb18)).symm.trans H16
                    refine W_exit ?_
                    refine th_x ?_
                    obtain rfl := Option.some.inj H16
                    obtain rfl := hr16 _ rfl
                    refine th_x ?_
                    refine bk_x ?_
                    exact ⟨Gbbpg8_17, s0_17, s2_17, s8_17, s29_17, s30_17, s31_17, s56_17, hE17, o0_17, n0_17, o1_17, n1_17, q0_1_17⟩
              · rintro _ w29 ⟨Gbbpg8_29, s0_29, s2_29, s8_29, s29_29, s30_29, s31_29, s56_29, hE29, o0_29, n0_29, o1_29, n1_29, q0_1_29⟩
                refine bk_n ?_
                refine W_th ?_
                refine W_reg (by kernel_rfl) ?_
                refine wla rfl rfl (q_addI rfl s31_29 rfl) ?_
                refine wla rfl rfl (q_move (v := (i64 ((wI (s12.2 + 1))))) rfl rfl) ?_
                refine wl_nil ?_
                obtain rfl := Option.some.inj H12
                exact ⟨_, rfl, Gbbpg8_29, s0_29, s2_29, s8_29, s29_29, s30_29, rfl, s56_29, hE29, o0_29, n0_29, o1_29, n1_29, q0_1_29⟩
            · replace H12 := (if_neg (of_decide_eq_false hb14)).symm.trans H12
              refine W_exit ?_
              refine th_x ?_
              obtain rfl := Option.some.inj H12
              obtain rfl := hr12 _ rfl
              refine th_x ?_
              refine bk_x ?_
              exact ⟨Gbbpg8_13, s8_13, s56_13, hE13, o0_13, n0_13, o1_13, n1_13, q0_1_13⟩
        · rintro _ w32 ⟨Gbbpg8_32, s8_32, s56_32, hE32, o0_32, n0_32, o1_32, n1_32, q0_1_32⟩
          refine W_th ?_
          refine W_seq ?_
          refine W_reg (by kernel_rfl) ?_
          refine wla rfl rfl (q_move (v := (bp g8)) rfl s8_32) ?_
          refine wla rfl rfl (q_assign (v := (bp g8)) rfl rfl) ?_
          refine wla rfl rfl (q_assign (v := (i64 0)) rfl rfl) ?_
          refine wl_nil ?_
          refine W_th ?_
          refine W_ret ?_
          obtain rfl := Option.some.inj H
          refine rt2 (bp g8) (i64 0) rfl rfl rfl rfl rfl s56_32 ?_
          exact ⟨(bp g8), rfl, hE32, (Mx.mk o1_32 (hL0 _ (n1_32 _ (hs_bp' _))) (o0_32.rw L0 (fun k hk => hL0 k (n0_32 k hk))))⟩

/-! (*largesse/matrix.Matrix).Times -/
noncomputable def matrix_Times (a0m : Option (List (List UInt8))) (a1f : Bool) (a2v : List UInt8) : Option (List UInt8 × Int) :=
((matrix_Size a0m).bind fun r1 =>
(if (!a1f) = true then some (([] : List UInt8), 1)
else
(if a0m.isNone = true then some (([] : List UInt8), 1)
else
(if r1.2 = (a2v.length : Int) then
((a0m).bind fun c6 =>
((makeL ((c6.length : Int)) (0 : UInt8)).bind fun c7 =>
((iterC (fun s10 : List UInt8 × Int =>
(if s10.2 < (c6.length : Int) then
((idx c6 s10.2).bind fun c13 =>
((iterC (fun s15 : List UInt8 × Int =>
(if s15.2 < (c13.length : Int) then
((idx c13 s15.2).bind fun c18 =>
((idx s15.1 s10.2).bind fun c21 =>
((idx a2v s15.2).bind fun c22 =>
((field_Mul a1f c18 c22).bind fun r23 => some (.inl ((s15.1.set (s10.2 : Int).toNat ((c21 ^^^ r23))), (wI (s15.2 + 1))))))))
else some (.inr s15.1))) (s10.1, 0)).bind fun x15 => some (.inl (x15, (wI (s10.2 + 1))))))
else some (.inr s10.1))) (c7, 0)).bind fun x10 => some (x10, 0))))
else some (([] : List UInt8), 1)))))
set_option maxRecDepth 100000 in
set_option maxHeartbeats 8000000 in
theorem matrix_Times_calls (a0m : Option (List (List UInt8))) (a1f : Bool) (a2v : List UInt8) (p0 : Value) (p1 : Value) (p2 : Value) (r : List UInt8 × Int) (w0 : World) (hp0 : Mx w0 [] p0 a0m) (hp1 : Fd w0 [] p1 a1f) (hp2 : By w0 [] p2 a2v) (H : matrix_Times a0m a1f a2v = some r) :
    Calls Try.prog 47 [p0, p1, p2].toArray w0 (fun e w' => ∃ u0 : Value, e = .returned (.tuple #[u0, (i64 r.2)]) ∧ Ext w0 w' ∧ Nw w0 u0 ∧ OwK (Sc u8) w' [] 5 u0 r.1) := by
  have hE : Ext w0 w0 := Ext.refl w0
  unfold matrix_Times at H
  refine calls_W (n := 71) Try.func47 rfl rfl rfl ?_
  refine W_seq ?_
  refine W_reg (by kernel_rfl) ?_
  refine wla rfl rfl (q_assign (v := (.slice none 0 0)) rfl rfl) ?_
  refine wla rfl rfl (q_assign (v := (i64 0)) rfl rfl) ?_
  refine wl_nil ?_
  refine W_th ?_
  refine W_seq ?_
  refine W_seq ?_
  refine W_reg (by kernel_rfl) ?_
  refine wla rfl rfl (q_move (v := p0) rfl rfl) ?_
  obtain ⟨r1, hr1, H⟩ := Option.bind_eq_some_iff.1 H
  refine wls rfl rfl (stp_call (vs := [p0]) Try.func39 rfl rfl rfl (ar1 rfl) (matrix_Size_calls a0m p0 r1 _ (hp0.lift (Lift.ext hE _)) hr1) ?_)
  rintro _ w1 ⟨rfl, x1⟩
  refine ⟨_, rfl, ?_⟩
  have e2 := hE.trans x1
  refine wla rfl rfl (q_move (v := (.tuple #[(i64 r1.1), (i64 r1.2)])) rfl rfl) ?_
  refine wla rfl rfl (q_extract rfl rfl rfl) ?_
  refine wla rfl rfl (q_extract rfl rfl rfl) ?_
  refine wla rfl rfl (q_assign (v := (i64 r1.1)) rfl rfl) ?_
  refine wla rfl rfl (q_assign (v := (i64 r1.2)) rfl rfl) ?_
  refine wl_nil ?_
  refine W_th ?_
  refine W_seq ?_
  refine W_reg (by kernel_rfl) ?_
  refine wla rfl rfl (q_move (v := p1) rfl rfl) ?_
  refine wla rfl rfl (q_eqF rfl rfl rfl rfl (hp1.lift (Lift.ext e2 _))) ?_
  refine wlb rfl rfl (q_move (v := (.bool ((!a1f)))) rfl rfl) (fun hb3 => ?_) (fun hb3 => ?_)
  · replace H := (if_pos hb3).symm.trans H
    refine wlk rfl rfl ?_
    refine wlk rfl rfl ?_
    refine wla rfl rfl (q_pick_t (v := (.bool true)) rfl rfl rfl) ?_
    refine wla rfl rfl (q_move (v := (.bool true)) rfl rfl) ?_
    refine wlk rfl rfl ?_
    refine wlk rfl rfl ?_
    refine wlk rfl rfl ?_
    refine wlk rfl rfl ?_
    refine wla rfl rfl (q_pick_t (v := (.bool true)) rfl rfl rfl) ?_
    refine wl_nil ?_
    refine W_th ?_
    refine W_cond true rfl rfl (fun _ => ?_) (fun hb => by cases hb)
    refine W_seq ?_
    refine W_reg (by kernel_rfl) ?_
    refine wla rfl rfl (q_assign (v := (.slice none 0 0)) rfl rfl) ?_
    refine wla rfl rfl (q_assign (v := (i64 1)) rfl rfl) ?_
    refine wl_nil ?_
    refine W_th ?_
    refine W_ret ?_
    refine th_r ?_
    obtain rfl := Option.some.inj H
    refine rt2 (.slice none 0 0) (i64 1) rfl rfl rfl rfl rfl rfl ?_
    exact ⟨(.slice none 0 0), rfl, e2, Nw.nil _, (OwK.nil _ _ _ _)⟩
  · replace H := (if_neg (ne_true_of_eq_false hb3)).symm.trans H
    refine wla rfl rfl (q_move (v := p0) rfl rfl) ?_
    refine wla rfl rfl (q_eqM rfl rfl rfl rfl (hp0.lift (Lift.ext e2 _))) ?_
    refine wla rfl rfl (q_pick_f (v := (.bool a0m.isNone)) rfl rfl rfl) ?_
    refine wlb rfl rfl (q_move (v := (.bool a0m.isNone)) rfl rfl) (fun hb4 => ?_) (fun hb4 => ?_)
    · replace H := (if_pos hb4).symm.trans H
      refine wlk rfl rfl ?_
      refine wlk rfl rfl ?_
      refine wlk rfl rfl ?_
      refine wlk rfl rfl ?_
      refine wla rfl rfl (q_pick_t (v := (.bool true)) rfl rfl rfl) ?_
      refine wl_nil ?_
      refine W_th ?_
      refine W_cond true rfl rfl (fun _ => ?_) (fun hb => by cases hb)
      refine W_seq ?_
      refine W_reg (by kernel_rfl) ?_
      refine wla rfl rfl (q_assign (v := (.slice none 0 0)) rfl rfl) ?_
      refine wla rfl rfl (q_assign (v := (i64 1)) rfl rfl) ?_
      refine wl_nil ?_
      refine W_th ?_
      refine W_ret ?_
      refine th_r ?_
      obtain rfl := Option.some.inj H
      refine rt2 (.slice none 0 0) (i64 1) rfl rfl rfl rfl rfl rfl ?_
      exact ⟨(.slice none 0 0), rfl, e2, Nw.nil _, (OwK.nil _ _ _ _)⟩
    · replace H := (if_neg (ne_true_of_eq_false hb4)).symm.trans H
      refine wla rfl rfl (q_move (v := (i64 r1.2)) rfl rfl) ?_
      refine wla rfl rfl (q_move (v := p2) rfl rfl) ?_
      refine wla rfl rfl (q_len rfl T22.sl rfl (hp2.lift (Lift.ext e2 _))) ?_
      refine wla rfl rfl (q_neI rfl rfl rfl) ?_
      refine wla rfl rfl (q_pick_f (v := (.bool ((!decide (r1.2 = (a2v.length : Int)))))) rfl rfl rfl) ?_
      refine wl_nil ?_
      refine W_th ?_
      refine W_cond _ rfl rfl (fun hb5 => ?_) (fun hb5 => ?_)
      · replace H := (if_neg (ndec_t hb5)).symm.trans H
        refine W_seq ?_
        refine W_reg (by kernel_rfl) ?_
        refine wla rfl rfl (q_assign (v := (.slice none 0 0)) rfl rfl) ?_
        refine wla rfl rfl (q_assign (v := (i64 1)) rfl rfl) ?_
        refine wl_nil ?_
        refine W_th ?_
        refine W_ret ?_
        refine th_r ?_
        obtain rfl := Option.some.inj H
        refine rt2 (.slice none 0 0) (i64 1) rfl rfl rfl rfl rfl rfl ?_
        exact ⟨(.slice none 0 0), rfl, e2, Nw.nil _, (OwK.nil _ _ _ _)⟩
      · replace H := (if_pos (ndec_f hb5)).symm.trans H
        refine W_skip ?_
        refine W_th ?_
        refine W_seq ?_
        refine W_reg (by kernel_rfl) ?_
        refine wla rfl rfl (q_move (v := p0) rfl rfl) ?_
        obtain ⟨c6, hc6, H⟩ := Option.bind_eq_some_iff.1 H
        obtain ⟨g6, uv6, hv6, hB6, hR6⟩ := MxT.some hp0 hc6
        refine wla rfl rfl (q_nilP (g := g6) (m := 0) rfl (Eq.trans rfl hv6)) ?_
        refine wla rfl rfl (q_fldP rfl fieldAtM rfl) ?_
        refine wlq rfl rfl (q_loadB (u := uv6) rfl Try.isAgg46 rfl (hB6.ext e2) rfl) ?_
        refine wla rfl rfl (q_len rfl T46.sl rfl (hR6.lift (Lift.ext e2 _))) ?_
        obtain ⟨c7, hc7, H⟩ := Option.bind_eq_some_iff.1 H
        refine wls rfl rfl (stp_make (L := []) (R := (Sc u8)) rfl T22 rfl rfl hc7 (fun _ _ => rfl) ?_)
        intro v7 w7 o7 n7 g7 l7
        have x7 := grown_ext g7
        have n9 := Nw.ext e2 n7
        have e8 := e2.trans x7
        refine wla rfl rfl (q_assign (v := v7) rfl rfl) ?_
        refine wl_nil ?_
        refine W_th ?_
        refine W_seq ?_
        refine W_seq ?_
        refine W_reg (by kernel_rfl) ?_
        refine wla rfl rfl (q_move (v := p0) rfl rfl) ?_
        refine wla rfl rfl (q_nilP (g := g6) (m := 0) rfl (Eq.trans rfl hv6)) ?_
        refine wla rfl rfl (q_fldP rfl fieldAtM rfl) ?_
        refine wlq rfl rfl (q_loadB (u := uv6) rfl Try.isAgg46 rfl (hB6.ext e8) rfl) ?_
        refine wla rfl rfl (q_len rfl T46.sl rfl (hR6.lift (Lift.ext e8 _))) ?_
        refine wla rfl rfl (q_move (v := (i64 0)) rfl rfl) ?_
        refine wl_nil ?_
        refine W_th ?_
        obtain ⟨x10, G10, H⟩ := Option.bind_eq_some_iff.1 H
        refine W_mid (fun f w => f 10 = v7 ∧ f 71 = undef ∧ Ext w0 w ∧ OwK (Sc u8) w [v7] 5 v7 x10 ∧ Nw w0 v7) ?_ ?_
        · refine W_block ?_
          refine W_loop (fun s10 f w => f 1 = p1 ∧ f 2 = p2 ∧ f 10 = v7 ∧ f 41 = uv6 ∧ f 42 = (i64 ((c6.length : Int))) ∧ f 43 = (i64 s10.2) ∧ f 71 = undef ∧ Ext w0 w ∧ OwK (Sc u8) w [v7] 5 v7 s10.1 ∧ Nw w0 v7) G10 ?_ ?_
          · exact ⟨rfl, rfl, rfl, rfl, rfl, rfl, rfl, e8, o7, n9⟩
          · rintro s10 _ _ w11 ⟨s1_11, s2_11, s10_11, s41_11, s42_11, s43_11, s71_11, hE11, o0_11, n0_11⟩ H10 hr10
            refine W_seq ?_
            refine W_reg (by kernel_rfl) ?_
            refine wla rfl rfl (q_ltI rfl s43_11 s42_11) ?_
            refine wl_nil ?_
            refine W_th ?_
            refine W_seq ?_
            refine W_cond _ rfl rfl (fun hb12 => ?_) (fun hb12 => ?_)
            · replace H10 := (if_pos (of_decide_eq_true hb12)).symm.trans H10
              refine W_skip ?_
              refine W_th ?_
              refine W_seq ?_
              refine W_block ?_
              refine W_seq ?_
              refine W_reg (by kernel_rfl) ?_
              refine wla rfl rfl (q_move (v := (i64 s10.2)) rfl s43_11) ?_
              obtain ⟨c13, hc13, H10⟩ := Option.bind_eq_some_iff.1 H10
              refine wla rfl rfl (q_adr rfl T46 s41_11 s43_11 (hR6.lift (Lift.ext hE11 _)) hc13) ?_
              refine wlq_load rfl rfl rfl T46 rfl hR6 hc13 hE11 (fun v14 ha14 => ?_)
              refine wla rfl rfl (q_assign (v := (i64 s10.2)) rfl rfl) ?_
              refine wla rfl rfl (q_assign (v := v14) rfl rfl) ?_
              refine wl_nil ?_
              refine W_th ?_
              refine W_seq ?_
              refine W_reg (by kernel_rfl) ?_
              refine wla rfl rfl (q_move (v := v14) rfl rfl) ?_
              refine wla rfl rfl (q_len rfl T22.sl rfl (ha14.lift (Lift.ext hE11 _))) ?_
              refine wla rfl rfl (q_move (v := (i64 0)) rfl rfl) ?_
              refine wl_nil ?_
              refine W_th ?_
              obtain ⟨x15, G15, H10⟩ := Option.bind_eq_some_iff.1 H10
              refine W_mid (fun f w => f 1 = p1 ∧ f 2 = p2 ∧ f 10 = v7 ∧ f 41 = uv6 ∧ f 42 = (i64 ((c6.length : Int))) ∧ f 43 = (i64 s10.2) ∧ f 71 = undef ∧ Ext w0 w ∧ OwK (Sc u8) w [v7] 5 v7 x15 ∧ Nw w0 v7) ?_ ?_
              · refine W_block ?_
                refine W_loop (fun s15 f w => f 1 = p1 ∧ f 2 = p2 ∧ f 10 = v7 ∧ f 11 = (i64 s10.2) ∧ f 41 = uv6 ∧ f 42 = (i64 ((c6.length : Int))) ∧ f 43 = (i64 s10.2) ∧ f 48 = v14 ∧ f 49 = (i64 ((c13.length : Int))) ∧ f 50 = (i64 s15.2) ∧ f 71 = undef ∧ Ext w0 w ∧ OwK (Sc u8) w [v7] 5 v7 s15.1 ∧ Nw w0 v7) G15 ?_ ?_
                · exact ⟨s1_11, s2_11, s10_11, rfl, s41_11, s42_11, s43_11, rfl, rfl, rfl, s71_11, hE11, o0_11, n0_11⟩
                · rintro s15 _ _ w16 ⟨s1_16, s2_16, s10_16, s11_16, s41_16, s42_16, s43_16, s48_16, s49_16, s50_16, s71_16, hE16, o0_16, n0_16⟩ H15 hr15
                  refine W_seq ?_
                  refine W_reg (by kernel_rfl) ?_
                  refine wla rfl rfl (q_ltI rfl s50_16 s49_16) ?_
                  refine wl_nil ?_
                  refine W_th ?_
                  refine W_seq ?_
                  refine W_cond _ rfl rfl (fun hb17 => ?_) (fun hb17 => ?_)
                  · replace H15 := (if_pos (of_decide_eq_true hb17)).symm.trans H15
                    refine W_skip ?_
                    refine W_th ?_
                    refine W_seq ?_
                    refine W_block ?_
                    refine W_seq ?_
                    refine W_reg (by kernel_rfl) ?_
                    refine wla rfl rfl (q_move (v := (i64 s15.2)) rfl s50_16) ?_
                    obtain ⟨c18, hc18, H15⟩ := Option.bind_eq_some_iff.1 H15
                    refine wla rfl rfl (q_adr rfl T22 s48_16 s50_16 (ha14.lift (Lift.ext hE16 _)) hc18) ?_
                    refine wlq rfl rfl (q_loadS rfl T22 rfl (ha14.lift (Lift.ext hE16 _)) hc18) ?_
                    refine wla rfl rfl (q_assign (v := (i64 s15.2)) rfl rfl) ?_
                    refine wla rfl rfl (q_assign (v := (u8 c18)) rfl rfl) ?_
                    refine wl_nil ?_
                    refine W_th ?_
                    refine W_draw [3, 9] [(0, 0), (1, 0), (2, 0), (3, 1), (4, 0), (5, 0), (6, 0), (7, 0), (8, 0), (9, 1), (10, 2), (11, 0), (12, 0), (13, 2)] mixed (by kernel_rfl) (by kernel_rfl) (by kernel_rfl) (by kernel_rfl) ?_
                    have x19 := Ext.drew w16
                    replace o0_16 := o0_16.extL (Sc.stab _) x19 (Lift.ext x19 _)
                    have e20 := hE16.trans x19
                    refine wsa rfl rfl rfl (q_move (v := v7) rfl s10_16) ?_
                    refine wsa rfl rfl rfl (q_move (v := (i64 s10.2)) rfl s11_16) ?_
                    obtain ⟨c21, hc21, H15⟩ := Option.bind_eq_some_iff.1 H15
                    refine wsa rfl rfl rfl (q_adr rfl T22 rfl rfl (o0_16.rd (Sc.stab _)) hc21) ?_
                    refine wsq rfl rfl rfl (q_loadS rfl T22 rfl (o0_16.rd (Sc.stab _)) hc21) ?_
                    refine wsa rfl rfl rfl (q_move (v := p1) rfl s1_16) ?_
                    refine wsa rfl rfl rfl (q_move (v := (u8 c18)) rfl rfl) ?_
                    refine wsa rfl rfl rfl (q_move (v := p2) rfl s2_16) ?_
                    refine wsa rfl rfl rfl (q_move (v := (i64 s15.2)) rfl rfl) ?_
                    obtain ⟨c22, hc22, H15⟩ := Option.bind_eq_some_iff.1 H15
                    refine wsa rfl rfl rfl (q_adr rfl T22 rfl rfl (hp2.lift (Lift.ext e20 _)) hc22) ?_
                    refine wsq rfl rfl rfl (q_loadS rfl T22 rfl (hp2.lift (Lift.ext e20 _)) hc22) ?_
                    obtain ⟨r23, hr23, H15⟩ := Option.bind_eq_some_iff.1 H15
                    refine wss rfl rfl rfl (stp_call (vs := [p1, (u8 c18), (u8 c22)]) Try.func23 rfl rfl rfl (ar3 rfl rfl rfl) (field_Mul_calls a1f c18 c22 p1 r23 _ (hp1.lift (Lift.ext e20 _)) hr23) ?_)
                    rintro _ w23 ⟨rfl, x23⟩
                    refine ⟨_, rfl, x23, ?_⟩
                    replace o0_16 := o0_16.extL (Sc.stab _) x23 (Lift.ext x23 _)
                    have e24 := e20.trans x23
                    refine wsa rfl rfl rfl (q_xor8 rfl rfl rfl) ?_
                    refine wsa rfl rfl rfl (q_adr rfl T22 rfl rfl (o0_16.rd (Sc.stab _)) hc21) ?_
                    refine wsn rfl (by kernel_rfl) rfl rfl (stp_store (R := (Sc u8)) (u := (u8 ((c21 ^^^ r23)))) (Sc.stab _) [] [] rfl T22 rfl rfl o0_16 (put_of ((c21 ^^^ r23)) hc21) rfl rfl ?_)
                    intro w25 o25 g25 l25
                    have e26 := e24.grown g25 n0_16
                    refine ws_nil ?_
                    refine bk_n ?_
                    refine W_th ?_
                    refine W_reg (by kernel_rfl) ?_
                    refine wla rfl rfl (q_addI rfl s50_16 rfl) ?_
                    refine wla rfl rfl (q_move (v := (i64 ((wI (s15.2 + 1))))) rfl rfl) ?_
                    refine wl_nil ?_
                    obtain rfl := Option.some.inj H15
                    exact ⟨_, rfl, s1_16, s2_16, s10_16, s11_16, s41_16, s42_16, s43_16, s48_16, s49_16, rfl, s71_16, e26, o25, n0_16⟩
                  · replace H15 := (if_neg (of_decide_eq_false hb17)).symm.trans H15
                    refine W_exit ?_
                    refine th_x ?_
                    obtain rfl := Option.some.inj H15
                    obtain rfl := hr15 _ rfl
                    refine th_x ?_
                    refine bk_x ?_
                    exact ⟨s1_16, s2_16, s10_16, s41_16, s42_16, s43_16, s71_16, hE16, o0_16, n0_16⟩
              · rintro _ w28 ⟨s1_28, s2_28, s10_28, s41_28, s42_28, s43_28, s71_28, hE28, o0_28, n0_28⟩
                refine bk_n ?_
                refine W_th ?_
                refine W_reg (by kernel_rfl) ?_
                refine wla rfl rfl (q_addI rfl s43_28 rfl) ?_
                refine wla rfl rfl (q_move (v := (i64 ((wI (s10.2 + 1))))) rfl rfl) ?_
                refine wl_nil ?_
                obtain rfl := Option.some.inj H10
                exact ⟨_, rfl, s1_28, s2_28, s10_28, s41_28, s42_28, rfl, s71_28, hE28, o0_28, n0_28⟩
            · replace H10 := (if_neg (of_decide_eq_false hb12)).symm.trans H10
              refine W_exit ?_
              refine th_x ?_
              obtain rfl := Option.some.inj H10
              obtain rfl := hr10 _ rfl
              refine th_x ?_
              refine bk_x ?_
              exact ⟨s10_11, s71_11, hE11, o0_11, n0_11⟩
        · rintro _ w31 ⟨s10_31, s71_31, hE31, o0_31, n0_31⟩
          refine W_th ?_
          refine W_seq ?_
          refine W_reg (by kernel_rfl) ?_
          refine wla rfl rfl (q_move (v := v7) rfl s10_31) ?_
          refine wla rfl rfl (q_assign (v := v7) rfl rfl) ?_
          refine wla rfl rfl (q_assign (v := (i64 0)) rfl rfl) ?_
          refine wl_nil ?_
          refine W_th ?_
          refine W_ret ?_
          obtain rfl := Option.some.inj H
          refine rt2 v7 (i64 0) rfl rfl rfl rfl rfl s71_31 ?_
          exact ⟨v7, rfl, hE31, n0_31, (o0_31.weak (Sc.stab _) (fun _ _ => trivial))⟩

/-! (*largesse/matrix.Matrix).Mul -/
noncomputable def matrix_Mul (a0m : Option (List (List UInt8))) (a1f : Bool) (a2o : Option (List (List UInt8))) : Option (Option (List (List UInt8)) × Int) :=
((matrix_Size a0m).bind fun r1 =>
((matrix_Size a2o).bind fun r3 =>
(if (!a1f) = true then some ((none : Option (List (List UInt8))), 1)
else
(if a0m.isNone = true then some ((none : Option (List (List UInt8))), 1)
else
(if a2o.isNone = true then some ((none : Option (List (List UInt8))), 1)
else
(if r1.2 = r3.1 then
((a0m).bind fun c9 =>
((matrix_blank (c9.length : Int) r3.2).bind fun r10 =>
((iterC (fun s14 : List (List UInt8) × Int =>
(if s14.2 < (c9.length : Int) then
((idx c9 s14.2).bind fun c17 =>
((iterC (fun s19 : List (List UInt8) × Int =>
(if s19.2 < (c17.length : Int) then
((idx c17 s19.2).bind fun c22 =>
((idx s19.1 s14.2).bind fun c25 =>
((a2o).bind fun c27 =>
((idx c27 s19.2).bind fun c28 =>
((field_Sum a1f c25 c22 c28).bind fun r30 => some (.inl ((s19.1.set (s14.2 : Int).toNat r30), (wI (s19.2 + 1)))))))))
else some (.inr s19.1))) (s14.1, 0)).bind fun x19 => some (.inl (x19, (wI (s14.2 + 1))))))
else some (.inr s14.1))) (r10, 0)).bind fun x14 => some ((some x14), 0))))
else some ((none : Option (List (List UInt8))), 1)))))))
set_option maxRecDepth 100000 in
set_option maxHeartbeats 8000000 in
theorem matrix_Mul_calls (a0m : Option (List (List UInt8))) (a1f : Bool) (a2o : Option (List (List UInt8))) (p0 : Value) (p1 : Value) (p2 : Value) (r : Option (List (List UInt8)) × Int) (w0 : World) (L0 : List Value) (hL0 : Old w0 L0) (hp0 : Mx w0 [] p0 a0m) (hp1 : Fd w0 [] p1 a1f) (hp2 : Mx w0 [] p2 a2o) (H : matrix_Mul a0m a1f a2o = some r) :
    Calls Try.prog 45 [p0, p1, p2].toArray w0 (fun e w' => ∃ u0 : Value, e = .returned (.tuple #[u0, (i64 r.2)]) ∧ Ext w0 w' ∧ Mx w' L0 u0 r.1) := by
  have hE : Ext w0 w0 := Ext.refl w0
  unfold matrix_Mul at H
  refine calls_W (n := 92) Try.func45 rfl rfl rfl ?_
  refine W_seq ?_
  refine W_reg (by kernel_rfl) ?_
  refine wla rfl rfl (q_assign (v := (.pointer none)) rfl rfl) ?_
  refine wla rfl rfl (q_assign (v := (i64 0)) rfl rfl) ?_
  refine wl_nil ?_
  refine W_th ?_
  refine W_seq ?_
  refine W_reg (by kernel_rfl) ?_
  refine wla rfl rfl (q_move (v := p0) rfl rfl) ?_
  obtain ⟨r1, hr1, H⟩ := Option.bind_eq_some_iff.1 H
  refine wls rfl rfl (stp_call (vs := [p0]) Try.func39 rfl rfl rfl (ar1 rfl) (matrix_Size_calls a0m p0 r1 _ (hp0.lift (Lift.ext hE _)) hr1) ?_)
  rintro _ w1 ⟨rfl, x1⟩
  refine ⟨_, rfl, ?_⟩
  have e2 := hE.trans x1
  refine wla rfl rfl (q_move (v := (.tuple #[(i64 r1.1), (i64 r1.2)])) rfl rfl) ?_
  refine wla rfl rfl (q_extract rfl rfl rfl) ?_
  refine wla rfl rfl (q_extract rfl rfl rfl) ?_
  refine wla rfl rfl (q_assign (v := (i64 r1.1)) rfl rfl) ?_
  refine wla rfl rfl (q_assign (v := (i64 r1.2)) rfl rfl) ?_
  refine wl_nil ?_
  refine W_th ?_
  refine W_seq ?_
  refine W_reg (by kernel_rfl) ?_
  refine wla rfl rfl (q_move (v := p2) rfl rfl) ?_
  obtain ⟨r3, hr3, H⟩ := Option.bind_eq_some_iff.1 H
  refine wls rfl rfl (stp_call (vs := [p2]) Try.func39 rfl rfl rfl (ar1 rfl) (matrix_Size_calls a2o p2 r3 _ (hp2.lift (Lift.ext e2 _)) hr3) ?_)
  rintro _ w3 ⟨rfl, x3⟩
  refine ⟨_, rfl, ?_⟩
  have e4 := e2.trans x3
  refine wla rfl rfl (q_move (v := (.tuple #[(i64 r3.1), (i64 r3.2)])) rfl rfl) ?_
  refine wla rfl rfl (q_extract rfl rfl rfl) ?_
  refine wla rfl rfl (q_extract rfl rfl rfl) ?_
  refine wla rfl rfl (q_assign (v := (i64 r3.1)) rfl rfl) ?_
  refine wla rfl rfl (q_assign (v := (i64 r3.2)) rfl rfl) ?_
  refine wl_nil ?_
  refine W_th ?_
  refine W_seq ?_
  refine W_seq ?_
  refine W_reg (by kernel_rfl) ?_
  refine wla rfl rfl (q_move (v := p1) rfl rfl) ?_
  refine wla rfl rfl (q_eqF rfl rfl rfl rfl (hp1.lift (Lift.ext e4 _))) ?_
  refine wlb rfl rfl (q_move (v := (.bool ((!a1f)))) rfl rfl) (fun hb5 => ?_) (fun hb5 => ?_)
  · replace H := (if_pos hb5).symm.trans H
    refine wlk rfl rfl ?_
    refine wlk rfl rfl ?_
    refine wla rfl rfl (q_pick_t (v := (.bool true)) rfl rfl rfl) ?_
    refine wla rfl rfl (q_move (v := (.bool true)) rfl rfl) ?_
    refine wlk rfl rfl ?_
    refine wlk rfl rfl ?_
    refine wla rfl rfl (q_pick_t (v := (.bool true)) rfl rfl rfl) ?_
    refine wla rfl rfl (q_move (v := (.bool true)) rfl rfl) ?_
    refine wlk rfl rfl ?_
    refine wlk rfl rfl ?_
    refine wlk rfl rfl ?_
    refine wla rfl rfl (q_pick_t (v := (.bool true)) rfl rfl rfl) ?_
    refine wl_nil ?_
    refine W_th ?_
    refine W_cond true rfl rfl (fun _ => ?_) (fun hb => by cases hb)
    refine W_seq ?_
    refine W_reg (by kernel_rfl) ?_
    refine wla rfl rfl (q_assign (v := (.pointer none)) rfl rfl) ?_
    refine wla rfl rfl (q_assign (v := (i64 1)) rfl rfl) ?_
    refine wl_nil ?_
    refine W_th ?_
    refine W_ret ?_
    refine th_r ?_
    obtain rfl := Option.some.inj H
    refine rt2 (.pointer none) (i64 1) rfl rfl rfl rfl rfl rfl ?_
    exact ⟨(.pointer none), rfl, e4, (Mx.nil _ _)⟩
  · replace H := (if_neg (ne_true_of_eq_false hb5)).symm.trans H
    refine wla rfl rfl (q_move (v := p0) rfl rfl) ?_
    refine wla rfl rfl (q_eqM rfl rfl rfl rfl (hp0.lift (Lift.ext e4 _))) ?_
    refine wla rfl rfl (q_pick_f (v := (.bool a0m.isNone)) rfl rfl rfl) ?_
    refine wlb rfl rfl (q_move (v := (.bool a0m.isNone)) rfl rfl) (fun hb6 => ?_) (fun hb6 => ?_)
    · replace H := (if_pos hb6).symm.trans H
      refine wlk rfl rfl ?_
      refine wlk rfl rfl ?_
      refine wla rfl rfl (q_pick_t (v := (.bool true)) rfl rfl rfl) ?_
      refine wla rfl rfl (q_move (v := (.bool true)) rfl rfl) ?_
      refine wlk rfl rfl ?_
      refine wlk rfl rfl ?_
      refine wlk rfl rfl ?_
      refine wla rfl rfl (q_pick_t (v := (.bool true)) rfl rfl rfl) ?_
      refine wl_nil ?_
      refine W_th ?_
      refine W_cond true rfl rfl (fun _ => ?_) (fun hb => by cases hb)
      refine W_seq ?_
      refine W_reg (by kernel_rfl) ?_
      refine wla rfl rfl (q_assign (v := (.pointer none)) rfl rfl) ?_
      refine wla rfl rfl (q_assign (v := (i64 1)) rfl rfl) ?_
      refine wl_nil ?_
      refine W_th ?_
      refine W_ret ?_
      refine th_r ?_
      obtain rfl := Option.some.inj H
      refine rt2 (.pointer none) (i64 1) rfl rfl rfl rfl rfl rfl ?_
      exact ⟨(.pointer none), rfl, e4, (Mx.nil _ _)⟩
    · replace H := (if_neg (ne_true_of_eq_false hb6)).symm.trans H
      refine wla rfl rfl (q_move (v := p2) rfl rfl) ?_
      refine wla rfl rfl (q_eqM rfl rfl rfl rfl (hp2.lift (Lift.ext e4 _))) ?_
      refine wla rfl rfl (q_pick_f (v := (.bool a2o.isNone)) rfl rfl rfl) ?_
      refine wlb rfl rfl (q_move (v := (.bool a2o.isNone)) rfl rfl) (fun hb7 => ?_) (fun hb7 => ?_)
      · replace H := (if_pos hb7).symm.trans H
        refine wlk rfl rfl ?_
        refine wlk rfl rfl ?_
        refine wlk rfl rfl ?_
        refine wla rfl rfl (q_pick_t (v := (.bool true)) rfl rfl rfl) ?_
        refine wl_nil ?_
        refine W_th ?_
        refine W_cond true rfl rfl (fun _ => ?_) (fun hb => by cases hb)
        refine W_seq ?_
        refine W_reg (by kernel_rfl) ?_
        refine wla rfl rfl (q_assign (v := (.pointer none)) rfl rfl) ?_
        refine wla rfl rfl (q_assign (v := (i64 1)) rfl rfl) ?_
        refine wl_nil ?_
        refine W_th ?_
        refine W_ret ?_
        refine th_r ?_
        obtain rfl := Option.some.inj H
        refine rt2 (.pointer none) (i64 1) rfl rfl rfl rfl rfl rfl ?_
        exact ⟨(.pointer none), rfl, e4, (Mx.nil _ _)⟩
      · replace H := (if_neg (ne_true_of_eq_false hb7)).symm.trans H
        refine wla rfl rfl (q_move (v := (i64 r1.2)) rfl rfl) ?_
        refine wla rfl rfl (q_move (v := (i64 r3.1)) rfl rfl) ?_
        refine wla rfl rfl (q_neI rfl rfl rfl) ?_
        refine wla rfl rfl (q_pick_f (v := (.bool ((!decide (r1.2 = r3.1))))) rfl rfl rfl) ?_
        refine wl_nil ?_
        refine W_th ?_
        refine W_cond _ rfl rfl (fun hb8 => ?_) (fun hb8 => ?_)
        · replace H := (if_neg (ndec_t hb8)).symm.trans H
          refine W_seq ?_
          refine W_reg (by kernel_rfl) ?_
          refine wla rfl rfl (q_assign (v := (.pointer none)) rfl rfl) ?_
          refine wla rfl rfl (q_assign (v := (i64 1)) rfl rfl) ?_
          refine wl_nil ?_
          refine W_th ?_
          refine W_ret ?_
          refine th_r ?_
          obtain rfl := Option.some.inj H
          refine rt2 (.pointer none) (i64 1) rfl rfl rfl rfl rfl rfl ?_
          exact ⟨(.pointer none), rfl, e4, (Mx.nil _ _)⟩
        · replace H := (if_pos (ndec_f hb8)).symm.trans H
          refine W_skip ?_
          refine W_th ?_
          refine W_seq ?_
          refine W_reg (by kernel_rfl) ?_
          refine wla rfl rfl (q_move (v := p0) rfl rfl) ?_
          obtain ⟨c9, hc9, H⟩ := Option.bind_eq_some_iff.1 H
          obtain ⟨g9, uv9, hv9, hB9, hR9⟩ := MxT.some hp0 hc9
          refine wla rfl rfl (q_nilP (g := g9) (m := 0) rfl (Eq.trans rfl hv9)) ?_
          refine wla rfl rfl (q_fldP rfl fieldAtM rfl) ?_
          refine wlq rfl rfl (q_loadB (u := uv9) rfl Try.isAgg46 rfl (hB9.ext e4) rfl) ?_
          refine wla rfl rfl (q_len rfl T46.sl rfl (hR9.lift (Lift.ext e4 _))) ?_
          refine wla rfl rfl (q_move (v := (i64 r3.2)) rfl rfl) ?_
          obtain ⟨r10, hr10, H⟩ := Option.bind_eq_some_iff.1 H
          refine wls rfl rfl (stp_call (vs := [(i64 ((c9.length : Int))), (i64 r3.2)]) Try.func72 rfl rfl rfl (ar2 rfl rfl) (matrix_blank_calls (c9.length : Int) r3.2  r10 _  hr10) ?_)
          rintro _ w10 ⟨v10, rfl, x10, i10_0⟩
          refine ⟨_, rfl, ?_⟩
          obtain ⟨g10, uv10, G10, rfl, nB10, hB10, nG10, hD10, hq10⟩ := i10_0
          have n11 := Nw.ext e4 nB10
          have n12 := Nw.ext e4 nG10
          have e13 := e4.trans x10
          refine wla rfl rfl (q_assign (v := (bp g10)) rfl rfl) ?_
          refine wl_nil ?_
          refine W_th ?_
          refine W_seq ?_
          refine W_seq ?_
          refine W_reg (by kernel_rfl) ?_
          refine wla rfl rfl (q_move (v := p0) rfl rfl) ?_
          refine wla rfl rfl (q_nilP (g := g9) (m := 0) rfl (Eq.trans rfl hv9)) ?_
          refine wla rfl rfl (q_fldP rfl fieldAtM rfl) ?_
          refine wlq rfl rfl (q_loadB (u := uv9) rfl Try.isAgg46 rfl (hB9.ext e13) rfl) ?_
          refine wla rfl rfl (q_len rfl T46.sl rfl (hR9.lift (Lift.ext e13 _))) ?_
          refine wla rfl rfl (q_move (v := (i64 0)) rfl rfl) ?_
          refine wl_nil ?_
          refine W_th ?_
          obtain ⟨x14, G14, H⟩ := Option.bind_eq_some_iff.1 H
          refine W_mid (fun f w => ∃ Gbbpg10_45 : Value, f 12 = (bp g10) ∧ f 92 = undef ∧ Ext w0 w ∧ OwD w 22 5 Gbbpg10_45 uv10 x14 ∧ Nw w0 Gbbpg10_45 ∧ Blk w g10 94 #[uv10] ∧ Nw w0 (bp g10) ∧ Nq Gbbpg10_45 (bp g10)) ?_ ?_
          · refine W_block ?_
            refine W_loop (fun s14 f w => ∃ Gbbpg10_43 : Value, f 1 = p1 ∧ f 2 = p2 ∧ f 12 = (bp g10) ∧ f 52 = uv9 ∧ f 53 = (i64 ((c9.length : Int))) ∧ f 54 = (i64 s14.2) ∧ f 92 = undef ∧ Ext w0 w ∧ OwD w 22 5 Gbbpg10_43 uv10 s14.1 ∧ Nw w0 Gbbpg10_43 ∧ Blk w g10 94 #[uv10] ∧ Nw w0 (bp g10) ∧ Nq Gbbpg10_43 (bp g10)) G14 ?_ ?_
            · exact ⟨G10, rfl, rfl, rfl, rfl, rfl, rfl, rfl, e13, hD10, n12, hB10, n11, hq10.symm⟩
            · rintro s14 _ _ w15 ⟨Gbbpg10_15, s1_15, s2_15, s12_15, s52_15, s53_15, s54_15, s92_15, hE15, o0_15, n0_15, o1_15, n1_15, q0_1_15⟩ H14 hr14
              refine W_seq ?_
              refine W_reg (by kernel_rfl) ?_
              refine wla rfl rfl (q_ltI rfl s54_15 s53_15) ?_
              refine wl_nil ?_
              refine W_th ?_
              refine W_seq ?_
              refine W_cond _ rfl rfl (fun hb16 => ?_) (fun hb16 => ?_)
              · replace H14 := (if_pos (of_decide_eq_true hb16)).symm.trans H14
                refine W_skip ?_
                refine W_th ?_
                refine W_seq ?_
                refine W_block ?_
                refine W_seq ?_
                refine W_reg (by kernel_rfl) ?_
                refine wla rfl rfl (q_move (v := (i64 s14.2)) rfl s54_15) ?_
                obtain ⟨c17, hc17, H14⟩ := Option.bind_eq_some_iff.1 H14
                refine wla rfl rfl (q_adr rfl T46 s52_15 s54_15 (hR9.lift (Lift.ext hE15 _)) hc17) ?_
                refine wlq_load rfl rfl rfl T46 rfl hR9 hc17 hE15 (fun v18 ha18 => ?_)
                refine wla rfl rfl (q_assign (v := (i64 s14.2)) rfl rfl) ?_
                refine wla rfl rfl (q_assign (v := v18) rfl rfl) ?_
                refine wl_nil ?_
                refine W_th ?_
                refine W_seq ?_
                refine W_reg (by kernel_rfl) ?_
                refine wla rfl rfl (q_move (v := v18) rfl rfl) ?_
                refine wla rfl rfl (q_len rfl T22.sl rfl (ha18.lift (Lift.ext hE15 _))) ?_
                refine wla rfl rfl (q_move (v := (i64 0)) rfl rfl) ?_
                refine wl_nil ?_
                refine W_th ?_
                obtain ⟨x19, G19, H14⟩ := Option.bind_eq_some_iff.1 H14
                refine W_mid (fun f w => ∃ Gbbpg10_42 : Value, f 1 = p1 ∧ f 2 = p2 ∧ f 12 = (bp g10) ∧ f 52 = uv9 ∧ f 53 = (i64 ((c9.length : Int))) ∧ f 54 = (i64 s14.2) ∧ f 92 = undef ∧ Ext w0 w ∧ OwD w 22 5 Gbbpg10_42 uv10 x19 ∧ Nw w0 Gbbpg10_42 ∧ Blk w g10 94 #[uv10] ∧ Nw w0 (bp g10) ∧ Nq Gbbpg10_42 (bp g10)) ?_ ?_
                · refine W_block ?_
                  refine W_loop (fun s19 f w => ∃ Gbbpg10_40 : Value, f 1 = p1 ∧ f 2 = p2 ∧ f 12 = (bp g10) ∧ f 13 = (i64 s14.2) ∧ f 52 = uv9 ∧ f 53 = (i64 ((c9.length : Int))) ∧ f 54 = (i64 s14.2) ∧ f 59 = v18 ∧ f 60 = (i64 ((c17.length : Int))) ∧ f 61 = (i64 s19.2) ∧ f 92 = undef ∧ Ext w0 w ∧ OwD w 22 5 Gbbpg10_40 uv10 s19.1 ∧ Nw w0 Gbbpg10_40 ∧ Blk w g10 94 #[uv10] ∧ Nw w0 (bp g10) ∧ Nq Gbbpg10_40 (bp g10)) G19 ?_ ?_
                  · exact ⟨Gbbpg10_15, s1_15, s2_15, s12_15, rfl, s52_15, s53_15, s54_15, rfl, rfl, rfl, s92_15, hE15, o0_15, n0_15, o1_15, n1_15, q0_1_15⟩
                  · rintro s19 _ _ w20 ⟨Gbbpg10_20, s1_20, s2_20, s12_20, s13_20, s52_20, s53_20, s54_20, s59_20, s60_20, s61_20, s92_20, hE20, o0_20, n0_20, o1_20, n1_20, q0_1_20⟩ H19 hr19
                    refine W_seq ?_
                    refine W_reg (by kernel_rfl) ?_
                    refine wla rfl rfl (q_ltI rfl s61_20 s60_20) ?_
                    refine wl_nil ?_
                    refine W_th ?_
                    refine W_seq ?_
                    refine W_cond _ rfl rfl (fun hb21 => ?_) (fun hb21 => ?_)
                    · replace H19 := (if_pos (of_decide_eq_true hb21)).symm.trans H19
                      refine W_skip ?_
                      refine W_th ?_
                      refine W_seq ?_
                      refine W_block ?_
                      refine W_seq ?_
                      refine W_reg (by kernel_rfl) ?_
                      refine wla rfl rfl (q_move (v := (i64 s19.2)) rfl s61_20) ?_
                      obtain ⟨c22, hc22, H19⟩ := Option.bind_eq_some_iff.1 H19
                      refine wla rfl rfl (q_adr rfl T22 s59_20 s61_20 (ha18.lift (Lift.ext hE20 _)) hc22) ?_
                      refine wlq rfl rfl (q_loadS rfl T22 rfl (ha18.lift (Lift.ext hE20 _)) hc22) ?_
                      refine wla rfl rfl (q_assign (v := (i64 s19.2)) rfl rfl) ?_
                      refine wla rfl rfl (q_assign (v := (u8 c22)) rfl rfl) ?_
                      refine wl_nil ?_
                      refine W_th ?_
                      refine W_draw [3, 9, 12, 17, 20] [(0, 0), (1, 0), (2, 0), (3, 1), (4, 0), (5, 0), (6, 0), (7, 0), (8, 0), (9, 1), (10, 0), (11, 0), (12, 1), (13, 0), (14, 0), (15, 0), (16, 0), (17, 1), (18, 0), (19, 0), (20, 1), (21, 2), (22, 0), (23, 2)] mixed (by kernel_rfl) (by kernel_rfl) (by kernel_rfl) (by kernel_rfl) ?_
                      have x23 := Ext.drew w20
                      replace o0_20 := o0_20.ext x23
                      replace o1_20 := o1_20.ext x23
                      have e24 := hE20.trans x23
                      refine wsa rfl rfl rfl (q_move (v := (bp g10)) rfl s12_20) ?_
                      refine wsa rfl rfl rfl (q_nilP rfl rfl) ?_
                      refine wsa rfl rfl rfl (q_fldP rfl fieldAtM rfl) ?_
                      refine wsq rfl rfl rfl (q_loadB (u := uv10) rfl Try.isAgg46 rfl o1_20 rfl) ?_
                      refine wsa rfl rfl rfl (q_move (v := (i64 s14.2)) rfl s13_20) ?_
                      refine wsa rfl rfl rfl (q_move (v := p1) rfl s1_20) ?_
                      refine wsa rfl rfl rfl (q_move (v := (bp g10)) rfl s12_20) ?_
                      refine wsa rfl rfl rfl (q_nilP rfl rfl) ?_
                      refine wsa rfl rfl rfl (q_fldP rfl fieldAtM rfl) ?_
                      refine wsq rfl rfl rfl (q_loadB (u := uv10) rfl Try.isAgg46 rfl o1_20 rfl) ?_
                      refine wsa rfl rfl rfl (q_move (v := (i64 s14.2)) rfl s13_20) ?_
                      obtain ⟨c25, hc25, H19⟩ := Option.bind_eq_some_iff.1 H19
                      refine wsa rfl rfl rfl (q_adr rfl T46 rfl rfl o0_20.rd hc25) ?_
                      refine wsq_loadD rfl rfl rfl rfl T46 rfl o0_20 hc25 (fun v26 hD26 => ?_)
                      refine wsa rfl rfl rfl (q_move (v := (u8 c22)) rfl rfl) ?_
                      refine wsa rfl rfl rfl (q_move (v := p2) rfl s2_20) ?_
                      obtain ⟨c27, hc27, H19⟩ := Option.bind_eq_some_iff.1 H19
                      obtain ⟨g27, uv27, hv27, hB27, hR27⟩ := MxT.some hp2 hc27
                      refine wsa rfl rfl rfl (q_nilP (g := g27) (m := 0) rfl (Eq.trans rfl hv27)) ?_
                      refine wsa rfl rfl rfl (q_fldP rfl fieldAtM rfl) ?_
                      refine wsq rfl rfl rfl (q_loadB (u := uv27) rfl Try.isAgg46 rfl (hB27.ext e24) rfl) ?_
                      refine wsa rfl rfl rfl (q_move (v := (i64 s19.2)) rfl rfl) ?_
                      obtain ⟨c28, hc28, H19⟩ := Option.bind_eq_some_iff.1 H19
                      refine wsa rfl rfl rfl (q_adr rfl T46 rfl rfl (hR27.lift (Lift.ext e24 _)) hc28) ?_
                      refine wsq_load rfl rfl rfl rfl T46 rfl hR27 hc28 e24 (fun v29 ha29 => ?_)
                      obtain ⟨r30, hr30, H19⟩ := Option.bind_eq_some_iff.1 H19
                      refine wss rfl rfl rfl (stp_call (vs := [p1, v26, (u8 c22), v29]) Try.func64 rfl rfl rfl (ar4 rfl rfl rfl rfl) (field_Sum_calls a1f c25 c22 c28 p1 v26 v29 r30 _ (hp1.lift (Lift.ext e24 _)) (OwD.rowrd o0_20 hD26 hc25) (ha29.lift (Lift.ext e24 _)) hr30) ?_)
                      rintro _ w30 ⟨v30, rfl, x30, n30_0, o30_0⟩
                      refine ⟨_, rfl, x30, ?_⟩
                      have o30 : OwK (Sc u8) w30 (v30 :: (Gbbpg10_20 :: (bp g10) :: L0)) 5 v30 r30 := OwK.scal o30_0 _
                      have q31 : Nq Gbbpg10_20 v30 := o0_20.nq n30_0
                      have q32 : Nq (bp g10) v30 := o1_20.nq n30_0
                      replace o0_20 := o0_20.ext x30
                      replace o1_20 := o1_20.ext x30
                      have n34 := Nw.ext e24 n30_0
                      have e33 := e24.trans x30
                      refine wsa rfl rfl rfl (q_adr rfl T46 rfl rfl o0_20.rd hc25) ?_
                      refine wsn rfl (by kernel_rfl) rfl rfl (stp_storeRow (x := v30) [v30] ((bp g10) :: L0) rfl T46 rfl rfl o0_20 hc25 o30 q31.symm ?_)
                      intro G36 w35 o35 g35 hG35 l35
                      replace o30 := o30.other (Sc.stab _) g35 q31.symm l35
                      replace o1_20 := o1_20.other g35 q0_1_20.symm
                      have e37 := e33.grown g35 n0_20
                      have q38 : Nq (bp g10) G36 := OwD.relist hG35 q0_1_20.symm q32
                      have n39 : Nw w0 G36 := fun k hk => (hG35 k hk).elim (n0_20 k) (n34 k)
                      refine ws_nil ?_
                      refine bk_n ?_
                      refine W_th ?_
                      refine W_reg (by kernel_rfl) ?_
                      refine wla rfl rfl (q_addI rfl s61_20 rfl) ?_
                      refine wla rfl rfl (q_move (v := (i64 ((wI (s19.2 + 1))))) rfl rfl) ?_
                      refine wl_nil ?_
                      obtain rfl := Option.some.inj H19
                      exact ⟨_, rfl, G36, s1_20, s2_20, s12_20, s13_20, s52_20, s53_20, s54_20, s59_20, s60_20, rfl, s92_20, e37, o35, n39, o1_20, n1_20, q38.symm⟩
                    · replace H19 := (if_neg (of_decide_eq_false hb21)).symm.trans H19
                      refine W_exit ?_
                      refine th_x ?_
                      obtain rfl := Option.some.inj H19
                      obtain rfl := hr19 _ rfl
                      refine th_x ?_
                      refine bk_x ?_
                      exact ⟨Gbbpg10_20, s1_20, s2_20, s12_20, s52_20, s53_20, s54_20, s92_20, hE20, o0_20, n0_20, o1_20, n1_20, q0_1_20⟩
                · rintro _ w41 ⟨Gbbpg10_41, s1_41, s2_41, s12_41, s52_41, s53_41, s54_41, s92_41, hE41, o0_41, n0_41, o1_41, n1_41, q0_1_41⟩
                  refine bk_n ?_
                  refine W_th ?_
                  refine W_reg (by kernel_rfl) ?_
                  refine wla rfl rfl (q_addI rfl s54_41 rfl) ?_
                  refine wla rfl rfl (q_move (v := (i64 ((wI (s14.2 + 1))))) rfl rfl) ?_
                  refine wl_nil ?_
                  obtain rfl := Option.some.inj H14
                  exact ⟨_, rfl, Gbbpg10_41, s1_41, s2_41, s12_41, s52_41, s53_41, rfl, s92_41, hE41, o0_41, n0_41, o1_41, n1_41, q0_1_41⟩
              · replace H14 := (if_neg (of_decide_eq_false hb16)).symm.trans H14
                refine W_exit ?_
                refine th_x ?_
                obtain rfl := Option.some.inj H14
                obtain rfl := hr14 _ rfl
                refine th_x ?_
                refine bk_x ?_
                exact ⟨Gbbpg10_15, s12_15, s92_15, hE15, o0_15, n0_15, o1_15, n1_15, q0_1_15⟩
          · rintro _ w44 ⟨Gbbpg10_44, s12_44, s92_44, hE44, o0_44, n0_44, o1_44, n1_44, q0_1_44⟩
            refine W_th ?_
            refine W_seq ?_
            refine W_reg (by kernel_rfl) ?_
            refine wla rfl rfl (q_move (v := (bp g10)) rfl s12_44) ?_
            refine wla rfl rfl (q_assign (v := (bp g10)) rfl rfl) ?_
            refine wla rfl rfl (q_assign (v := (i64 0)) rfl rfl) ?_
            refine wl_nil ?_
            refine W_th ?_
            refine W_ret ?_
            obtain rfl := Option.some.inj H
            refine rt2 (bp g10) (i64 0) rfl rfl rfl rfl rfl s92_44 ?_
            exact ⟨(bp g10), rfl, hE44, (Mx.mk o1_44 (hL0 _ (n1_44 _ (hs_bp' _))) (o0_44.rw L0 (fun k hk => hL0 k (n0_44 k hk))))⟩

/-! (*largesse/matrix.Matrix).Pick$1 -/
noncomputable def matrix_Pick_1 (a0i : Int) (b0 : Option (List (List UInt8))) : Option Bool :=
(if a0i < 0 then some true
else
((b0).bind fun c2 => some (decide ((c2.length : Int) ≤ a0i))))
set_option maxRecDepth 100000 in
set_option maxHeartbeats 8000000 in
theorem matrix_Pick_1_calls (a0i : Int) (b0 : Option (List (List UInt8))) (gc0 : Nat) (cv0 : Value) (r : Bool) (w0 : World) (hcB0 : Blk w0 gc0 49 #[cv0]) (hcv0 : Mx w0 [] cv0 b0) (H : matrix_Pick_1 a0i b0 = some r) :
    Calls Try.prog 74 [(i64 a0i), (bp gc0)].toArray w0 (fun e w' => e = .returned (.bool r) ∧ Ext w0 w') := by
  have hE : Ext w0 w0 := Ext.refl w0
  unfold matrix_Pick_1 at H
  refine calls_W (n := 15) Try.func74 rfl rfl rfl ?_
  refine W_seq ?_
  refine W_reg (by kernel_rfl) ?_
  refine wla rfl rfl (q_assign (v := (.bool false)) rfl rfl) ?_
  refine wl_nil ?_
  refine W_th ?_
  refine W_seq ?_
  refine W_reg (by kernel_rfl) ?_
  refine wla rfl rfl (q_move (v := (i64 a0i)) rfl rfl) ?_
  refine wla rfl rfl (q_ltI rfl rfl rfl) ?_
  refine wlb rfl rfl (q_move (v := (.bool ((decide (a0i < 0))))) rfl rfl) (fun hb1 => ?_) (fun hb1 => ?_)
  · replace H := (if_pos (of_decide_eq_true hb1)).symm.trans H
    refine wlk rfl rfl ?_
    refine wlk rfl rfl ?_
    refine wlk rfl rfl ?_
    refine wlk rfl rfl ?_
    refine wlk rfl rfl ?_
    refine wlk rfl rfl ?_
    refine wlk rfl rfl ?_
    refine wla rfl rfl (q_pick_t (v := (.bool true)) rfl rfl rfl) ?_
    refine wla rfl rfl (q_assign (v := (.bool true)) rfl rfl) ?_
    refine wl_nil ?_
    refine W_th ?_
    refine W_ret ?_
    obtain rfl := Option.some.inj H
    refine rt1 (.bool true) rfl rfl rfl rfl ?_
    exact ⟨rfl, hE⟩
  · replace H := (if_neg (of_decide_eq_false hb1)).symm.trans H
    refine wla rfl rfl (q_move (v := (i64 a0i)) rfl rfl) ?_
    refine wlq rfl rfl (q_loadB (u := cv0) rfl Try.isAgg49 rfl (hcB0.ext hE) rfl) ?_
    obtain ⟨c2, hc2, H⟩ := Option.bind_eq_some_iff.1 H
    obtain ⟨g2, uv2, hv2, hB2, hR2⟩ := MxT.some hcv0 hc2
    refine wla rfl rfl (q_nilP (g := g2) (m := 0) rfl (Eq.trans rfl hv2)) ?_
    refine wla rfl rfl (q_fldP rfl fieldAtM rfl) ?_
    refine wlq rfl rfl (q_loadB (u := uv2) rfl Try.isAgg46 rfl (hB2.ext hE) rfl) ?_
    refine wla rfl rfl (q_len rfl T46.sl rfl (hR2.lift (Lift.ext hE _))) ?_
    refine wla rfl rfl (q_geI rfl rfl rfl) ?_
    refine wla rfl rfl (q_pick_f (v := (.bool ((decide ((c2.length : Int) ≤ a0i))))) rfl rfl rfl) ?_
    refine wla rfl rfl (q_assign (v := (.bool ((decide ((c2.length : Int) ≤ a0i))))) rfl rfl) ?_
    refine wl_nil ?_
    refine W_th ?_
    refine W_ret ?_
    obtain rfl := Option.some.inj H
    refine rt1 (.bool ((decide ((c2.length : Int) ≤ a0i)))) rfl rfl rfl rfl ?_
    exact ⟨rfl, hE⟩

/-! (*largesse/matrix.Matrix).Pick -/
noncomputable def matrix_Pick (a0m : Option (List (List UInt8))) (a1rows : List Int) : Option (Option (List (List UInt8)) × Int) :=
(if a0m.isNone = true then some ((none : Option (List (List UInt8))), 1)
else
((matrix_size (a1rows.length : Int)).bind fun r5 =>
(if (!r5) = true then some ((none : Option (List (List UInt8))), 2)
else
((lim a1rows.length).bind fun lim8 =>
((anyO (fun y8 => matrix_Pick_1 y8 a0m) a1rows).bind fun r8 =>
(if r8 = true then some ((none : Option (List (List UInt8))), 2)
else
((iterC (fun s11 : List (List UInt8) × Int =>
(if s11.2 < (a1rows.length : Int) then
((idx a1rows s11.2).bind fun c14 =>
((a0m).bind fun c15 =>
((idx c15 c14).bind fun c16 =>
((appL s11.1 (([c16] : List (List UInt8)))).bind fun c20 => some (.inl (c20, (wI (s11.2 + 1))))))))
else some (.inr s11.1))) (([] : List (List UInt8)), 0)).bind fun x11 =>
((matrix_New x11).bind fun r26 => some (r26.1, r26.2)))))))))
set_option maxRecDepth 100000 in
set_option maxHeartbeats 8000000 in
theorem matrix_Pick_calls (a0m : Option (List (List UInt8))) (a1rows : List Int) (p0 : Value) (p1 : Value) (r : Option (List (List UInt8)) × Int) (w0 : World) (hp0 : Mx w0 [] p0 a0m) (hp1 : In w0 [] p1 a1rows) (H : matrix_Pick a0m a1rows = some r) :
    Calls Try.prog 40 [p0, p1].toArray w0 (fun e w' => ∃ u0 : Value, e = .returned (.tuple #[u0, (i64 r.2)]) ∧ Ext w0 w' ∧ Mx w' [] u0 r.1) := by
  have hE : Ext w0 w0 := Ext.refl w0
  unfold matrix_Pick at H
  refine calls_W (n := 41) Try.func40 rfl rfl rfl ?_
  refine W_seq ?_
  refine W_reg (by kernel_rfl) ?_
  refine wls rfl rfl (stp_boxL (v := p0) (cs := #[p0]) [] rfl rfl (MxT.cells (hp0.lift (Lift.ext hE _))) ?_)
  intro g1 w1 o1 n1 g1r l1
  have x1 := grown_ext g1r
  have n3 := Nw.ext hE n1
  have e2 := hE.trans x1
  refine wla rfl rfl (q_assign (v := (.pointer none)) rfl rfl) ?_
  refine wla rfl rfl (q_assign (v := (i64 0)) rfl rfl) ?_
  refine wl_nil ?_
  refine W_th ?_
  refine W_seq ?_
  refine W_seq ?_
  refine W_reg (by kernel_rfl) ?_
  refine wlq rfl rfl (q_loadB (u := p0) rfl Try.isAgg49 rfl o1 rfl) ?_
  refine wla rfl rfl (q_eqM rfl rfl rfl rfl (hp0.lift (Lift.ext e2 _))) ?_
  refine wl_nil ?_
  refine W_th ?_
  refine W_cond _ rfl rfl (fun hb4 => ?_) (fun hb4 => ?_)
  · replace H := (if_pos hb4).symm.trans H
    refine W_seq ?_
    refine W_reg (by kernel_rfl) ?_
    refine wla rfl rfl (q_assign (v := (.pointer none)) rfl rfl) ?_
    refine wla rfl rfl (q_assign (v := (i64 1)) rfl rfl) ?_
    refine wl_nil ?_
    refine W_th ?_
    refine W_ret ?_
    refine th_r ?_
    obtain rfl := Option.some.inj H
    refine rt2 (.pointer none) (i64 1) rfl rfl rfl rfl rfl rfl ?_
    exact ⟨(.pointer none), rfl, e2, (Mx.nil _ _)⟩
  · replace H := (if_neg (ne_true_of_eq_false hb4)).symm.trans H
    refine W_skip ?_
    refine W_th ?_
    refine W_seq ?_
    refine W_seq ?_
    refine W_reg (by kernel_rfl) ?_
    refine wla rfl rfl (q_move (v := p1) rfl rfl) ?_
    refine wla rfl rfl (q_len rfl T47.sl rfl (hp1.lift (Lift.ext e2 _))) ?_
    obtain ⟨r5, hr5, H⟩ := Option.bind_eq_some_iff.1 H
    refine wls rfl rfl (stp_call (vs := [(i64 ((a1rows.length : Int)))]) Try.func71 rfl rfl rfl (ar1 rfl) (matrix_size_calls (a1rows.length : Int)  r5 _  hr5) ?_)
    rintro _ w5 ⟨rfl, x5⟩
    refine ⟨_, rfl, ?_⟩
    replace o1 := o1.ext x5
    have e6 := e2.trans x5
    refine wla rfl rfl (q_not rfl rfl) ?_
    refine wlb rfl rfl (q_move (v := (.bool ((!r5)))) rfl rfl) (fun hb7 => ?_) (fun hb7 => ?_)
    · replace H := (if_pos hb7).symm.trans H
      refine wlk rfl rfl ?_
      refine wlk rfl rfl ?_
      refine wlk rfl rfl ?_
      refine wla rfl rfl (q_pick_t (v := (.bool true)) rfl rfl rfl) ?_
      refine wl_nil ?_
      refine W_th ?_
      refine W_cond true rfl rfl (fun _ => ?_) (fun hb => by cases hb)
      refine W_seq ?_
      refine W_reg (by kernel_rfl) ?_
      refine wla rfl rfl (q_assign (v := (.pointer none)) rfl rfl) ?_
      refine wla rfl rfl (q_assign (v := (i64 2)) rfl rfl) ?_
      refine wl_nil ?_
      refine W_th ?_
      refine W_ret ?_
      refine th_r ?_
      obtain rfl := Option.some.inj H
      refine rt2 (.pointer none) (i64 2) rfl rfl rfl rfl rfl rfl ?_
      exact ⟨(.pointer none), rfl, e6, (Mx.nil _ _)⟩
    · replace H := (if_neg (ne_true_of_eq_false hb7)).symm.trans H
      refine wla rfl rfl (q_move (v := p1) rfl rfl) ?_
      refine wla rfl rfl (q_mkfuncN (vs := [(bp g1)]) rfl (ar1 rfl)) ?_
      obtain ⟨lim8, hl8, H⟩ := Option.bind_eq_some_iff.1 H
      obtain ⟨r8, hr8, H⟩ := Option.bind_eq_some_iff.1 H
      refine wls rfl rfl (stp_call (vs := [p1, (.func (.func 74) #[] [(bp g1)].toArray)]) Try.func73 rfl rfl rfl (ar2 rfl rfl) (ContainsFunc_ints_calls p1 a1rows 74 _ Try.func74 rfl rfl [(bp g1)] (fun y8 => matrix_Pick_1 y8 a0m) r8 _ (hp1.lift (Lift.ext e6 _)) (lim_lt hl8) hr8 (fun y8 _ b w' xE hb => matrix_Pick_1_calls y8 a0m g1 p0 b w' (o1.ext xE) ((hp0.lift (Lift.ext e6 _)).lift (Lift.ext xE _)) hb)) ?_)
      rintro _ w8 ⟨rfl, x8⟩
      refine ⟨_, rfl, ?_⟩
      replace o1 := o1.ext x8
      have e9 := e6.trans x8
      refine wla rfl rfl (q_pick_f (v := (.bool r8)) rfl rfl rfl) ?_
      refine wl_nil ?_
      refine W_th ?_
      refine W_cond _ rfl rfl (fun hb10 => ?_) (fun hb10 => ?_)
      · replace H := (if_pos hb10).symm.trans H
        refine W_seq ?_
        refine W_reg (by kernel_rfl) ?_
        refine wla rfl rfl (q_assign (v := (.pointer none)) rfl rfl) ?_
        refine wla rfl rfl (q_assign (v := (i64 2)) rfl rfl) ?_
        refine wl_nil ?_
        refine W_th ?_
        refine W_ret ?_
        refine th_r ?_
        obtain rfl := Option.some.inj H
        refine rt2 (.pointer none) (i64 2) rfl rfl rfl rfl rfl rfl ?_
        exact ⟨(.pointer none), rfl, e9, (Mx.nil _ _)⟩
      · replace H := (if_neg (ne_true_of_eq_false hb10)).symm.trans H
        refine W_skip ?_
        refine W_th ?_
        refine W_seq ?_
        refine W_reg (by kernel_rfl) ?_
        refine wla rfl rfl (q_assign (v := (.slice none 0 0)) rfl rfl) ?_
        refine wl_nil ?_
        refine W_th ?_
        refine W_seq ?_
        refine W_seq ?_
        refine W_reg (by kernel_rfl) ?_
        refine wla rfl rfl (q_move (v := p1) rfl rfl) ?_
        refine wla rfl rfl (q_len rfl T47.sl rfl (hp1.lift (Lift.ext e9 _))) ?_
        refine wla rfl rfl (q_move (v := (i64 0)) rfl rfl) ?_
        refine wl_nil ?_
        refine W_th ?_
        obtain ⟨x11, G11, H⟩ := Option.bind_eq_some_iff.1 H
        refine W_mid (fun f w => ∃ v6_28 : Value, f 6 = v6_28 ∧ f 41 = undef ∧ Ext w0 w ∧ OwK By w [v6_28] 22 v6_28 x11 ∧ Nw w0 v6_28) ?_ ?_
        · refine W_block ?_
          refine W_loop (fun s11 f w => ∃ v6_24 : Value, f 2 = (bp g1) ∧ f 6 = v6_24 ∧ f 20 = p1 ∧ f 21 = (i64 ((a1rows.length : Int))) ∧ f 22 = (i64 s11.2) ∧ f 41 = undef ∧ Ext w0 w ∧ OwK By w [v6_24, (bp g1)] 22 v6_24 s11.1 ∧ Nw w0 v6_24 ∧ Blk w g1 49 #[p0] ∧ Nw w0 (bp g1) ∧ Nq v6_24 (bp g1)) G11 ?_ ?_
          · exact ⟨(.slice none 0 0), rfl, rfl, rfl, rfl, rfl, rfl, e9, (OwK.nil _ _ _ _), (Nw.nil _), o1, n3, (Nq.nil _)⟩
          · rintro s11 _ _ w12 ⟨v6_12, s2_12, s6_12, s20_12, s21_12, s22_12, s41_12, hE12, o0_12, n0_12, o1_12, n1_12, q0_1_12⟩ H11 hr11
            refine W_seq ?_
            refine W_reg (by kernel_rfl) ?_
            refine wla rfl rfl (q_ltI rfl s22_12 s21_12) ?_
            refine wl_nil ?_
            refine W_th ?_
            refine W_seq ?_
            refine W_cond _ rfl rfl (fun hb13 => ?_) (fun hb13 => ?_)
            · replace H11 := (if_pos (of_decide_eq_true hb13)).symm.trans H11
              refine W_skip ?_
              refine W_th ?_
              refine W_seq ?_
              refine W_block ?_
              refine W_seq ?_
              refine W_reg (by kernel_rfl) ?_
              obtain ⟨c14, hc14, H11⟩ := Option.bind_eq_some_iff.1 H11
              refine wla rfl rfl (q_adr rfl T47 s20_12 s22_12 (hp1.lift (Lift.ext hE12 _)) hc14) ?_
              refine wlq rfl rfl (q_loadS rfl T47 rfl (hp1.lift (Lift.ext hE12 _)) hc14) ?_
              refine wla rfl rfl (q_assign (v := (i64 c14)) rfl rfl) ?_
              refine wl_nil ?_
              refine W_th ?_
              refine W_reg (by kernel_rfl) ?_
              refine wla rfl rfl (q_move (v := v6_12) rfl s6_12) ?_
              refine wlq rfl rfl (q_loadB (u := p0) rfl Try.isAgg49 s2_12 o1_12 rfl) ?_
              obtain ⟨c15, hc15, H11⟩ := Option.bind_eq_some_iff.1 H11
              obtain ⟨g15, uv15, hv15, hB15, hR15⟩ := MxT.some hp0 hc15
              refine wla rfl rfl (q_nilP (g := g15) (m := 0) rfl (Eq.trans rfl hv15)) ?_
              refine wla rfl rfl (q_fldP rfl fieldAtM rfl) ?_
              refine wlq rfl rfl (q_loadB (u := uv15) rfl Try.isAgg46 rfl (hB15.ext hE12) rfl) ?_
              refine wla rfl rfl (q_move (v := (i64 c14)) rfl rfl) ?_
              obtain ⟨c16, hc16, H11⟩ := Option.bind_eq_some_iff.1 H11
              refine wla rfl rfl (q_adr rfl T46 rfl rfl (hR15.lift (Lift.ext hE12 _)) hc16) ?_
              refine wlq_load rfl rfl rfl T46 rfl hR15 hc16 hE12 (fun v17 ha17 => ?_)
              refine wls rfl rfl (stp_lit (L := [v6_12, (bp g1)]) (R := By) [v17] ([c16] : List (List UInt8)) rfl T46 rfl (by exact ⟨rfl, rfl, trivial⟩) rfl (LitR.cells (LitR.cons (ha17.lift (Lift.arg hE12 (nv_cons n0_12 (nv_cons n1_12 nv_nil)))) LitR.nil) (fun u x h => cells_sl u x h)) rfl (LitR.all (SlK.stab (Sc.stab _)) (LitR.cons (ha17.lift (Lift.arg hE12 (nv_cons n0_12 (nv_cons n1_12 nv_nil)))) LitR.nil)) ?_)
              intro v18 w18 o18 n18 g18 l18
              have x18 := grown_ext g18
              have i18 : Rw w18 [v6_12, (bp g1)] v18 (([c16] : List (List UInt8))) := OwK.slk (SlK.stab (Sc.stab _)) _ o18 (fun k hk => (Old.cons (Old.cons (Old.nil _) o1_12.ltB) o0_12.lt) k (n18 k hk)) (fun _ h => h.2)
              replace o0_12 := o0_12.extL (SlK.stab (Sc.stab _)) x18 (Lift.ext x18 _)
              replace o1_12 := o1_12.ext x18
              have e19 := hE12.trans x18
              obtain ⟨c20, hc20, H11⟩ := Option.bind_eq_some_iff.1 H11
              refine wls rfl rfl (stp_append (R := By) (v := v6_12) (u := v18) (SlK.stab (Sc.stab _)) [] [(bp g1)] rfl T46 rfl rfl o0_12 i18 (fun _ _ h => h) hc20 oc_sl ?_)
              intro v20 w20 o20 g20 nx20 l20
              replace i18 := i18.lift l20
              have q21 : Nq (bp g1) v20 := o1_12.nxt q0_1_12.symm nx20
              replace o1_12 := o1_12.other g20 q0_1_12.symm
              have e22 := e19.grown g20 n0_12
              have n23 := Nw.nxt e19 n0_12 nx20
              refine wla rfl rfl (q_assign (v := v20) rfl rfl) ?_
              refine wl_nil ?_
              refine bk_n ?_
              refine W_th ?_
              refine W_reg (by kernel_rfl) ?_
              refine wla rfl rfl (q_addI rfl s22_12 rfl) ?_
              refine wla rfl rfl (q_move (v := (i64 ((wI (s11.2 + 1))))) rfl rfl) ?_
              refine wl_nil ?_
              obtain rfl := Option.some.inj H11
              exact ⟨_, rfl, v20, s2_12, rfl, s20_12, s21_12, rfl, s41_12, e22, o20, n23, o1_12, n1_12, q21.symm⟩
            · replace H11 := (if_neg (of_decide_eq_false hb13)).symm.trans H11
              refine W_exit ?_
              refine th_x ?_
              obtain rfl := Option.some.inj H11
              obtain rfl := hr11 _ rfl
              refine th_x ?_
              refine bk_x ?_
              exact ⟨v6_12, s6_12, s41_12, hE12, (o0_12.weak (SlK.stab (Sc.stab _)) (fun _ h => ⟨h.1, trivial⟩)), n0_12⟩
        · rintro _ w25 ⟨v6_25, s6_25, s41_25, hE25, o0_25, n0_25⟩
          refine W_th ?_
          refine W_seq ?_
          refine W_reg (by kernel_rfl) ?_
          refine wla rfl rfl (q_move (v := v6_25) rfl s6_25) ?_
          obtain ⟨r26, hr26, H⟩ := Option.bind_eq_some_iff.1 H
          refine wls rfl rfl (stp_call (vs := [v6_25]) Try.func38 rfl rfl rfl (ar1 rfl) (matrix_New_calls x11 v6_25 r26 _ [v6_25] (Old.cons (Old.nil _) o0_25.lt) (o0_25.rd (SlK.stab (Sc.stab _))) hr26) ?_)
          rintro _ w26 ⟨v26_0, rfl, x26, i26_0⟩
          refine ⟨_, rfl, ?_⟩
          replace o0_25 := o0_25.extL (SlK.stab (Sc.stab _)) x26 (Lift.ext x26 _)
          have e27 := hE25.trans x26
          refine wla rfl rfl (q_extract rfl rfl rfl) ?_
          refine wla rfl rfl (q_extract rfl rfl rfl) ?_
          refine wla rfl rfl (q_assign (v := v26_0) rfl rfl) ?_
          refine wla rfl rfl (q_assign (v := (i64 r26.2)) rfl rfl) ?_
          refine wl_nil ?_
          refine W_th ?_
          refine W_ret ?_
          obtain rfl := Option.some.inj H
          refine rt2 v26_0 (i64 r26.2) rfl rfl rfl rfl rfl s41_25 ?_
          exact ⟨v26_0, rfl, e27, (i26_0.lift (Lift.sub (fun _ h => trivial)))⟩

end Gk

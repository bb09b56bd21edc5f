/- Printed by gen.py: for each Go function a pure function, and that the Go code comes to it. No condition beside the equation that says what the pure function gives. -/
import Derived.Test.YteinpdignnpbgaaF3
import Derived.Test.YteinpdignnpbgaaGm
set_option linter.unusedVariables false
set_option linter.unusedSimpArgs false
namespace Gk
open Go Go.Proofs

/-! largesse/poly.DivMod -/
noncomputable def poly_DivMod (a0f : Bool) (a1p : List UInt8) (a2q : List UInt8) : Option (List UInt8 × List UInt8 × Int) :=
((poly_Trim a2q).bind fun r8 =>
(if (!a0f) = true then some (([] : List UInt8), ([] : List UInt8), 1)
else
(if (r8.length : Int) = 0 then some (([] : List UInt8), ([] : List UInt8), 7)
else
((((idx r8 ((wI ((r8.length : Int) - 1)))).bind fun c17 =>
((field_Inv a0f c17).bind fun r18 => some r18.1))).bind fun x14 =>
((slices_Clone_sbytebyte a1p).bind fun r28 =>
((makeL ((if 0 < (wI ((wI ((a1p.length : Int) - (r8.length : Int))) + 1)) then (wI ((wI ((a1p.length : Int) - (r8.length : Int))) + 1)) else 0)) (0 : UInt8)).bind fun c43 =>
((lim c43.length).bind fun lim72 =>
((rangeL (fun (s72 : List UInt8 × List UInt8) (y72 : Int) =>
((idx s72.1 ((wI ((wI (y72 + (r8.length : Int))) - 1)))).bind fun c78 =>
((field_Mul a0f c78 x14).bind fun r79 =>
((idx s72.2 y72).bind fun c82 =>
((subL s72.1 y72 ((s72.1.length : Int))).bind fun c89 =>
((subL s72.1 y72 ((wI (y72 + (r8.length : Int))))).bind fun c90 =>
((field_Sum a0f c90 r79 r8).bind fun r91 => some ((copyL s72.1 y72 r91), (s72.2.set (y72 : Int).toNat r79))))))))) (revN c43.length) (r28, c43)).bind fun x72 =>
((poly_Trim x72.2).bind fun r101 =>
((poly_Trim x72.1).bind fun r113 => some (r101, r113, 0)))))))))))
set_option maxRecDepth 100000 in
set_option maxHeartbeats 8000000 in
theorem poly_DivMod_calls (a0f : Bool) (a1p : List UInt8) (a2q : List UInt8) (p0 : Value) (p1 : Value) (p2 : Value) (r : List UInt8 × List UInt8 × Int) (w0 : World) (hp0 : Fd w0 [] p0 a0f) (hp1 : By w0 [] p1 a1p) (hp2 : By w0 [] p2 a2q) (H : poly_DivMod a0f a1p a2q = some r) :
    Calls Try.prog 29 [p0, p1, p2].toArray w0 (fun e w' => ∃ u0 u1 : Value, e = .returned (.tuple #[u0, u1, (i64 r.2.2)]) ∧ Ext w0 w' ∧ Nw w0 u0 ∧ OwK (Sc u8) w' [] 5 u0 r.1 ∧ Nw w0 u1 ∧ OwK (Sc u8) w' [] 5 u1 r.2.1) := by
  have hE : Ext w0 w0 := Ext.refl w0
  unfold poly_DivMod at H
  refine calls_W (n := 81) Try.func29 rfl rfl rfl ?_
  refine W_seq ?_
  refine W_reg (by kernel_rfl) ?_
  refine wls rfl rfl (stp_boxL (v := p0) (cs := #[p0]) [] rfl rfl (cells_fd (hp0.lift (Lift.ext hE _))) ?_)
  intro g1 w1 o1 n1 g1r l1
  have x1 := grown_ext g1r
  have n3 := Nw.ext hE n1
  have e2 := hE.trans x1
  refine wls rfl rfl (stp_boxL (v := p2) (cs := #[p2]) [(bp g1)] rfl rfl (cells_sl _ _ (hp2.lift (Lift.ext e2 _))) ?_)
  intro g4 w4 o4 n4 g4r l4
  have x4 := grown_ext g4r
  have q5 : Nq (bp g1) (bp g4) := o1.nq n4
  replace o1 := o1.ext x4
  have n7 := Nw.ext e2 n4
  have e6 := e2.trans x4
  refine wla rfl rfl (q_assign (v := (.slice none 0 0)) rfl rfl) ?_
  refine wla rfl rfl (q_assign (v := (.slice none 0 0)) rfl rfl) ?_
  refine wla rfl rfl (q_assign (v := (i64 0)) rfl rfl) ?_
  refine wl_nil ?_
  refine W_th ?_
  refine W_seq ?_
  refine W_reg (by kernel_rfl) ?_
  refine wlq rfl rfl (q_loadB (u := p2) rfl Try.isAgg22 rfl o4 rfl) ?_
  obtain ⟨r8, hr8, H⟩ := Option.bind_eq_some_iff.1 H
  refine wls rfl rfl (stp_call (vs := [p2]) Try.func27 rfl rfl rfl (ar1 rfl) (poly_Trim_calls a2q p2 r8 _ (hp2.lift (Lift.ext e6 _)) hr8) ?_)
  rintro _ w8 ⟨v8, rfl, x8, n8_0, o8_0⟩
  refine ⟨_, rfl, ?_⟩
  have i8_0 : By w8 [(bp g4), (bp g1)] v8 r8 := OwK.slk (Sc.stab _) _ (OwK.scal o8_0 (v8 :: [(bp g4), (bp g1)])) (fun k hk => (Old.cons (Old.cons (Old.nil _) o1.ltB) o4.ltB) k (n8_0 k hk)) (fun _ h => h.2)
  replace o4 := o4.ext x8
  replace o1 := o1.ext x8
  have e9 := e6.trans x8
  refine wln rfl rfl (stp_storeL (u := v8) [] [(bp g1)] rfl Try.sizeOf22 rfl rfl o4 (oc_sl _ _ _ _ i8_0) ?_)
  intro w10 o10 g10 l10
  replace i8_0 := i8_0.lift l10
  replace o1 := o1.other g10 q5
  have e11 := e9.grown g10 n7
  refine wl_nil ?_
  refine W_th ?_
  refine W_seq ?_
  refine W_seq ?_
  refine W_reg (by kernel_rfl) ?_
  refine wlq rfl rfl (q_loadB (u := p0) rfl Try.isAgg24 rfl o1 rfl) ?_
  refine wla rfl rfl (q_eqF rfl rfl rfl rfl (hp0.lift (Lift.ext e11 _))) ?_
  refine wl_nil ?_
  refine W_th ?_
  refine W_cond _ rfl rfl (fun hb12 => ?_) (fun hb12 => ?_)
  · replace H := (if_pos hb12).symm.trans H
    refine W_seq ?_
    refine W_reg (by kernel_rfl) ?_
    refine wla rfl rfl (q_assign (v := (.slice none 0 0)) rfl rfl) ?_
    refine wla rfl rfl (q_assign (v := (.slice none 0 0)) rfl rfl) ?_
    refine wla rfl rfl (q_assign (v := (i64 1)) rfl rfl) ?_
    refine wl_nil ?_
    refine W_th ?_
    refine W_ret ?_
    refine th_r ?_
    obtain rfl := Option.some.inj H
    refine rt3 (.slice none 0 0) (.slice none 0 0) (i64 1) rfl rfl rfl rfl rfl rfl rfl rfl ?_
    exact ⟨(.slice none 0 0), (.slice none 0 0), rfl, e11, Nw.nil _, (OwK.nil _ _ _ _), Nw.nil _, (OwK.nil _ _ _ _)⟩
  · replace H := (if_neg (ne_true_of_eq_false hb12)).symm.trans H
    refine W_skip ?_
    refine W_th ?_
    refine W_seq ?_
    refine W_seq ?_
    refine W_reg (by kernel_rfl) ?_
    refine wlq rfl rfl (q_loadB (u := v8) rfl Try.isAgg22 rfl o10 rfl) ?_
    refine wla rfl rfl (q_len rfl T22.sl rfl i8_0) ?_
    refine wla rfl rfl (q_eqI rfl rfl rfl) ?_
    refine wl_nil ?_
    refine W_th ?_
    refine W_cond _ rfl rfl (fun hb13 => ?_) (fun hb13 => ?_)
    · replace H := (if_pos (of_decide_eq_true hb13)).symm.trans H
      refine W_seq ?_
      refine W_reg (by kernel_rfl) ?_
      refine wla rfl rfl (q_assign (v := (.slice none 0 0)) rfl rfl) ?_
      refine wla rfl rfl (q_assign (v := (.slice none 0 0)) rfl rfl) ?_
      refine wla rfl rfl (q_assign (v := (i64 7)) rfl rfl) ?_
      refine wl_nil ?_
      refine W_th ?_
      refine W_ret ?_
      refine th_r ?_
      obtain rfl := Option.some.inj H
      refine rt3 (.slice none 0 0) (.slice none 0 0) (i64 7) rfl rfl rfl rfl rfl rfl rfl rfl ?_
      exact ⟨(.slice none 0 0), (.slice none 0 0), rfl, e11, Nw.nil _, (OwK.nil _ _ _ _), Nw.nil _, (OwK.nil _ _ _ _)⟩
    · replace H := (if_neg (of_decide_eq_false hb13)).symm.trans H
      refine W_skip ?_
      refine W_th ?_
      refine W_seq ?_
      obtain ⟨x14, H14, H⟩ := Option.bind_eq_some_iff.1 H
      refine W_mid (fun f w => ∃ g9_128 : Nat, f 1 = p1 ∧ f 3 = (bp g1) ∧ f 5 = (bp g4) ∧ f 9 = (bp g9_128) ∧ f 81 = undef ∧ Ext w0 w ∧ Blk w g1 24 #[p0] ∧ Nw w0 (bp g1) ∧ Blk w g4 22 #[v8] ∧ Nw w0 (bp g4) ∧ Blk w g9_128 5 #[(u8 x14)] ∧ Nw w0 (bp g9_128) ∧ Nq (bp g1) (bp g4) ∧ Nq (bp g1) (bp g9_128) ∧ Nq (bp g4) (bp g9_128) ∧ By w [(bp g1), (bp g4), (bp g9_128)] v8 r8) ?_ ?_
      · refine W_draw2 [0, 1, 2, 6] [(0, 1), (1, 1), (2, 1), (3, 0), (4, 0), (5, 0), (6, 1)] 7 11 [(8, 0), (9, 0), (10, 0), (11, 2), (12, 2), (13, 0)] [(7, 2), (8, 0), (9, 0), (10, 0), (12, 2), (13, 0)] mixed (by kernel_rfl) (by kernel_rfl) (by kernel_rfl) (by kernel_rfl) ?_
        have x15 := Ext.drew w10
        replace i8_0 := i8_0.lift (Lift.ext x15 _)
        replace o10 := o10.ext x15
        replace o1 := o1.ext x15
        have e16 := e11.trans x15
        refine wsq rfl rfl rfl (q_loadB (u := p0) rfl Try.isAgg24 rfl o1 rfl) ?_
        refine wsq rfl rfl rfl (q_loadB (u := v8) rfl Try.isAgg22 rfl o10 rfl) ?_
        refine wsq rfl rfl rfl (q_loadB (u := v8) rfl Try.isAgg22 rfl o10 rfl) ?_
        refine wsa rfl rfl rfl (q_len rfl T22.sl rfl i8_0) ?_
        refine wsa rfl rfl rfl (q_subI rfl rfl rfl) ?_
        obtain ⟨c17, hc17, H14⟩ := Option.bind_eq_some_iff.1 H14
        refine wsa rfl rfl rfl (q_adr rfl T22 rfl rfl i8_0 hc17) ?_
        refine wsq rfl rfl rfl (q_loadS rfl T22 rfl i8_0 hc17) ?_
        refine ws_nil ⟨?_, ?_⟩
        · obtain ⟨r18, hr18, H14⟩ := Option.bind_eq_some_iff.1 H14
          refine wsc rfl (by kernel_rfl) rfl rfl (stp_call (vs := [p0, (u8 c17)]) Try.func68 rfl rfl rfl (ar2 rfl rfl) (field_Inv_calls a0f c17 p0 r18 _ (hp0.lift (Lift.ext e16 _)) hr18) ?_)
          rintro _ w18 ⟨rfl, x18⟩
          refine ⟨_, rfl, ?_⟩
          replace i8_0 := i8_0.lift (Lift.ext x18 _)
          replace o10 := o10.ext x18
          replace o1 := o1.ext x18
          have e19 := e16.trans x18
          refine wsa rfl rfl rfl (q_move (v := (.tuple #[(u8 r18.1), (i64 r18.2)])) rfl rfl) ?_
          refine wsa rfl rfl rfl (q_extract rfl rfl rfl) ?_
          refine wsa rfl rfl rfl (q_extract rfl rfl rfl) ?_
          refine wss rfl rfl rfl (stp_allocL (z := (u8 0)) (cs := #[(u8 0)]) [(bp g4), (bp g1)] rfl Try.zeroValue5 rfl ?_)
          intro g20 w20 o20 n20 g20r l20
          refine ⟨grown_ext g20r, ?_⟩
          have x20 := grown_ext g20r
          have q21 : Nq (bp g4) (bp g20) := o10.nq n20
          have q22 : Nq (bp g1) (bp g20) := o1.nq n20
          replace i8_0 := i8_0.lift (Lift.call _ x20 n20)
          replace o10 := o10.ext x20
          replace o1 := o1.ext x20
          have n24 := Nw.ext e19 n20
          have e23 := e19.trans x20
          refine wsn rfl (by kernel_rfl) rfl rfl (stp_storeL (u := (u8 r18.1)) [] [(bp g4), (bp g1)] rfl Try.sizeOf5 rfl rfl o20 rfl ?_)
          intro w25 o25 g25 l25
          replace i8_0 := i8_0.lift l25
          replace o10 := o10.other g25 q21
          replace o1 := o1.other g25 q22
          have e26 := e23.grown g25 n24
          refine wsa rfl rfl rfl (q_assign (v := (i64 r18.2)) rfl rfl) ?_
          refine ws_nil ?_
          obtain rfl := Option.some.inj H14
          exact ⟨g20, rfl, rfl, rfl, rfl, rfl, e26, o1, n3, o10, n7, o25, n24, q5, q22, q21, (i8_0.lift (Lift.sub (fun _ h => ⟨h.2.2.1, h.2.1, h.1, trivial⟩)))⟩
        · refine wss rfl rfl rfl (stp_allocL (z := (u8 0)) (cs := #[(u8 0)]) [(bp g4), (bp g1)] rfl Try.zeroValue5 rfl ?_)
          intro g18 w18 o18 n18 g18r l18
          refine ⟨grown_ext g18r, ?_⟩
          have x18 := grown_ext g18r
          have q19 : Nq (bp g4) (bp g18) := o10.nq n18
          have q20 : Nq (bp g1) (bp g18) := o1.nq n18
          replace i8_0 := i8_0.lift (Lift.call _ x18 n18)
          replace o10 := o10.ext x18
          replace o1 := o1.ext x18
          have n22 := Nw.ext e16 n18
          have e21 := e16.trans x18
          obtain ⟨r23, hr23, H14⟩ := Option.bind_eq_some_iff.1 H14
          refine wsc rfl (by kernel_rfl) rfl rfl (stp_call (vs := [p0, (u8 c17)]) Try.func68 rfl rfl rfl (ar2 rfl rfl) (field_Inv_calls a0f c17 p0 r23 _ (hp0.lift (Lift.ext e21 _)) hr23) ?_)
          rintro _ w23 ⟨rfl, x23⟩
          refine ⟨_, rfl, ?_⟩
          replace i8_0 := i8_0.lift (Lift.ext x23 _)
          replace o18 := o18.ext x23
          replace o10 := o10.ext x23
          replace o1 := o1.ext x23
          have e24 := e21.trans x23
          refine wsa rfl rfl rfl (q_move (v := (.tuple #[(u8 r23.1), (i64 r23.2)])) rfl rfl) ?_
          refine wsa rfl rfl rfl (q_extract rfl rfl rfl) ?_
          refine wsa rfl rfl rfl (q_extract rfl rfl rfl) ?_
          refine wsn rfl (by kernel_rfl) rfl rfl (stp_storeL (u := (u8 r23.1)) [] [(bp g4), (bp g1)] rfl Try.sizeOf5 rfl rfl o18 rfl ?_)
          intro w25 o25 g25 l25
          replace i8_0 := i8_0.lift l25
          replace o10 := o10.other g25 q19
          replace o1 := o1.other g25 q20
          have e26 := e24.grown g25 n22
          refine wsa rfl rfl rfl (q_assign (v := (i64 r23.2)) rfl rfl) ?_
          refine ws_nil ?_
          obtain rfl := Option.some.inj H14
          exact ⟨g18, rfl, rfl, rfl, rfl, rfl, e26, o1, n3, o10, n7, o25, n22, q5, q20, q19, (i8_0.lift (Lift.sub (fun _ h => ⟨h.2.2.1, h.2.1, h.1, trivial⟩)))⟩
      · rintro _ w27 ⟨g9_27, s1_27, s3_27, s5_27, s9_27, s81_27, hE27, o0_27, n0_27, o1_27, n1_27, o2_27, n2_27, q0_1_27, q0_2_27, q1_2_27, i0_27⟩
        refine W_th ?_
        refine W_seq ?_
        refine W_reg (by kernel_rfl) ?_
        refine wla rfl rfl (q_move (v := p1) rfl s1_27) ?_
        obtain ⟨r28, hr28, H⟩ := Option.bind_eq_some_iff.1 H
        refine wls rfl rfl (stp_call (vs := [p1]) Try.func67 rfl rfl rfl (ar1 rfl) (slices_Clone_sbytebyte_calls a1p p1 r28 _ (hp1.lift (Lift.ext hE27 _)) hr28) ?_)
        rintro _ w28 ⟨v28, rfl, x28, n28_0, o28_0⟩
        refine ⟨_, rfl, ?_⟩
        have o28 : OwK (Sc u8) w28 (v28 :: [(bp g1), (bp g4), (bp g9_27)]) 5 v28 r28 := OwK.scal o28_0 _
        have q29 : Nq (bp g1) v28 := o0_27.nq n28_0
        have q30 : Nq (bp g4) v28 := o1_27.nq n28_0
        have q31 : Nq (bp g9_27) v28 := o2_27.nq n28_0
        replace i0_27 := i0_27.lift (Lift.call _ x28 n28_0)
        replace o0_27 := o0_27.ext x28
        replace o1_27 := o1_27.ext x28
        replace o2_27 := o2_27.ext x28
        have n33 := Nw.ext hE27 n28_0
        have e32 := hE27.trans x28
        refine wls rfl rfl (stp_allocL (z := (.slice none 0 0)) (cs := #[(.slice none 0 0)]) [v28, (bp g1), (bp g4), (bp g9_27)] rfl Try.zeroValue22 rfl ?_)
        intro g34 w34 o34 n34 g34r l34
        have x34 := grown_ext g34r
        have q35 : Nq v28 (bp g34) := o28.nq n34
        have q36 : Nq (bp g1) (bp g34) := o0_27.nq n34
        have q37 : Nq (bp g4) (bp g34) := o1_27.nq n34
        have q38 : Nq (bp g9_27) (bp g34) := o2_27.nq n34
        replace i0_27 := i0_27.lift (Lift.call _ x34 n34)
        replace o28 := o28.extL (Sc.stab _) x34 (Lift.call _ x34 n34)
        replace o0_27 := o0_27.ext x34
        replace o1_27 := o1_27.ext x34
        replace o2_27 := o2_27.ext x34
        have n40 := Nw.ext e32 n34
        have e39 := e32.trans x34
        refine wln rfl rfl (stp_storeL (u := v28) [] [v28, (bp g1), (bp g4), (bp g9_27)] rfl Try.sizeOf22 rfl rfl o34 (oc_own o28) ?_)
        intro w41 o41 g41 l41
        replace i0_27 := i0_27.lift l41
        replace o28 := o28.other (Sc.stab _) g41 q35 l41
        replace o0_27 := o0_27.other g41 q36
        replace o1_27 := o1_27.other g41 q37
        replace o2_27 := o2_27.other g41 q38
        have e42 := e39.grown g41 n40
        refine wl_nil ?_
        refine W_th ?_
        refine W_seq ?_
        refine W_reg (by kernel_rfl) ?_
        refine wla rfl rfl (q_move (v := p1) rfl s1_27) ?_
        refine wla rfl rfl (q_len rfl T22.sl rfl (hp1.lift (Lift.ext e42 _))) ?_
        refine wlq rfl rfl (q_loadB (u := v8) rfl Try.isAgg22 s5_27 o1_27 rfl) ?_
        refine wla rfl rfl (q_len rfl T22.sl rfl i0_27) ?_
        refine wla rfl rfl (q_subI rfl rfl rfl) ?_
        refine wla rfl rfl (q_addI rfl rfl rfl) ?_
        refine wla rfl rfl (q_maxI rfl rfl rfl) ?_
        obtain ⟨c43, hc43, H⟩ := Option.bind_eq_some_iff.1 H
        refine wls rfl rfl (stp_make (L := [(bp g34), v28, (bp g1), (bp g4), (bp g9_27)]) (R := (Sc u8)) rfl T22 rfl rfl hc43 (fun _ _ => rfl) ?_)
        intro v43 w43 o43 n43 g43 l43
        have x43 := grown_ext g43
        have q44 : Nq (bp g34) v43 := o41.nq n43
        have q45 : Nq v28 v43 := o28.nq n43
        have q46 : Nq (bp g1) v43 := o0_27.nq n43
        have q47 : Nq (bp g4) v43 := o1_27.nq n43
        have q48 : Nq (bp g9_27) v43 := o2_27.nq n43
        replace i0_27 := i0_27.lift (Lift.call _ x43 n43)
        replace o41 := o41.ext x43
        replace o28 := o28.extL (Sc.stab _) x43 (Lift.call _ x43 n43)
        replace o0_27 := o0_27.ext x43
        replace o1_27 := o1_27.ext x43
        replace o2_27 := o2_27.ext x43
        have n50 := Nw.ext e42 n43
        have e49 := e42.trans x43
        refine wls rfl rfl (stp_allocL (z := (.slice none 0 0)) (cs := #[(.slice none 0 0)]) [v43, (bp g34), v28, (bp g1), (bp g4), (bp g9_27)] rfl Try.zeroValue22 rfl ?_)
        intro g51 w51 o51 n51 g51r l51
        have x51 := grown_ext g51r
        have q52 : Nq v43 (bp g51) := o43.nq n51
        have q53 : Nq (bp g34) (bp g51) := o41.nq n51
        have q54 : Nq v28 (bp g51) := o28.nq n51
        have q55 : Nq (bp g1) (bp g51) := o0_27.nq n51
        have q56 : Nq (bp g4) (bp g51) := o1_27.nq n51
        have q57 : Nq (bp g9_27) (bp g51) := o2_27.nq n51
        replace i0_27 := i0_27.lift (Lift.call _ x51 n51)
        replace o43 := o43.extL (Sc.stab _) x51 (Lift.call _ x51 n51)
        replace o41 := o41.ext x51
        replace o28 := o28.extL (Sc.stab _) x51 (Lift.call _ x51 n51)
        replace o0_27 := o0_27.ext x51
        replace o1_27 := o1_27.ext x51
        replace o2_27 := o2_27.ext x51
        have n59 := Nw.ext e49 n51
        have e58 := e49.trans x51
        refine wln rfl rfl (stp_storeL (u := v43) [] [v43, (bp g34), v28, (bp g1), (bp g4), (bp g9_27)] rfl Try.sizeOf22 rfl rfl o51 (oc_own o43) ?_)
        intro w60 o60 g60 l60
        replace i0_27 := i0_27.lift l60
        replace o43 := o43.other (Sc.stab _) g60 q52 l60
        replace o41 := o41.other g60 q53
        replace o28 := o28.other (Sc.stab _) g60 q54 l60
        replace o0_27 := o0_27.other g60 q55
        replace o1_27 := o1_27.other g60 q56
        replace o2_27 := o2_27.other g60 q57
        have e61 := e58.grown g60 n59
        refine wl_nil ?_
        refine W_th ?_
        refine W_seq ?_
        refine W_seq ?_
        refine W_reg (by kernel_rfl) ?_
        refine wlq rfl rfl (q_loadB (u := v43) rfl Try.isAgg22 rfl o60 rfl) ?_
        refine wls rfl rfl (stp_call (vs := [v43]) Try.func65 rfl rfl rfl (ar1 rfl) (Backward_callsG _ (cells_own o43) _) ?_)
        rintro _ w62 ⟨g62, rfl, n62, o62, x62⟩
        refine ⟨_, rfl, ?_⟩
        have q63 : Nq (bp g51) (bp g62) := o60.nq n62
        have q64 : Nq v43 (bp g62) := o43.nq n62
        have q65 : Nq (bp g34) (bp g62) := o41.nq n62
        have q66 : Nq v28 (bp g62) := o28.nq n62
        have q67 : Nq (bp g1) (bp g62) := o0_27.nq n62
        have q68 : Nq (bp g4) (bp g62) := o1_27.nq n62
        have q69 : Nq (bp g9_27) (bp g62) := o2_27.nq n62
        replace i0_27 := i0_27.lift (Lift.call _ x62 n62)
        replace o60 := o60.ext x62
        replace o43 := o43.extL (Sc.stab _) x62 (Lift.call _ x62 n62)
        replace o41 := o41.ext x62
        replace o28 := o28.extL (Sc.stab _) x62 (Lift.call _ x62 n62)
        replace o0_27 := o0_27.ext x62
        replace o1_27 := o1_27.ext x62
        replace o2_27 := o2_27.ext x62
        have n71 := Nw.ext e61 n62
        have e70 := e61.trans x62
        refine wl_nil ?_
        refine W_th ?_
        refine W_block ?_
        obtain ⟨lim72, hl72, H⟩ := Option.bind_eq_some_iff.1 H
        obtain ⟨x72, G72, H⟩ := Option.bind_eq_some_iff.1 H
        refine W_rangeS (π := fun x : BwEl (fun l => l.length = c43.length) => x.1.1) (xs := (revN c43.length)) (ea := fun x => i64 x.1.1) (eb := fun x => u8 x.1.2) (Rd := RdB (fun l => l.length = c43.length) g62 v43) (gf := 91) (lb := #[(bp g62)]) G72 s81_27 rfl rfl (enters Try.func91 rfl rfl) ((revN_len _).symm) (backward_gen (fun l => l.length = c43.length) _ (fun _ h => h) v43 g62 _ ⟨o62, _, rfl, (o43.rd (Sc.stab _))⟩ (lim_lt hl72)) (fun ys h => h) bw_memN (fun _ _ t h => h.tn t) rfl rfl (fun s72 w => Ext w0 w ∧ OwK (Sc u8) w [v28, v43, (bp g1), (bp g4), (bp g9_27), (bp g34), (bp g51), (bp g62)] 5 v28 s72.1 ∧ Nw w0 v28 ∧ OwK (Sc u8) w [v28, v43, (bp g1), (bp g4), (bp g9_27), (bp g34), (bp g51), (bp g62)] 5 v43 s72.2 ∧ Nw w0 v43 ∧ Blk w g1 24 #[p0] ∧ Nw w0 (bp g1) ∧ Blk w g4 22 #[v8] ∧ Nw w0 (bp g4) ∧ Blk w g9_27 5 #[(u8 x14)] ∧ Nw w0 (bp g9_27) ∧ Blk w g34 22 #[v28] ∧ Nw w0 (bp g34) ∧ Blk w g51 22 #[v43] ∧ Nw w0 (bp g51) ∧ Blk w g62 22 #[v43] ∧ Nw w0 (bp g62) ∧ Nq v28 v43 ∧ Nq v28 (bp g1) ∧ Nq v28 (bp g4) ∧ Nq v28 (bp g9_27) ∧ Nq v28 (bp g34) ∧ Nq v28 (bp g51) ∧ Nq v28 (bp g62) ∧ Nq v43 (bp g1) ∧ Nq v43 (bp g4) ∧ Nq v43 (bp g9_27) ∧ Nq v43 (bp g34) ∧ Nq v43 (bp g51) ∧ Nq v43 (bp g62) ∧ Nq (bp g1) (bp g4) ∧ Nq (bp g1) (bp g9_27) ∧ Nq (bp g1) (bp g34) ∧ Nq (bp g1) (bp g51) ∧ Nq (bp g1) (bp g62) ∧ Nq (bp g4) (bp g9_27) ∧ Nq (bp g4) (bp g34) ∧ Nq (bp g4) (bp g51) ∧ Nq (bp g4) (bp g62) ∧ Nq (bp g9_27) (bp g34) ∧ Nq (bp g9_27) (bp g51) ∧ Nq (bp g9_27) (bp g62) ∧ Nq (bp g34) (bp g51) ∧ Nq (bp g34) (bp g62) ∧ Nq (bp g51) (bp g62) ∧ By w [v28, v43, (bp g1), (bp g4), (bp g9_27), (bp g34), (bp g51), (bp g62)] v8 r8 ∧ (s72.2).length = c43.length) ?_ ⟨e70, (o28.weak (Sc.stab _) (fun _ h => ⟨h.2.2.2.2.1, h.2.2.1, h.2.2.2.2.2.1, h.2.2.2.2.2.2.1, h.2.2.2.2.2.2.2.1, h.2.2.2.1, h.2.1, h.1, trivial⟩)), n33, (o43.weak (Sc.stab _) (fun _ h => ⟨h.2.2.2.2.1, h.2.2.1, h.2.2.2.2.2.1, h.2.2.2.2.2.2.1, h.2.2.2.2.2.2.2.1, h.2.2.2.1, h.2.1, h.1, trivial⟩)), n50, o0_27, n0_27, o1_27, n1_27, o2_27, n2_27, o41, n40, o60, n59, o62, n71, q45, q29.symm, q30.symm, q31.symm, q35, q54, q66, q46.symm, q47.symm, q48.symm, q44.symm, q52, q64, q0_1_27, q0_2_27, q36, q55, q67, q1_2_27, q37, q56, q68, q38, q57, q69, q53, q65, q63, (i0_27.lift (Lift.sub (fun _ h => ⟨h.2.2.2.2.1, h.2.2.1, h.2.2.2.2.2.1, h.2.2.2.2.2.2.1, h.2.2.2.2.2.2.2.1, h.2.2.2.1, h.2.1, h.1, trivial⟩))), rfl⟩ (fun x f => upd (f) 13 (i64 x.1.1)) ?_ ?_ ?_
        · rintro s72 W W' t ⟨hE73, o0_73, n0_73, o1_73, n1_73, o2_73, n2_73, o3_73, n3_73, o4_73, n4_73, o5_73, n5_73, o6_73, n6_73, o7_73, n7_73, q0_1_73, q0_2_73, q0_3_73, q0_4_73, q0_5_73, q0_6_73, q0_7_73, q1_2_73, q1_3_73, q1_4_73, q1_5_73, q1_6_73, q1_7_73, q2_3_73, q2_4_73, q2_5_73, q2_6_73, q2_7_73, q3_4_73, q3_5_73, q3_6_73, q3_7_73, q4_5_73, q4_6_73, q4_7_73, q5_6_73, q5_7_73, q6_7_73, i0_73, xt0_73⟩
          exact ⟨(hE73.tn t e70.size), (o0_73.tn (Sc.stab _) t), n0_73, (o1_73.tn (Sc.stab _) t), n1_73, (o2_73.tn t), n2_73, (o3_73.tn t), n3_73, (o4_73.tn t), n4_73, (o5_73.tn t), n5_73, (o6_73.tn t), n6_73, (o7_73.tn t), n7_73, q0_1_73, q0_2_73, q0_3_73, q0_4_73, q0_5_73, q0_6_73, q0_7_73, q1_2_73, q1_3_73, q1_4_73, q1_5_73, q1_6_73, q1_7_73, q2_3_73, q2_4_73, q2_5_73, q2_6_73, q2_7_73, q3_4_73, q3_5_73, q3_6_73, q3_7_73, q4_5_73, q4_6_73, q4_7_73, q5_6_73, q5_7_73, q6_7_73, (i0_73.lift (t.lift _)), xt0_73⟩
        · intro l x W1 K hK
          refine W_reg (by kernel_rfl) ?_
          refine wla rfl rfl (q_assign (v := i64 x.1.1) rfl rfl) ?_
          refine wl_nil ?_
          exact hK
        · rintro l ⟨⟨y72, z72⟩, hy72⟩ s72 sp72 w74 ⟨hE74, o0_74, n0_74, o1_74, n1_74, o2_74, n2_74, o3_74, n3_74, o4_74, n4_74, o5_74, n5_74, o6_74, n6_74, o7_74, n7_74, q0_1_74, q0_2_74, q0_3_74, q0_4_74, q0_5_74, q0_6_74, q0_7_74, q1_2_74, q1_3_74, q1_4_74, q1_5_74, q1_6_74, q1_7_74, q2_3_74, q2_4_74, q2_5_74, q2_6_74, q2_7_74, q3_4_74, q3_5_74, q3_6_74, q3_7_74, q4_5_74, q4_6_74, q4_7_74, q5_6_74, q5_7_74, q6_7_74, i0_74, xt0_74⟩ H72
          have kf72 := KeepsFrom.refl w62.heap.size w74
          refine W_block ?_
          refine W_seq ?_
          refine W_draw [0, 1, 3, 8, 9] [(0, 1), (1, 1), (2, 0), (3, 1), (4, 0), (5, 0), (6, 0), (7, 0), (8, 1), (9, 1), (10, 2), (11, 0)] mixed (by kernel_rfl) (by kernel_rfl) (by kernel_rfl) (by kernel_rfl) ?_
          have x75 := Ext.drew w74
          replace i0_74 := i0_74.lift (Lift.ext x75 _)
          replace o0_74 := o0_74.extL (Sc.stab _) x75 (Lift.ext x75 _)
          replace o1_74 := o1_74.extL (Sc.stab _) x75 (Lift.ext x75 _)
          replace o2_74 := o2_74.ext x75
          replace o3_74 := o3_74.ext x75
          replace o4_74 := o4_74.ext x75
          replace o5_74 := o5_74.ext x75
          replace o6_74 := o6_74.ext x75
          replace o7_74 := o7_74.ext x75
          have k76 := kf72.ext x75
          have e77 := hE74.trans x75
          refine wsq rfl rfl rfl (q_loadB (u := p0) rfl Try.isAgg24 s3_27 o2_74 rfl) ?_
          refine wsq rfl rfl rfl (q_loadB (u := v28) rfl Try.isAgg22 rfl o5_74 rfl) ?_
          refine wsa rfl rfl rfl (q_move (v := (i64 y72)) rfl rfl) ?_
          refine wsq rfl rfl rfl (q_loadB (u := v8) rfl Try.isAgg22 s5_27 o3_74 rfl) ?_
          refine wsa rfl rfl rfl (q_len rfl T22.sl rfl i0_74) ?_
          refine wsa rfl rfl rfl (q_addI rfl rfl rfl) ?_
          refine wsa rfl rfl rfl (q_subI rfl rfl rfl) ?_
          obtain ⟨c78, hc78, H72⟩ := Option.bind_eq_some_iff.1 H72
          refine wsa rfl rfl rfl (q_adr rfl T22 rfl rfl (o0_74.rd (Sc.stab _)) hc78) ?_
          refine wsq rfl rfl rfl (q_loadS rfl T22 rfl (o0_74.rd (Sc.stab _)) hc78) ?_
          refine wsq rfl rfl rfl (q_loadB (u := (u8 x14)) rfl Try.isAgg5 s9_27 o4_74 rfl) ?_
          obtain ⟨r79, hr79, H72⟩ := Option.bind_eq_some_iff.1 H72
          refine wsc rfl (by kernel_rfl) rfl rfl (stp_call (vs := [p0, (u8 c78), (u8 x14)]) Try.func23 rfl rfl rfl (ar3 rfl rfl rfl) (field_Mul_calls a0f c78 x14 p0 r79 _ (hp0.lift (Lift.ext e77 _)) hr79) ?_)
          rintro _ w79 ⟨rfl, x79⟩
          refine ⟨_, rfl, ?_⟩
          replace i0_74 := i0_74.lift (Lift.ext x79 _)
          replace o0_74 := o0_74.extL (Sc.stab _) x79 (Lift.ext x79 _)
          replace o1_74 := o1_74.extL (Sc.stab _) x79 (Lift.ext x79 _)
          replace o2_74 := o2_74.ext x79
          replace o3_74 := o3_74.ext x79
          replace o4_74 := o4_74.ext x79
          replace o5_74 := o5_74.ext x79
          replace o6_74 := o6_74.ext x79
          replace o7_74 := o7_74.ext x79
          have k80 := k76.ext x79
          have e81 := e77.trans x79
          refine wsa rfl rfl rfl (q_assign (v := (u8 r79)) rfl rfl) ?_
          refine ws_nil ?_
          refine W_th ?_
          refine W_seq ?_
          refine W_reg (by kernel_rfl) ?_
          refine wlq rfl rfl (q_loadB (u := v43) rfl Try.isAgg22 rfl o6_74 rfl) ?_
          refine wla rfl rfl (q_move (v := (i64 y72)) rfl rfl) ?_
          refine wla rfl rfl (q_move (v := (u8 r79)) rfl rfl) ?_
          obtain ⟨c82, hc82, H72⟩ := Option.bind_eq_some_iff.1 H72
          refine wla rfl rfl (q_adr rfl T22 rfl rfl (o1_74.rd (Sc.stab _)) hc82) ?_
          refine wln rfl rfl (stp_store (R := (Sc u8)) (u := (u8 r79)) (Sc.stab _) [v28] [(bp g1), (bp g4), (bp g9_27), (bp g34), (bp g51), (bp g62)] rfl T22 rfl rfl o1_74 (put_of r79 hc82) rfl rfl ?_)
          intro w83 o83 g83 l83
          have k84 := k80.own g83 o1_74.cl
          replace i0_74 := i0_74.lift l83
          replace o0_74 := o0_74.other (Sc.stab _) g83 q0_1_74 l83
          replace o2_74 := o2_74.other g83 q1_2_74.symm
          replace o3_74 := o3_74.other g83 q1_3_74.symm
          replace o4_74 := o4_74.other g83 q1_4_74.symm
          replace o5_74 := o5_74.other g83 q1_5_74.symm
          replace o6_74 := o6_74.other g83 q1_6_74.symm
          replace o7_74 := o7_74.other g83 q1_7_74.symm
          have e85 := e81.grown g83 n1_74
          refine wl_nil ?_
          refine W_th ?_
          refine W_draw [0, 3, 4, 7, 12] [(0, 1), (1, 0), (2, 0), (3, 1), (4, 1), (5, 0), (6, 0), (7, 1), (8, 0), (9, 0), (10, 0), (11, 0), (12, 1), (13, 2), (14, 2)] mixed (by kernel_rfl) (by kernel_rfl) (by kernel_rfl) (by kernel_rfl) ?_
          have x86 := Ext.drew w83
          replace i0_74 := i0_74.lift (Lift.ext x86 _)
          replace o0_74 := o0_74.extL (Sc.stab _) x86 (Lift.ext x86 _)
          replace o83 := o83.extL (Sc.stab _) x86 (Lift.ext x86 _)
          replace o2_74 := o2_74.ext x86
          replace o3_74 := o3_74.ext x86
          replace o4_74 := o4_74.ext x86
          replace o5_74 := o5_74.ext x86
          replace o6_74 := o6_74.ext x86
          replace o7_74 := o7_74.ext x86
          have k87 := k84.ext x86
          have e88 := e85.trans x86
          refine wsq rfl rfl rfl (q_loadB (u := v28) rfl Try.isAgg22 rfl o5_74 rfl) ?_
          refine wsa rfl rfl rfl (q_move (v := (i64 y72)) rfl rfl) ?_
          obtain ⟨c89, hc89, H72⟩ := Option.bind_eq_some_iff.1 H72
          refine wsa rfl rfl rfl (q_slice (a := y72) (b := (s72.1.length : Int)) rfl T22 rfl (o0_74.rd (Sc.stab _)) rfl rfl hc89) ?_
          refine wsq rfl rfl rfl (q_loadB (u := p0) rfl Try.isAgg24 s3_27 o2_74 rfl) ?_
          refine wsq rfl rfl rfl (q_loadB (u := v28) rfl Try.isAgg22 rfl o5_74 rfl) ?_
          refine wsa rfl rfl rfl (q_move (v := (i64 y72)) rfl rfl) ?_
          refine wsa rfl rfl rfl (q_move (v := (i64 y72)) rfl rfl) ?_
          refine wsq rfl rfl rfl (q_loadB (u := v8) rfl Try.isAgg22 s5_27 o3_74 rfl) ?_
          refine wsa rfl rfl rfl (q_len rfl T22.sl rfl i0_74) ?_
          refine wsa rfl rfl rfl (q_addI rfl rfl rfl) ?_
          obtain ⟨c90, hc90, H72⟩ := Option.bind_eq_some_iff.1 H72
          refine wsa rfl rfl rfl (q_slice (a := y72) (b := (wI (y72 + (r8.length : Int)))) rfl T22 rfl (o0_74.rd (Sc.stab _)) rfl rfl hc90) ?_
          refine wsa rfl rfl rfl (q_move (v := (u8 r79)) rfl rfl) ?_
          refine wsq rfl rfl rfl (q_loadB (u := v8) rfl Try.isAgg22 s5_27 o3_74 rfl) ?_
          obtain ⟨r91, hr91, H72⟩ := Option.bind_eq_some_iff.1 H72
          refine wss rfl rfl rfl (stp_call (vs := [p0, (subV v28 (y72 : Int).toNat ((wI (y72 + (r8.length : Int))) : Int).toNat), (u8 r79), v8]) Try.func64 rfl rfl rfl (ar4 rfl rfl rfl rfl) (field_Sum_calls a0f c90 r79 r8 p0 (subV v28 (y72 : Int).toNat ((wI (y72 + (r8.length : Int))) : Int).toNat) v8 r91 _ (hp0.lift (Lift.ext e88 _)) (SlK.cut (o0_74.rd (Sc.stab _)) hc90) (i0_74.lift (Lift.sub (fun _ _ => trivial))) hr91) ?_)
          rintro _ w91 ⟨v91, rfl, x91, n91_0, o91_0⟩
          refine ⟨_, rfl, x91, ?_⟩
          have i91_0 : By w91 [v28, v43, (bp g1), (bp g4), (bp g9_27), (bp g34), (bp g51), (bp g62)] v91 r91 := OwK.slk (Sc.stab _) _ (OwK.scal o91_0 (v91 :: [v28, v43, (bp g1), (bp g4), (bp g9_27), (bp g34), (bp g51), (bp g62)])) (fun k hk => (Old.cons (Old.cons (Old.cons (Old.cons (Old.cons (Old.cons (Old.cons (Old.cons (Old.nil _) o7_74.ltB) o6_74.ltB) o5_74.ltB) o4_74.ltB) o3_74.ltB) o2_74.ltB) o83.lt) o0_74.lt) k (n91_0 k hk)) (fun _ h => h.2)
          replace i0_74 := i0_74.lift (Lift.ext x91 _)
          replace o0_74 := o0_74.extL (Sc.stab _) x91 (Lift.ext x91 _)
          replace o83 := o83.extL (Sc.stab _) x91 (Lift.ext x91 _)
          replace o2_74 := o2_74.ext x91
          replace o3_74 := o3_74.ext x91
          replace o4_74 := o4_74.ext x91
          replace o5_74 := o5_74.ext x91
          replace o6_74 := o6_74.ext x91
          replace o7_74 := o7_74.ext x91
          have k92 := k87.ext x91
          have e93 := e88.trans x91
          refine wsc rfl (by kernel_rfl) rfl rfl (stp_copy (R := (Sc u8)) (off := y72) (dv := (subV v28 (y72 : Int).toNat ((s72.1.length : Int) : Int).toNat)) (u := v91) (Sc.stab _) [] [v43, (bp g1), (bp g4), (bp g9_27), (bp g34), (bp g51), (bp g62)] rfl T22 rfl rfl o0_74 rfl (subL_some.1 hc89).1.1 (subL_lo hc89) i91_0 (fun _ _ h => h) oc_u8 ?_)
          intro w94 o94 g94 l94
          have k95 := k92.own g94 o0_74.cl
          replace i0_74 := i0_74.lift l94
          replace i91_0 := i91_0.lift l94
          replace o83 := o83.other (Sc.stab _) g94 q0_1_74.symm l94
          replace o2_74 := o2_74.other g94 q0_2_74.symm
          replace o3_74 := o3_74.other g94 q0_3_74.symm
          replace o4_74 := o4_74.other g94 q0_4_74.symm
          replace o5_74 := o5_74.other g94 q0_5_74.symm
          replace o6_74 := o6_74.other g94 q0_6_74.symm
          replace o7_74 := o7_74.other g94 q0_7_74.symm
          have e96 := e93.grown g94 n0_74
          refine ws_nil ?_
          refine bk_n ?_
          obtain rfl := Option.some.inj H72
          exact ⟨k95, ⟨o7_74, _, (by simpa using xt0_74), (o83.rd (Sc.stab _))⟩, e96, o94, n0_74, o83, n1_74, o2_74, n2_74, o3_74, n3_74, o4_74, n4_74, o5_74, n5_74, o6_74, n6_74, o7_74, n7_74, q0_1_74, q0_2_74, q0_3_74, q0_4_74, q0_5_74, q0_6_74, q0_7_74, q1_2_74, q1_3_74, q1_4_74, q1_5_74, q1_6_74, q1_7_74, q2_3_74, q2_4_74, q2_5_74, q2_6_74, q2_7_74, q3_4_74, q3_5_74, q3_6_74, q3_7_74, q4_5_74, q4_6_74, q4_7_74, q5_6_74, q5_7_74, q6_7_74, i0_74, (by simpa using xt0_74)⟩
        · intro D72 w97 hD72 ⟨hE97, o0_97, n0_97, o1_97, n1_97, o2_97, n2_97, o3_97, n3_97, o4_97, n4_97, o5_97, n5_97, o6_97, n6_97, o7_97, n7_97, q0_1_97, q0_2_97, q0_3_97, q0_4_97, q0_5_97, q0_6_97, q0_7_97, q1_2_97, q1_3_97, q1_4_97, q1_5_97, q1_6_97, q1_7_97, q2_3_97, q2_4_97, q2_5_97, q2_6_97, q2_7_97, q3_4_97, q3_5_97, q3_6_97, q3_7_97, q4_5_97, q4_6_97, q4_7_97, q5_6_97, q5_7_97, q6_7_97, i0_97, xt0_97⟩ hK72
          have hd72 := Nat.le_trans e70.size hD72
          have kd72 := KeepsFrom.refl 0 w97
          refine bk_n ?_
          refine W_th ?_
          refine W_seq ?_
          refine W_draw [0, 2] [(0, 1), (2, 1), (1, 2), (3, 2), (4, 0), (5, 0), (6, 0)] mixed (by kernel_rfl) (by kernel_rfl) (by kernel_rfl) (by kernel_rfl) ?_
          have x98 := Ext.drew w97
          replace i0_97 := i0_97.lift (Lift.ext x98 _)
          replace o0_97 := o0_97.extL (Sc.stab _) x98 (Lift.ext x98 _)
          replace o1_97 := o1_97.extL (Sc.stab _) x98 (Lift.ext x98 _)
          replace o2_97 := o2_97.ext x98
          replace o3_97 := o3_97.ext x98
          replace o4_97 := o4_97.ext x98
          replace o5_97 := o5_97.ext x98
          replace o6_97 := o6_97.ext x98
          replace o7_97 := o7_97.ext x98
          have k99 := kd72.ext x98
          have e100 := hE97.trans x98
          refine wsq rfl rfl rfl (q_loadB (u := v43) rfl Try.isAgg22 rfl o6_97 rfl) ?_
          refine wsq rfl rfl rfl (q_loadB (u := v28) rfl Try.isAgg22 rfl o5_97 rfl) ?_
          obtain ⟨r101, hr101, H⟩ := Option.bind_eq_some_iff.1 H
          refine wss rfl rfl rfl (stp_call (vs := [v43]) Try.func27 rfl rfl rfl (ar1 rfl) (poly_Trim_calls x72.2 v43 r101 _ (o1_97.rd (Sc.stab _)) hr101) ?_)
          rintro _ w101 ⟨v101, rfl, x101, n101_0, o101_0⟩
          refine ⟨_, rfl, x101, ?_⟩
          have o101 : OwK (Sc u8) w101 (v101 :: [v28, v43, (bp g1), (bp g4), (bp g9_27), (bp g34), (bp g51), (bp g62)]) 5 v101 r101 := OwK.scal o101_0 _
          have q102 : Nq v28 v101 := o0_97.nq n101_0
          have q103 : Nq v43 v101 := o1_97.nq n101_0
          have q104 : Nq (bp g1) v101 := o2_97.nq n101_0
          have q105 : Nq (bp g4) v101 := o3_97.nq n101_0
          have q106 : Nq (bp g9_27) v101 := o4_97.nq n101_0
          have q107 : Nq (bp g34) v101 := o5_97.nq n101_0
          have q108 : Nq (bp g51) v101 := o6_97.nq n101_0
          have q109 : Nq (bp g62) v101 := o7_97.nq n101_0
          replace i0_97 := i0_97.lift (Lift.call _ x101 n101_0)
          replace o0_97 := o0_97.extL (Sc.stab _) x101 (Lift.call _ x101 n101_0)
          replace o1_97 := o1_97.extL (Sc.stab _) x101 (Lift.call _ x101 n101_0)
          replace o2_97 := o2_97.ext x101
          replace o3_97 := o3_97.ext x101
          replace o4_97 := o4_97.ext x101
          replace o5_97 := o5_97.ext x101
          replace o6_97 := o6_97.ext x101
          replace o7_97 := o7_97.ext x101
          have k110 := k99.ext x101
          have n112 := Nw.ext e100 n101_0
          have e111 := e100.trans x101
          obtain ⟨r113, hr113, H⟩ := Option.bind_eq_some_iff.1 H
          refine wsc rfl (by kernel_rfl) rfl rfl (stp_call (vs := [v28]) Try.func27 rfl rfl rfl (ar1 rfl) (poly_Trim_calls x72.1 v28 r113 _ (o0_97.rd (Sc.stab _)) hr113) ?_)
          rintro _ w113 ⟨v113, rfl, x113, n113_0, o113_0⟩
          refine ⟨_, rfl, ?_⟩
          have o113 : OwK (Sc u8) w113 (v113 :: [v101, v28, v43, (bp g1), (bp g4), (bp g9_27), (bp g34), (bp g51), (bp g62)]) 5 v113 r113 := OwK.scal o113_0 _
          have q114 : Nq v101 v113 := o101.nq n113_0
          have q115 : Nq v28 v113 := o0_97.nq n113_0
          have q116 : Nq v43 v113 := o1_97.nq n113_0
          have q117 : Nq (bp g1) v113 := o2_97.nq n113_0
          have q118 : Nq (bp g4) v113 := o3_97.nq n113_0
          have q119 : Nq (bp g9_27) v113 := o4_97.nq n113_0
          have q120 : Nq (bp g34) v113 := o5_97.nq n113_0
          have q121 : Nq (bp g51) v113 := o6_97.nq n113_0
          have q122 : Nq (bp g62) v113 := o7_97.nq n113_0
          replace i0_97 := i0_97.lift (Lift.call _ x113 n113_0)
          replace o101 := o101.extL (Sc.stab _) x113 (Lift.call _ x113 n113_0)
          replace o0_97 := o0_97.extL (Sc.stab _) x113 (Lift.call _ x113 n113_0)
          replace o1_97 := o1_97.extL (Sc.stab _) x113 (Lift.call _ x113 n113_0)
          replace o2_97 := o2_97.ext x113
          replace o3_97 := o3_97.ext x113
          replace o4_97 := o4_97.ext x113
          replace o5_97 := o5_97.ext x113
          replace o6_97 := o6_97.ext x113
          replace o7_97 := o7_97.ext x113
          have k123 := k110.ext x113
          have n125 := Nw.ext e111 n113_0
          have e124 := e111.trans x113
          refine wsa rfl rfl rfl (q_assign (v := v101) rfl rfl) ?_
          refine wsa rfl rfl rfl (q_assign (v := v113) rfl rfl) ?_
          refine wsa rfl rfl rfl (q_assign (v := (i64 0)) rfl rfl) ?_
          refine ws_nil ?_
          refine W_th ?_
          refine W_ret ?_
          obtain rfl := Option.some.inj H
          have hk126 := k123.same D72 _ (Nat.zero_le _) hK72 rfl
          have t126 := Tn.put hk126 hd72 (.deferred none)
          refine rtm3 v101 v113 (i64 0) rfl rfl rfl rfl rfl rfl rfl rfl hk126 ?_
          exact ⟨v101, v113, rfl, (e124.tn t126 (Nat.le_refl _)), n112, ((o101.tn (Sc.stab _) t126).weak (Sc.stab _) (fun _ _ => trivial)), n125, ((o113.tn (Sc.stab _) t126).weak (Sc.stab _) (fun _ _ => trivial))⟩

/-! largesse/poly.check -/
noncomputable def poly_check (a0f : Bool) (a1xs : List UInt8) : Option Int :=
((iterC (fun s4 : (List (UInt8 × Bool)) × Int =>
(if s4.2 < (a1xs.length : Int) then
((idx a1xs s4.2).bind fun c7 => some (.inl ((mput s4.1 c7 true), (wI (s4.2 + 1)))))
else some (.inr s4.1))) (([] : List (UInt8 × Bool)), 0)).bind fun x4 =>
(if (!a0f) = true then some 1
else
(if (a1xs.length : Int) = 0 then some 5
else
(if 255 < (a1xs.length : Int) then some 4
else
(if (x4.length : Int) = (a1xs.length : Int) then some 0
else some 6)))))
set_option maxRecDepth 100000 in
set_option maxHeartbeats 8000000 in
theorem poly_check_calls (a0f : Bool) (a1xs : List UInt8) (p0 : Value) (p1 : Value) (r : Int) (w0 : World) (hp0 : Fd w0 [] p0 a0f) (hp1 : By w0 [] p1 a1xs) (H : poly_check a0f a1xs = some r) :
    Calls Try.prog 69 [p0, p1].toArray w0 (fun e w' => e = .returned (i64 r) ∧ Ext w0 w') := by
  have hE : Ext w0 w0 := Ext.refl w0
  unfold poly_check at H
  refine calls_W (n := 35) Try.func69 rfl rfl rfl ?_
  refine W_seq ?_
  refine W_reg (by kernel_rfl) ?_
  refine wla rfl rfl (q_assign (v := (i64 0)) rfl rfl) ?_
  refine wl_nil ?_
  refine W_th ?_
  refine W_seq ?_
  refine W_reg (by kernel_rfl) ?_
  refine wls rfl rfl (stp_makeMap [] rfl ?_)
  intro g1 w1 o1 n1 g1r l1
  have x1 := grown_ext g1r
  have n3 := Nw.ext hE n1
  have e2 := hE.trans x1
  refine wla rfl rfl (q_assign (v := (mp g1)) rfl rfl) ?_
  refine wl_nil ?_
  refine W_th ?_
  refine W_seq ?_
  refine W_seq ?_
  refine W_reg (by kernel_rfl) ?_
  refine wla rfl rfl (q_move (v := p1) rfl rfl) ?_
  refine wla rfl rfl (q_len rfl T22.sl rfl (hp1.lift (Lift.ext e2 _))) ?_
  refine wla rfl rfl (q_move (v := (i64 0)) rfl rfl) ?_
  refine wl_nil ?_
  refine W_th ?_
  obtain ⟨x4, G4, H⟩ := Option.bind_eq_some_iff.1 H
  refine W_mid (fun f w => f 0 = p0 ∧ f 1 = p1 ∧ f 5 = (mp g1) ∧ f 35 = undef ∧ Ext w0 w ∧ Mp w g1 x4 ∧ Nw w0 (mp g1)) ?_ ?_
  · refine W_block ?_
    refine W_loop (fun s4 f w => f 0 = p0 ∧ f 1 = p1 ∧ f 5 = (mp g1) ∧ f 9 = p1 ∧ f 10 = (i64 ((a1xs.length : Int))) ∧ f 11 = (i64 s4.2) ∧ f 35 = undef ∧ Ext w0 w ∧ Mp w g1 s4.1 ∧ Nw w0 (mp g1)) G4 ?_ ?_
    · exact ⟨rfl, rfl, rfl, rfl, rfl, rfl, rfl, e2, o1, n3⟩
    · rintro s4 _ _ w5 ⟨s0_5, s1_5, s5_5, s9_5, s10_5, s11_5, s35_5, hE5, o0_5, n0_5⟩ H4 hr4
      refine W_seq ?_
      refine W_reg (by kernel_rfl) ?_
      refine wla rfl rfl (q_ltI rfl s11_5 s10_5) ?_
      refine wl_nil ?_
      refine W_th ?_
      refine W_seq ?_
      refine W_cond _ rfl rfl (fun hb6 => ?_) (fun hb6 => ?_)
      · replace H4 := (if_pos (of_decide_eq_true hb6)).symm.trans H4
        refine W_skip ?_
        refine W_th ?_
        refine W_seq ?_
        refine W_block ?_
        refine W_seq ?_
        refine W_reg (by kernel_rfl) ?_
        obtain ⟨c7, hc7, H4⟩ := Option.bind_eq_some_iff.1 H4
        refine wla rfl rfl (q_adr rfl T22 s9_5 s11_5 (hp1.lift (Lift.ext hE5 _)) hc7) ?_
        refine wlq rfl rfl (q_loadS rfl T22 rfl (hp1.lift (Lift.ext hE5 _)) hc7) ?_
        refine wla rfl rfl (q_assign (v := (u8 c7)) rfl rfl) ?_
        refine wl_nil ?_
        refine W_th ?_
        refine W_reg (by kernel_rfl) ?_
        refine wla rfl rfl (q_move (v := (mp g1)) rfl s5_5) ?_
        refine wla rfl rfl (q_move (v := (u8 c7)) rfl rfl) ?_
        refine wln rfl rfl (stp_mapUpdate [] [] rfl Try.underlying73 Try.underlying5 rfl rfl rfl o0_5 ?_)
        intro w8 o8 g8 l8
        have e9 := hE5.grown g8 n0_5
        refine wl_nil ?_
        refine bk_n ?_
        refine W_th ?_
        refine W_reg (by kernel_rfl) ?_
        refine wla rfl rfl (q_addI rfl s11_5 rfl) ?_
        refine wla rfl rfl (q_move (v := (i64 ((wI (s4.2 + 1))))) rfl rfl) ?_
        refine wl_nil ?_
        obtain rfl := Option.some.inj H4
        exact ⟨_, rfl, s0_5, s1_5, s5_5, s9_5, s10_5, rfl, s35_5, e9, o8, n0_5⟩
      · replace H4 := (if_neg (of_decide_eq_false hb6)).symm.trans H4
        refine W_exit ?_
        refine th_x ?_
        obtain rfl := Option.some.inj H4
        obtain rfl := hr4 _ rfl
        refine th_x ?_
        refine bk_x ?_
        exact ⟨s0_5, s1_5, s5_5, s35_5, hE5, o0_5, n0_5⟩
  · rintro _ w11 ⟨s0_11, s1_11, s5_11, s35_11, hE11, o0_11, n0_11⟩
    refine W_th ?_
    refine W_seq ?_
    refine W_block ?_
    refine W_seq ?_
    refine W_reg (by kernel_rfl) ?_
    refine wla rfl rfl (q_move (v := p0) rfl s0_11) ?_
    refine wla rfl rfl (q_eqF rfl rfl rfl rfl (hp0.lift (Lift.ext hE11 _))) ?_
    refine wla rfl rfl (q_assign (v := (.bool ((!a0f)))) rfl rfl) ?_
    refine wl_nil ?_
    refine W_th ?_
    refine W_cond _ rfl rfl (fun hb12 => ?_) (fun hb12 => ?_)
    · replace H := (if_pos hb12).symm.trans H
      refine W_seq ?_
      refine W_reg (by kernel_rfl) ?_
      refine wla rfl rfl (q_assign (v := (i64 1)) rfl rfl) ?_
      refine wl_nil ?_
      refine W_th ?_
      refine W_ret ?_
      refine bk_r ?_
      refine th_r ?_
      obtain rfl := Option.some.inj H
      refine rt1 (i64 1) rfl rfl rfl s35_11 ?_
      exact ⟨rfl, hE11⟩
    · replace H := (if_neg (ne_true_of_eq_false hb12)).symm.trans H
      refine W_seq ?_
      refine W_reg (by kernel_rfl) ?_
      refine wla rfl rfl (q_move (v := p1) rfl s1_11) ?_
      refine wla rfl rfl (q_len rfl T22.sl rfl (hp1.lift (Lift.ext hE11 _))) ?_
      refine wla rfl rfl (q_eqI rfl rfl rfl) ?_
      refine wla rfl rfl (q_assign (v := (.bool ((decide ((a1xs.length : Int) = 0))))) rfl rfl) ?_
      refine wl_nil ?_
      refine W_th ?_
      refine W_cond _ rfl rfl (fun hb13 => ?_) (fun hb13 => ?_)
      · replace H := (if_pos (of_decide_eq_true hb13)).symm.trans H
        refine W_seq ?_
        refine W_reg (by kernel_rfl) ?_
        refine wla rfl rfl (q_assign (v := (i64 5)) rfl rfl) ?_
        refine wl_nil ?_
        refine W_th ?_
        refine W_ret ?_
        refine bk_r ?_
        refine th_r ?_
        obtain rfl := Option.some.inj H
        refine rt1 (i64 5) rfl rfl rfl s35_11 ?_
        exact ⟨rfl, hE11⟩
      · replace H := (if_neg (of_decide_eq_false hb13)).symm.trans H
        refine W_seq ?_
        refine W_reg (by kernel_rfl) ?_
        refine wla rfl rfl (q_move (v := p1) rfl s1_11) ?_
        refine wla rfl rfl (q_len rfl T22.sl rfl (hp1.lift (Lift.ext hE11 _))) ?_
        refine wla rfl rfl (q_gtI rfl rfl rfl) ?_
        refine wla rfl rfl (q_assign (v := (.bool ((decide (255 < (a1xs.length : Int)))))) rfl rfl) ?_
        refine wl_nil ?_
        refine W_th ?_
        refine W_cond _ rfl rfl (fun hb14 => ?_) (fun hb14 => ?_)
        · replace H := (if_pos (of_decide_eq_true hb14)).symm.trans H
          refine W_seq ?_
          refine W_reg (by kernel_rfl) ?_
          refine wla rfl rfl (q_assign (v := (i64 4)) rfl rfl) ?_
          refine wl_nil ?_
          refine W_th ?_
          refine W_ret ?_
          refine bk_r ?_
          refine th_r ?_
          obtain rfl := Option.some.inj H
          refine rt1 (i64 4) rfl rfl rfl s35_11 ?_
          exact ⟨rfl, hE11⟩
        · replace H := (if_neg (of_decide_eq_false hb14)).symm.trans H
          refine W_seq ?_
          refine W_reg (by kernel_rfl) ?_
          refine wla rfl rfl (q_move (v := (mp g1)) rfl s5_11) ?_
          refine wlq rfl rfl (q_lenMap rfl Try.underlying73 rfl o0_11) ?_
          refine wla rfl rfl (q_move (v := p1) rfl s1_11) ?_
          refine wla rfl rfl (q_len rfl T22.sl rfl (hp1.lift (Lift.ext hE11 _))) ?_
          refine wla rfl rfl (q_neI rfl rfl rfl) ?_
          refine wla rfl rfl (q_assign (v := (.bool ((!decide ((x4.length : Int) = (a1xs.length : Int)))))) rfl rfl) ?_
          refine wl_nil ?_
          refine W_th ?_
          refine W_cond _ rfl rfl (fun hb15 => ?_) (fun hb15 => ?_)
          · replace H := (if_neg (ndec_t hb15)).symm.trans H
            refine W_seq ?_
            refine W_reg (by kernel_rfl) ?_
            refine wla rfl rfl (q_assign (v := (i64 6)) rfl rfl) ?_
            refine wl_nil ?_
            refine W_th ?_
            refine W_ret ?_
            refine bk_r ?_
            refine th_r ?_
            obtain rfl := Option.some.inj H
            refine rt1 (i64 6) rfl rfl rfl s35_11 ?_
            exact ⟨rfl, hE11⟩
          · replace H := (if_pos (ndec_f hb15)).symm.trans H
            refine W_skip ?_
            refine bk_n ?_
            refine W_th ?_
            refine W_seq ?_
            refine W_reg (by kernel_rfl) ?_
            refine wla rfl rfl (q_assign (v := (i64 0)) rfl rfl) ?_
            refine wl_nil ?_
            refine W_th ?_
            refine W_ret ?_
            obtain rfl := Option.some.inj H
            refine rt1 (i64 0) rfl rfl rfl s35_11 ?_
            exact ⟨rfl, hE11⟩

/-! largesse/poly.Weights -/
noncomputable def poly_Weights (a0f : Bool) (a1xs : List UInt8) (a2x : UInt8) : Option (List UInt8 × Int) :=
((poly_check a0f a1xs).bind fun r1 =>
(if r1 = 0 then
((makeL ((a1xs.length : Int)) (0 : UInt8)).bind fun c4 =>
((iterC (fun s7 : List UInt8 × Int =>
(if s7.2 < (a1xs.length : Int) then
((idx a1xs s7.2).bind fun c10 =>
((iterC (fun s11 : UInt8 × UInt8 × Int =>
(if s11.2.2 < (a1xs.length : Int) then
((idx a1xs s11.2.2).bind fun c14 =>
(if s11.2.2 = s7.2 then some (.inl (s11.1, s11.2.1, (wI (s11.2.2 + 1))))
else
((field_Add a2x c14).bind fun r16 =>
((field_Mul a0f s11.1 r16).bind fun r18 =>
((field_Add c10 c14).bind fun r20 =>
((field_Mul a0f s11.2.1 r20).bind fun r22 => some (.inl (r18, r22, (wI (s11.2.2 + 1))))))))))
else some (.inr (s11.1, s11.2.1)))) ((1 : UInt8), (1 : UInt8), 0)).bind fun x11 =>
((field_Div a0f x11.1 x11.2).bind fun r26 =>
((idx s7.1 s7.2).bind fun c28 => some (.inl ((s7.1.set (s7.2 : Int).toNat r26.1), (wI (s7.2 + 1))))))))
else some (.inr s7.1))) (c4, 0)).bind fun x7 => some (x7, 0)))
else some (([] : List UInt8), r1)))
set_option maxRecDepth 100000 in
set_option maxHeartbeats 8000000 in
theorem poly_Weights_calls (a0f : Bool) (a1xs : List UInt8) (a2x : UInt8) (p0 : Value) (p1 : Value) (r : List UInt8 × Int) (w0 : World) (hp0 : Fd w0 [] p0 a0f) (hp1 : By w0 [] p1 a1xs) (H : poly_Weights a0f a1xs a2x = some r) :
    Calls Try.prog 31 [p0, p1, (u8 a2x)].toArray w0 (fun e w' => ∃ u0 : Value, e = .returned (.tuple #[u0, (i64 r.2)]) ∧ Ext w0 w' ∧ Nw w0 u0 ∧ OwK (Sc u8) w' [] 5 u0 r.1) := by
  have hE : Ext w0 w0 := Ext.refl w0
  unfold poly_Weights at H
  refine calls_W (n := 67) Try.func31 rfl rfl rfl ?_
  refine W_seq ?_
  refine W_reg (by kernel_rfl) ?_
  refine wla rfl rfl (q_assign (v := (.slice none 0 0)) rfl rfl) ?_
  refine wla rfl rfl (q_assign (v := (i64 0)) rfl rfl) ?_
  refine wl_nil ?_
  refine W_th ?_
  refine W_seq ?_
  refine W_seq ?_
  refine W_reg (by kernel_rfl) ?_
  refine wla rfl rfl (q_move (v := p0) rfl rfl) ?_
  refine wla rfl rfl (q_move (v := p1) rfl rfl) ?_
  obtain ⟨r1, hr1, H⟩ := Option.bind_eq_some_iff.1 H
  refine wls rfl rfl (stp_call (vs := [p0, p1]) Try.func69 rfl rfl rfl (ar2 rfl rfl) (poly_check_calls a0f a1xs p0 p1 r1 _ (hp0.lift (Lift.ext hE _)) (hp1.lift (Lift.ext hE _)) hr1) ?_)
  rintro _ w1 ⟨rfl, x1⟩
  refine ⟨_, rfl, ?_⟩
  have e2 := hE.trans x1
  refine wla rfl rfl (q_assign (v := (i64 r1)) rfl rfl) ?_
  refine wl_nil ?_
  refine W_th ?_
  refine W_seq ?_
  refine W_reg (by kernel_rfl) ?_
  refine wla rfl rfl (q_move (v := (i64 r1)) rfl rfl) ?_
  refine wla rfl rfl (q_neI rfl rfl rfl) ?_
  refine wl_nil ?_
  refine W_th ?_
  refine W_cond _ rfl rfl (fun hb3 => ?_) (fun hb3 => ?_)
  · replace H := (if_neg (ndec_t hb3)).symm.trans H
    refine W_seq ?_
    refine W_reg (by kernel_rfl) ?_
    refine wla rfl rfl (q_move (v := (i64 r1)) rfl rfl) ?_
    refine wla rfl rfl (q_assign (v := (.slice none 0 0)) rfl rfl) ?_
    refine wla rfl rfl (q_assign (v := (i64 r1)) rfl rfl) ?_
    refine wl_nil ?_
    refine W_th ?_
    refine W_ret ?_
    refine th_r ?_
    obtain rfl := Option.some.inj H
    refine rt2 (.slice none 0 0) (i64 r1) rfl rfl rfl rfl rfl rfl ?_
    exact ⟨(.slice none 0 0), rfl, e2, Nw.nil _, (OwK.nil _ _ _ _)⟩
  · replace H := (if_pos (ndec_f hb3)).symm.trans H
    refine W_skip ?_
    refine W_th ?_
    refine W_seq ?_
    refine W_reg (by kernel_rfl) ?_
    refine wla rfl rfl (q_move (v := p1) rfl rfl) ?_
    refine wla rfl rfl (q_len rfl T22.sl rfl (hp1.lift (Lift.ext e2 _))) ?_
    obtain ⟨c4, hc4, H⟩ := Option.bind_eq_some_iff.1 H
    refine wls rfl rfl (stp_make (L := []) (R := (Sc u8)) rfl T22 rfl rfl hc4 (fun _ _ => rfl) ?_)
    intro v4 w4 o4 n4 g4 l4
    have x4 := grown_ext g4
    have n6 := Nw.ext e2 n4
    have e5 := e2.trans x4
    refine wla rfl rfl (q_assign (v := v4) rfl rfl) ?_
    refine wl_nil ?_
    refine W_th ?_
    refine W_seq ?_
    refine W_seq ?_
    refine W_reg (by kernel_rfl) ?_
    refine wla rfl rfl (q_move (v := p1) rfl rfl) ?_
    refine wla rfl rfl (q_len rfl T22.sl rfl (hp1.lift (Lift.ext e5 _))) ?_
    refine wla rfl rfl (q_move (v := (i64 0)) rfl rfl) ?_
    refine wl_nil ?_
    refine W_th ?_
    obtain ⟨x7, G7, H⟩ := Option.bind_eq_some_iff.1 H
    refine W_mid (fun f w => f 9 = v4 ∧ f 67 = undef ∧ Ext w0 w ∧ OwK (Sc u8) w [v4] 5 v4 x7 ∧ Nw w0 v4) ?_ ?_
    · refine W_block ?_
      refine W_loop (fun s7 f w => f 0 = p0 ∧ f 1 = p1 ∧ f 2 = (u8 a2x) ∧ f 9 = v4 ∧ f 25 = p1 ∧ f 26 = (i64 ((a1xs.length : Int))) ∧ f 27 = (i64 s7.2) ∧ f 67 = undef ∧ Ext w0 w ∧ OwK (Sc u8) w [v4] 5 v4 s7.1 ∧ Nw w0 v4) G7 ?_ ?_
      · exact ⟨rfl, rfl, rfl, rfl, rfl, rfl, rfl, rfl, e5, o4, n6⟩
      · rintro s7 _ _ w8 ⟨s0_8, s1_8, s2_8, s9_8, s25_8, s26_8, s27_8, s67_8, hE8, o0_8, n0_8⟩ H7 hr7
        refine W_seq ?_
        refine W_reg (by kernel_rfl) ?_
        refine wla rfl rfl (q_ltI rfl s27_8 s26_8) ?_
        refine wl_nil ?_
        refine W_th ?_
        refine W_seq ?_
        refine W_cond _ rfl rfl (fun hb9 => ?_) (fun hb9 => ?_)
        · replace H7 := (if_pos (of_decide_eq_true hb9)).symm.trans H7
          refine W_skip ?_
          refine W_th ?_
          refine W_seq ?_
          refine W_block ?_
          refine W_seq ?_
          refine W_reg (by kernel_rfl) ?_
          refine wla rfl rfl (q_move (v := (i64 s7.2)) rfl s27_8) ?_
          obtain ⟨c10, hc10, H7⟩ := Option.bind_eq_some_iff.1 H7
          refine wla rfl rfl (q_adr rfl T22 s25_8 s27_8 (hp1.lift (Lift.ext hE8 _)) hc10) ?_
          refine wlq rfl rfl (q_loadS rfl T22 rfl (hp1.lift (Lift.ext hE8 _)) hc10) ?_
          refine wla rfl rfl (q_assign (v := (i64 s7.2)) rfl rfl) ?_
          refine wla rfl rfl (q_assign (v := (u8 c10)) rfl rfl) ?_
          refine wl_nil ?_
          refine W_th ?_
          refine W_seq ?_
          refine W_reg (by kernel_rfl) ?_
          refine wla rfl rfl (q_assign (v := (u8 1)) rfl (cst8 (1 : UInt8) rfl)) ?_
          refine wla rfl rfl (q_assign (v := (u8 1)) rfl (cst8 (1 : UInt8) rfl)) ?_
          refine wl_nil ?_
          refine W_th ?_
          refine W_seq ?_
          refine W_seq ?_
          refine W_reg (by kernel_rfl) ?_
          refine wla rfl rfl (q_move (v := p1) rfl s1_8) ?_
          refine wla rfl rfl (q_len rfl T22.sl rfl (hp1.lift (Lift.ext hE8 _))) ?_
          refine wla rfl rfl (q_move (v := (i64 0)) rfl rfl) ?_
          refine wl_nil ?_
          refine W_th ?_
          obtain ⟨x11, G11, H7⟩ := Option.bind_eq_some_iff.1 H7
          refine W_mid (fun f w => f 0 = p0 ∧ f 1 = p1 ∧ f 2 = (u8 a2x) ∧ f 9 = v4 ∧ f 10 = (i64 s7.2) ∧ f 12 = (u8 x11.1) ∧ f 13 = (u8 x11.2) ∧ f 25 = p1 ∧ f 26 = (i64 ((a1xs.length : Int))) ∧ f 27 = (i64 s7.2) ∧ f 67 = undef ∧ Ext w0 w ∧ OwK (Sc u8) w [v4] 5 v4 s7.1 ∧ Nw w0 v4) ?_ ?_
          · refine W_block ?_
            refine W_loop (fun s11 f w => f 0 = p0 ∧ f 1 = p1 ∧ f 2 = (u8 a2x) ∧ f 9 = v4 ∧ f 10 = (i64 s7.2) ∧ f 11 = (u8 c10) ∧ f 12 = (u8 s11.1) ∧ f 13 = (u8 s11.2.1) ∧ f 25 = p1 ∧ f 26 = (i64 ((a1xs.length : Int))) ∧ f 27 = (i64 s7.2) ∧ f 32 = p1 ∧ f 33 = (i64 ((a1xs.length : Int))) ∧ f 34 = (i64 s11.2.2) ∧ f 67 = undef ∧ Ext w0 w ∧ OwK (Sc u8) w [v4] 5 v4 s7.1 ∧ Nw w0 v4) G11 ?_ ?_
            · exact ⟨s0_8, s1_8, s2_8, s9_8, rfl, rfl, rfl, rfl, s25_8, s26_8, s27_8, rfl, rfl, rfl, s67_8, hE8, o0_8, n0_8⟩
            · rintro s11 _ _ w12 ⟨s0_12, s1_12, s2_12, s9_12, s10_12, s11_12, s12_12, s13_12, s25_12, s26_12, s27_12, s32_12, s33_12, s34_12, s67_12, hE12, o0_12, n0_12⟩ H11 hr11
              refine W_seq ?_
              refine W_reg (by kernel_rfl) ?_
              refine wla rfl rfl (q_ltI rfl s34_12 s33_12) ?_
              refine wl_nil ?_
              refine W_th ?_
              refine W_seq ?_
              refine W_cond _ rfl rfl (fun hb13 => ?_) (fun hb13 => ?_)
              · replace H11 := (if_pos (of_decide_eq_true hb13)).symm.trans H11
                refine W_skip ?_
                refine W_th ?_
                refine W_seq ?_
                refine W_block ?_
                refine W_seq ?_
                refine W_reg (by kernel_rfl) ?_
                refine wla rfl rfl (q_move (v := (i64 s11.2.2)) rfl s34_12) ?_
                obtain ⟨c14, hc14, H11⟩ := Option.bind_eq_some_iff.1 H11
                refine wla rfl rfl (q_adr rfl T22 s32_12 s34_12 (hp1.lift (Lift.ext hE12 _)) hc14) ?_
                refine wlq rfl rfl (q_loadS rfl T22 rfl (hp1.lift (Lift.ext hE12 _)) hc14) ?_
                refine wla rfl rfl (q_assign (v := (i64 s11.2.2)) rfl rfl) ?_
                refine wla rfl rfl (q_assign (v := (u8 c14)) rfl rfl) ?_
                refine wl_nil ?_
                refine W_th ?_
                refine W_seq ?_
                refine W_reg (by kernel_rfl) ?_
                refine wla rfl rfl (q_move (v := (i64 s11.2.2)) rfl rfl) ?_
                refine wla rfl rfl (q_move (v := (i64 s7.2)) rfl s10_12) ?_
                refine wla rfl rfl (q_neI rfl rfl rfl) ?_
                refine wl_nil ?_
                refine W_th ?_
                refine W_cond _ rfl rfl (fun hb15 => ?_) (fun hb15 => ?_)
                · replace H11 := (if_neg (ndec_t hb15)).symm.trans H11
                  refine W_reg (by kernel_rfl) ?_
                  refine wla rfl rfl (q_move (v := p0) rfl s0_12) ?_
                  refine wla rfl rfl (q_move (v := (u8 s11.1)) rfl s12_12) ?_
                  refine wla rfl rfl (q_move (v := (u8 a2x)) rfl s2_12) ?_
                  refine wla rfl rfl (q_move (v := (u8 c14)) rfl rfl) ?_
                  obtain ⟨r16, hr16, H11⟩ := Option.bind_eq_some_iff.1 H11
                  refine wls rfl rfl (stp_call (vs := [(u8 a2x), (u8 c14)]) Try.func22 rfl rfl rfl (ar2 rfl rfl) (field_Add_calls a2x c14  r16 _  hr16) ?_)
                  rintro _ w16 ⟨rfl, x16⟩
                  refine ⟨_, rfl, ?_⟩
                  replace o0_12 := o0_12.extL (Sc.stab _) x16 (Lift.ext x16 _)
                  have e17 := hE12.trans x16
                  obtain ⟨r18, hr18, H11⟩ := Option.bind_eq_some_iff.1 H11
                  refine wls rfl rfl (stp_call (vs := [p0, (u8 s11.1), (u8 r16)]) Try.func23 rfl rfl rfl (ar3 rfl rfl rfl) (field_Mul_calls a0f s11.1 r16 p0 r18 _ (hp0.lift (Lift.ext e17 _)) hr18) ?_)
                  rintro _ w18 ⟨rfl, x18⟩
                  refine ⟨_, rfl, ?_⟩
                  replace o0_12 := o0_12.extL (Sc.stab _) x18 (Lift.ext x18 _)
                  have e19 := e17.trans x18
                  refine wla rfl rfl (q_move (v := p0) rfl s0_12) ?_
                  refine wla rfl rfl (q_move (v := (u8 s11.2.1)) rfl s13_12) ?_
                  refine wla rfl rfl (q_move (v := (u8 c10)) rfl s11_12) ?_
                  refine wla rfl rfl (q_move (v := (u8 c14)) rfl rfl) ?_
                  obtain ⟨r20, hr20, H11⟩ := Option.bind_eq_some_iff.1 H11
                  refine wls rfl rfl (stp_call (vs := [(u8 c10), (u8 c14)]) Try.func22 rfl rfl rfl (ar2 rfl rfl) (field_Add_calls c10 c14  r20 _  hr20) ?_)
                  rintro _ w20 ⟨rfl, x20⟩
                  refine ⟨_, rfl, ?_⟩
                  replace o0_12 := o0_12.extL (Sc.stab _) x20 (Lift.ext x20 _)
                  have e21 := e19.trans x20
                  obtain ⟨r22, hr22, H11⟩ := Option.bind_eq_some_iff.1 H11
                  refine wls rfl rfl (stp_call (vs := [p0, (u8 s11.2.1), (u8 r20)]) Try.func23 rfl rfl rfl (ar3 rfl rfl rfl) (field_Mul_calls a0f s11.2.1 r20 p0 r22 _ (hp0.lift (Lift.ext e21 _)) hr22) ?_)
                  rintro _ w22 ⟨rfl, x22⟩
                  refine ⟨_, rfl, ?_⟩
                  replace o0_12 := o0_12.extL (Sc.stab _) x22 (Lift.ext x22 _)
                  have e23 := e21.trans x22
                  refine wla rfl rfl (q_assign (v := (u8 r18)) rfl rfl) ?_
                  refine wla rfl rfl (q_assign (v := (u8 r22)) rfl rfl) ?_
                  refine wl_nil ?_
                  refine bk_n ?_
                  refine W_th ?_
                  refine W_reg (by kernel_rfl) ?_
                  refine wla rfl rfl (q_addI rfl s34_12 rfl) ?_
                  refine wla rfl rfl (q_move (v := (i64 ((wI (s11.2.2 + 1))))) rfl rfl) ?_
                  refine wl_nil ?_
                  obtain rfl := Option.some.inj H11
                  exact ⟨_, rfl, s0_12, s1_12, s2_12, s9_12, s10_12, s11_12, rfl, rfl, s25_12, s26_12, s27_12, s32_12, s33_12, rfl, s67_12, e23, o0_12, n0_12⟩
                · replace H11 := (if_pos (ndec_f hb15)).symm.trans H11
                  refine W_skip ?_
                  refine bk_n ?_
                  refine W_th ?_
                  refine W_reg (by kernel_rfl) ?_
                  refine wla rfl rfl (q_addI rfl s34_12 rfl) ?_
                  refine wla rfl rfl (q_move (v := (i64 ((wI (s11.2.2 + 1))))) rfl rfl) ?_
                  refine wl_nil ?_
                  obtain rfl := Option.some.inj H11
                  exact ⟨_, rfl, s0_12, s1_12, s2_12, s9_12, s10_12, s11_12, s12_12, s13_12, s25_12, s26_12, s27_12, s32_12, s33_12, rfl, s67_12, hE12, o0_12, n0_12⟩
              · replace H11 := (if_neg (of_decide_eq_false hb13)).symm.trans H11
                refine W_exit ?_
                refine th_x ?_
                obtain rfl := Option.some.inj H11
                obtain rfl := hr11 _ rfl
                refine th_x ?_
                refine bk_x ?_
                exact ⟨s0_12, s1_12, s2_12, s9_12, s10_12, s12_12, s13_12, s25_12, s26_12, s27_12, s67_12, hE12, o0_12, n0_12⟩
          · rintro _ w25 ⟨s0_25, s1_25, s2_25, s9_25, s10_25, s12_25, s13_25, s25_25, s26_25, s27_25, s67_25, hE25, o0_25, n0_25⟩
            refine W_th ?_
            refine W_reg (by kernel_rfl) ?_
            refine wla rfl rfl (q_move (v := v4) rfl s9_25) ?_
            refine wla rfl rfl (q_move (v := (i64 s7.2)) rfl s10_25) ?_
            refine wla rfl rfl (q_move (v := p0) rfl s0_25) ?_
            refine wla rfl rfl (q_move (v := (u8 x11.1)) rfl s12_25) ?_
            refine wla rfl rfl (q_move (v := (u8 x11.2)) rfl s13_25) ?_
            obtain ⟨r26, hr26, H7⟩ := Option.bind_eq_some_iff.1 H7
            refine wls rfl rfl (stp_call (vs := [p0, (u8 x11.1), (u8 x11.2)]) Try.func70 rfl rfl rfl (ar3 rfl rfl rfl) (field_Div_calls a0f x11.1 x11.2 p0 r26 _ (hp0.lift (Lift.ext hE25 _)) hr26) ?_)
            rintro _ w26 ⟨rfl, x26⟩
            refine ⟨_, rfl, ?_⟩
            replace o0_25 := o0_25.extL (Sc.stab _) x26 (Lift.ext x26 _)
            have e27 := hE25.trans x26
            refine wla rfl rfl (q_move (v := (.tuple #[(u8 r26.1), (i64 r26.2)])) rfl rfl) ?_
            refine wla rfl rfl (q_extract rfl rfl rfl) ?_
            refine wla rfl rfl (q_extract rfl rfl rfl) ?_
            obtain ⟨c28, hc28, H7⟩ := Option.bind_eq_some_iff.1 H7
            refine wla rfl rfl (q_adr rfl T22 rfl rfl (o0_25.rd (Sc.stab _)) hc28) ?_
            refine wln rfl rfl (stp_store (R := (Sc u8)) (u := (u8 r26.1)) (Sc.stab _) [] [] rfl T22 rfl rfl o0_25 (put_of r26.1 hc28) rfl rfl ?_)
            intro w29 o29 g29 l29
            have e30 := e27.grown g29 n0_25
            refine wl_nil ?_
            refine bk_n ?_
            refine W_th ?_
            refine W_reg (by kernel_rfl) ?_
            refine wla rfl rfl (q_addI rfl s27_25 rfl) ?_
            refine wla rfl rfl (q_move (v := (i64 ((wI (s7.2 + 1))))) rfl rfl) ?_
            refine wl_nil ?_
            obtain rfl := Option.some.inj H7
            exact ⟨_, rfl, s0_25, s1_25, s2_25, s9_25, s25_25, s26_25, rfl, s67_25, e30, o29, n0_25⟩
        · replace H7 := (if_neg (of_decide_eq_false hb9)).symm.trans H7
          refine W_exit ?_
          refine th_x ?_
          obtain rfl := Option.some.inj H7
          obtain rfl := hr7 _ rfl
          refine th_x ?_
          refine bk_x ?_
          exact ⟨s9_8, s67_8, hE8, o0_8, n0_8⟩
    · rintro _ w33 ⟨s9_33, s67_33, hE33, o0_33, n0_33⟩
      refine W_th ?_
      refine W_seq ?_
      refine W_reg (by kernel_rfl) ?_
      refine wla rfl rfl (q_move (v := v4) rfl s9_33) ?_
      refine wla rfl rfl (q_assign (v := v4) rfl rfl) ?_
      refine wla rfl rfl (q_assign (v := (i64 0)) rfl rfl) ?_
      refine wl_nil ?_
      refine W_th ?_
      refine W_ret ?_
      obtain rfl := Option.some.inj H
      refine rt2 v4 (i64 0) rfl rfl rfl rfl rfl s67_33 ?_
      exact ⟨v4, rfl, hE33, n0_33, (o0_33.weak (Sc.stab _) (fun _ _ => trivial))⟩

/-! largesse/poly.Through -/
noncomputable def poly_Through (a0f : Bool) (a1xs : List UInt8) (a2ys : List UInt8) : Option (List UInt8 × Int) :=
(if (a1xs.length : Int) = (a2ys.length : Int) then
((poly_check a0f a1xs).bind fun r9 =>
(if r9 = 0 then
((slices_Clone_sbytebyte a2ys).bind fun r12 =>
((iterC (fun s17 : List UInt8 × Int =>
(if s17.2 < (s17.1.length : Int) then
((iterC (fun s20 : List UInt8 × Int =>
(if s17.2 ≤ s20.2 then
((idx s20.1 s20.2).bind fun c25 =>
((idx s20.1 ((wI (s20.2 - 1)))).bind fun c26 =>
((idx a1xs s20.2).bind fun c27 =>
((idx a1xs ((wI (s20.2 - s17.2)))).bind fun c28 =>
((field_Add c25 c26).bind fun r29 =>
((field_Add c27 c28).bind fun r31 =>
((field_Div a0f r29 r31).bind fun r33 => some (.inl ((s20.1.set (s20.2 : Int).toNat r33.1), (wI (s20.2 - 1)))))))))))
else some (.inr s20.1))) (s17.1, (wI ((s17.1.length : Int) - 1)))).bind fun x20 => some (.inl (x20, (wI (s17.2 + 1)))))
else some (.inr s17.1))) (r12, 1)).bind fun x17 =>
((lim x17.length).bind fun lim55 =>
((rangeL (fun (s55 : List UInt8) (y55 : (Int × UInt8)) =>
((idx a1xs y55.1).bind fun c61 =>
((poly_Mul a0f s55 ([c61, (1 : UInt8)] : List UInt8)).bind fun r65 =>
((poly_Add r65.1 ([y55.2] : List UInt8)).bind fun r81 => some r81)))) (revI x17) ([] : List UInt8)).bind fun x55 => some (x55, 0)))))
else some (([] : List UInt8), r9)))
else some (([] : List UInt8), 1))
set_option maxRecDepth 100000 in
set_option maxHeartbeats 8000000 in
theorem poly_Through_calls (a0f : Bool) (a1xs : List UInt8) (a2ys : List UInt8) (p0 : Value) (p1 : Value) (p2 : Value) (r : List UInt8 × Int) (w0 : World) (hp0 : Fd w0 [] p0 a0f) (hp1 : By w0 [] p1 a1xs) (hp2 : By w0 [] p2 a2ys) (H : poly_Through a0f a1xs a2ys = some r) :
    Calls Try.prog 32 [p0, p1, p2].toArray w0 (fun e w' => ∃ u0 : Value, e = .returned (.tuple #[u0, (i64 r.2)]) ∧ Ext w0 w' ∧ Nw w0 u0 ∧ OwK (Sc u8) w' [] 5 u0 r.1) := by
  have hE : Ext w0 w0 := Ext.refl w0
  unfold poly_Through at H
  refine calls_W (n := 91) Try.func32 rfl rfl rfl ?_
  refine W_seq ?_
  refine W_reg (by kernel_rfl) ?_
  refine wls rfl rfl (stp_boxL (v := p0) (cs := #[p0]) [] rfl rfl (cells_fd (hp0.lift (Lift.ext hE _))) ?_)
  intro g1 w1 o1 n1 g1r l1
  have x1 := grown_ext g1r
  have n3 := Nw.ext hE n1
  have e2 := hE.trans x1
  refine wls rfl rfl (stp_boxL (v := p1) (cs := #[p1]) [(bp g1)] rfl rfl (cells_sl _ _ (hp1.lift (Lift.ext e2 _))) ?_)
  intro g4 w4 o4 n4 g4r l4
  have x4 := grown_ext g4r
  have q5 : Nq (bp g1) (bp g4) := o1.nq n4
  replace o1 := o1.ext x4
  have n7 := Nw.ext e2 n4
  have e6 := e2.trans x4
  refine wla rfl rfl (q_assign (v := (.slice none 0 0)) rfl rfl) ?_
  refine wla rfl rfl (q_assign (v := (i64 0)) rfl rfl) ?_
  refine wl_nil ?_
  refine W_th ?_
  refine W_seq ?_
  refine W_seq ?_
  refine W_reg (by kernel_rfl) ?_
  refine wlq rfl rfl (q_loadB (u := p1) rfl Try.isAgg22 rfl o4 rfl) ?_
  refine wla rfl rfl (q_len rfl T22.sl rfl (hp1.lift (Lift.ext e6 _))) ?_
  refine wla rfl rfl (q_move (v := p2) rfl rfl) ?_
  refine wla rfl rfl (q_len rfl T22.sl rfl (hp2.lift (Lift.ext e6 _))) ?_
  refine wla rfl rfl (q_neI rfl rfl rfl) ?_
  refine wl_nil ?_
  refine W_th ?_
  refine W_cond _ rfl rfl (fun hb8 => ?_) (fun hb8 => ?_)
  · replace H := (if_neg (ndec_t hb8)).symm.trans H
    refine W_seq ?_
    refine W_reg (by kernel_rfl) ?_
    refine wla rfl rfl (q_assign (v := (.slice none 0 0)) rfl rfl) ?_
    refine wla rfl rfl (q_assign (v := (i64 1)) rfl rfl) ?_
    refine wl_nil ?_
    refine W_th ?_
    refine W_ret ?_
    refine th_r ?_
    obtain rfl := Option.some.inj H
    refine rt2 (.slice none 0 0) (i64 1) rfl rfl rfl rfl rfl rfl ?_
    exact ⟨(.slice none 0 0), rfl, e6, Nw.nil _, (OwK.nil _ _ _ _)⟩
  · replace H := (if_pos (ndec_f hb8)).symm.trans H
    refine W_skip ?_
    refine W_th ?_
    refine W_seq ?_
    refine W_seq ?_
    refine W_reg (by kernel_rfl) ?_
    refine wlq rfl rfl (q_loadB (u := p0) rfl Try.isAgg24 rfl o1 rfl) ?_
    refine wlq rfl rfl (q_loadB (u := p1) rfl Try.isAgg22 rfl o4 rfl) ?_
    obtain ⟨r9, hr9, H⟩ := Option.bind_eq_some_iff.1 H
    refine wls rfl rfl (stp_call (vs := [p0, p1]) Try.func69 rfl rfl rfl (ar2 rfl rfl) (poly_check_calls a0f a1xs p0 p1 r9 _ (hp0.lift (Lift.ext e6 _)) (hp1.lift (Lift.ext e6 _)) hr9) ?_)
    rintro _ w9 ⟨rfl, x9⟩
    refine ⟨_, rfl, ?_⟩
    replace o4 := o4.ext x9
    replace o1 := o1.ext x9
    have e10 := e6.trans x9
    refine wla rfl rfl (q_assign (v := (i64 r9)) rfl rfl) ?_
    refine wl_nil ?_
    refine W_th ?_
    refine W_seq ?_
    refine W_reg (by kernel_rfl) ?_
    refine wla rfl rfl (q_move (v := (i64 r9)) rfl rfl) ?_
    refine wla rfl rfl (q_neI rfl rfl rfl) ?_
    refine wl_nil ?_
    refine W_th ?_
    refine W_cond _ rfl rfl (fun hb11 => ?_) (fun hb11 => ?_)
    · replace H := (if_neg (ndec_t hb11)).symm.trans H
      refine W_seq ?_
      refine W_reg (by kernel_rfl) ?_
      refine wla rfl rfl (q_move (v := (i64 r9)) rfl rfl) ?_
      refine wla rfl rfl (q_assign (v := (.slice none 0 0)) rfl rfl) ?_
      refine wla rfl rfl (q_assign (v := (i64 r9)) rfl rfl) ?_
      refine wl_nil ?_
      refine W_th ?_
      refine W_ret ?_
      refine th_r ?_
      obtain rfl := Option.some.inj H
      refine rt2 (.slice none 0 0) (i64 r9) rfl rfl rfl rfl rfl rfl ?_
      exact ⟨(.slice none 0 0), rfl, e10, Nw.nil _, (OwK.nil _ _ _ _)⟩
    · replace H := (if_pos (ndec_f hb11)).symm.trans H
      refine W_skip ?_
      refine W_th ?_
      refine W_seq ?_
      refine W_reg (by kernel_rfl) ?_
      refine wla rfl rfl (q_move (v := p2) rfl rfl) ?_
      obtain ⟨r12, hr12, H⟩ := Option.bind_eq_some_iff.1 H
      refine wls rfl rfl (stp_call (vs := [p2]) Try.func67 rfl rfl rfl (ar1 rfl) (slices_Clone_sbytebyte_calls a2ys p2 r12 _ (hp2.lift (Lift.ext e10 _)) hr12) ?_)
      rintro _ w12 ⟨v12, rfl, x12, n12_0, o12_0⟩
      refine ⟨_, rfl, ?_⟩
      have o12 : OwK (Sc u8) w12 (v12 :: [(bp g4), (bp g1)]) 5 v12 r12 := OwK.scal o12_0 _
      have q13 : Nq (bp g4) v12 := o4.nq n12_0
      have q14 : Nq (bp g1) v12 := o1.nq n12_0
      replace o4 := o4.ext x12
      replace o1 := o1.ext x12
      have n16 := Nw.ext e10 n12_0
      have e15 := e10.trans x12
      refine wla rfl rfl (q_assign (v := v12) rfl rfl) ?_
      refine wl_nil ?_
      refine W_th ?_
      refine W_seq ?_
      refine W_seq ?_
      refine W_reg (by kernel_rfl) ?_
      refine wla rfl rfl (q_assign (v := (i64 1)) rfl rfl) ?_
      refine wl_nil ?_
      refine W_th ?_
      obtain ⟨x17, G17, H⟩ := Option.bind_eq_some_iff.1 H
      refine W_mid (fun f w => f 3 = (bp g1) ∧ f 4 = (bp g4) ∧ f 9 = v12 ∧ f 91 = undef ∧ Ext w0 w ∧ OwK (Sc u8) w [v12, (bp g1), (bp g4)] 5 v12 x17 ∧ Nw w0 v12 ∧ Blk w g1 24 #[p0] ∧ Nw w0 (bp g1) ∧ Blk w g4 22 #[p1] ∧ Nw w0 (bp g4) ∧ Nq v12 (bp g1) ∧ Nq v12 (bp g4) ∧ Nq (bp g1) (bp g4)) ?_ ?_
      · refine W_block ?_
        refine W_loop (fun s17 f w => f 3 = (bp g1) ∧ f 4 = (bp g4) ∧ f 9 = v12 ∧ f 10 = (i64 s17.2) ∧ f 91 = undef ∧ Ext w0 w ∧ OwK (Sc u8) w [v12, (bp g1), (bp g4)] 5 v12 s17.1 ∧ Nw w0 v12 ∧ Blk w g1 24 #[p0] ∧ Nw w0 (bp g1) ∧ Blk w g4 22 #[p1] ∧ Nw w0 (bp g4) ∧ Nq v12 (bp g1) ∧ Nq v12 (bp g4) ∧ Nq (bp g1) (bp g4)) G17 ?_ ?_
        · exact ⟨rfl, rfl, rfl, rfl, rfl, e15, (o12.weak (Sc.stab _) (fun _ h => ⟨h.1, h.2.2.1, h.2.1, trivial⟩)), n16, o1, n3, o4, n7, q14.symm, q13.symm, q5⟩
        · rintro s17 _ _ w18 ⟨s3_18, s4_18, s9_18, s10_18, s91_18, hE18, o0_18, n0_18, o1_18, n1_18, o2_18, n2_18, q0_1_18, q0_2_18, q1_2_18⟩ H17 hr17
          refine W_seq ?_
          refine W_seq ?_
          refine W_reg (by kernel_rfl) ?_
          refine wla rfl rfl (q_move (v := (i64 s17.2)) rfl s10_18) ?_
          refine wla rfl rfl (q_move (v := v12) rfl s9_18) ?_
          refine wla rfl rfl (q_len rfl T22.sl rfl (o0_18.rd (Sc.stab _))) ?_
          refine wla rfl rfl (q_ltI rfl rfl rfl) ?_
          refine wl_nil ?_
          refine W_th ?_
          refine W_cond _ rfl rfl (fun hb19 => ?_) (fun hb19 => ?_)
          · replace H17 := (if_pos (of_decide_eq_true hb19)).symm.trans H17
            refine W_skip ?_
            refine W_th ?_
            refine W_seq ?_
            refine W_block ?_
            refine W_seq ?_
            refine W_reg (by kernel_rfl) ?_
            refine wla rfl rfl (q_move (v := v12) rfl s9_18) ?_
            refine wla rfl rfl (q_len rfl T22.sl rfl (o0_18.rd (Sc.stab _))) ?_
            refine wla rfl rfl (q_subI rfl rfl rfl) ?_
            refine wla rfl rfl (q_assign (v := (i64 ((wI ((s17.1.length : Int) - 1))))) rfl rfl) ?_
            refine wl_nil ?_
            refine W_th ?_
            obtain ⟨x20, G20, H17⟩ := Option.bind_eq_some_iff.1 H17
            refine W_mid (fun f w => f 3 = (bp g1) ∧ f 4 = (bp g4) ∧ f 9 = v12 ∧ f 10 = (i64 s17.2) ∧ f 91 = undef ∧ Ext w0 w ∧ OwK (Sc u8) w [v12, (bp g1), (bp g4)] 5 v12 x20 ∧ Nw w0 v12 ∧ Blk w g1 24 #[p0] ∧ Nw w0 (bp g1) ∧ Blk w g4 22 #[p1] ∧ Nw w0 (bp g4) ∧ Nq v12 (bp g1) ∧ Nq v12 (bp g4) ∧ Nq (bp g1) (bp g4)) ?_ ?_
            · refine W_block ?_
              refine W_loop (fun s20 f w => f 3 = (bp g1) ∧ f 4 = (bp g4) ∧ f 9 = v12 ∧ f 10 = (i64 s17.2) ∧ f 11 = (i64 s20.2) ∧ f 91 = undef ∧ Ext w0 w ∧ OwK (Sc u8) w [v12, (bp g1), (bp g4)] 5 v12 s20.1 ∧ Nw w0 v12 ∧ Blk w g1 24 #[p0] ∧ Nw w0 (bp g1) ∧ Blk w g4 22 #[p1] ∧ Nw w0 (bp g4) ∧ Nq v12 (bp g1) ∧ Nq v12 (bp g4) ∧ Nq (bp g1) (bp g4)) G20 ?_ ?_
              · exact ⟨s3_18, s4_18, s9_18, s10_18, rfl, s91_18, hE18, o0_18, n0_18, o1_18, n1_18, o2_18, n2_18, q0_1_18, q0_2_18, q1_2_18⟩
              · rintro s20 _ _ w21 ⟨s3_21, s4_21, s9_21, s10_21, s11_21, s91_21, hE21, o0_21, n0_21, o1_21, n1_21, o2_21, n2_21, q0_1_21, q0_2_21, q1_2_21⟩ H20 hr20
                refine W_seq ?_
                refine W_seq ?_
                refine W_reg (by kernel_rfl) ?_
                refine wla rfl rfl (q_move (v := (i64 s20.2)) rfl s11_21) ?_
                refine wla rfl rfl (q_move (v := (i64 s17.2)) rfl s10_21) ?_
                refine wla rfl rfl (q_geI rfl rfl rfl) ?_
                refine wl_nil ?_
                refine W_th ?_
                refine W_cond _ rfl rfl (fun hb22 => ?_) (fun hb22 => ?_)
                · replace H20 := (if_pos (of_decide_eq_true hb22)).symm.trans H20
                  refine W_skip ?_
                  refine W_th ?_
                  refine W_seq ?_
                  refine W_block ?_
                  refine W_draw [2, 6, 11, 13, 16, 17, 22] [(0, 0), (1, 0), (2, 1), (3, 0), (4, 0), (5, 0), (6, 1), (7, 0), (8, 0), (9, 0), (10, 0), (11, 1), (13, 1), (14, 0), (15, 0), (16, 1), (17, 1), (18, 0), (19, 0), (20, 0), (21, 0), (22, 1), (12, 2), (23, 2), (24, 2), (25, 0), (26, 0), (27, 0), (28, 0), (29, 2)] mixed (by kernel_rfl) (by kernel_rfl) (by kernel_rfl) (by kernel_rfl) ?_
                  have x23 := Ext.drew w21
                  replace o0_21 := o0_21.extL (Sc.stab _) x23 (Lift.ext x23 _)
                  replace o1_21 := o1_21.ext x23
                  replace o2_21 := o2_21.ext x23
                  have e24 := hE21.trans x23
                  refine wsa rfl rfl rfl (q_move (v := v12) rfl s9_21) ?_
                  refine wsa rfl rfl rfl (q_move (v := (i64 s20.2)) rfl s11_21) ?_
                  refine wsq rfl rfl rfl (q_loadB (u := p0) rfl Try.isAgg24 s3_21 o1_21 rfl) ?_
                  refine wsa rfl rfl rfl (q_move (v := v12) rfl s9_21) ?_
                  refine wsa rfl rfl rfl (q_move (v := (i64 s20.2)) rfl s11_21) ?_
                  obtain ⟨c25, hc25, H20⟩ := Option.bind_eq_some_iff.1 H20
                  refine wsa rfl rfl rfl (q_adr rfl T22 rfl rfl (o0_21.rd (Sc.stab _)) hc25) ?_
                  refine wsq rfl rfl rfl (q_loadS rfl T22 rfl (o0_21.rd (Sc.stab _)) hc25) ?_
                  refine wsa rfl rfl rfl (q_move (v := v12) rfl s9_21) ?_
                  refine wsa rfl rfl rfl (q_move (v := (i64 s20.2)) rfl s11_21) ?_
                  refine wsa rfl rfl rfl (q_subI rfl rfl rfl) ?_
                  obtain ⟨c26, hc26, H20⟩ := Option.bind_eq_some_iff.1 H20
                  refine wsa rfl rfl rfl (q_adr rfl T22 rfl rfl (o0_21.rd (Sc.stab _)) hc26) ?_
                  refine wsq rfl rfl rfl (q_loadS rfl T22 rfl (o0_21.rd (Sc.stab _)) hc26) ?_
                  refine wsq rfl rfl rfl (q_loadB (u := p1) rfl Try.isAgg22 s4_21 o2_21 rfl) ?_
                  refine wsa rfl rfl rfl (q_move (v := (i64 s20.2)) rfl s11_21) ?_
                  obtain ⟨c27, hc27, H20⟩ := Option.bind_eq_some_iff.1 H20
                  refine wsa rfl rfl rfl (q_adr rfl T22 rfl rfl (hp1.lift (Lift.ext e24 _)) hc27) ?_
                  refine wsq rfl rfl rfl (q_loadS rfl T22 rfl (hp1.lift (Lift.ext e24 _)) hc27) ?_
                  refine wsq rfl rfl rfl (q_loadB (u := p1) rfl Try.isAgg22 s4_21 o2_21 rfl) ?_
                  refine wsa rfl rfl rfl (q_move (v := (i64 s20.2)) rfl s11_21) ?_
                  refine wsa rfl rfl rfl (q_move (v := (i64 s17.2)) rfl s10_21) ?_
                  refine wsa rfl rfl rfl (q_subI rfl rfl rfl) ?_
                  obtain ⟨c28, hc28, H20⟩ := Option.bind_eq_some_iff.1 H20
                  refine wsa rfl rfl rfl (q_adr rfl T22 rfl rfl (hp1.lift (Lift.ext e24 _)) hc28) ?_
                  refine wsq rfl rfl rfl (q_loadS rfl T22 rfl (hp1.lift (Lift.ext e24 _)) hc28) ?_
                  obtain ⟨r29, hr29, H20⟩ := Option.bind_eq_some_iff.1 H20
                  refine wss rfl rfl rfl (stp_call (vs := [(u8 c25), (u8 c26)]) Try.func22 rfl rfl rfl (ar2 rfl rfl) (field_Add_calls c25 c26  r29 _  hr29) ?_)
                  rintro _ w29 ⟨rfl, x29⟩
                  refine ⟨_, rfl, x29, ?_⟩
                  replace o0_21 := o0_21.extL (Sc.stab _) x29 (Lift.ext x29 _)
                  replace o1_21 := o1_21.ext x29
                  replace o2_21 := o2_21.ext x29
                  have e30 := e24.trans x29
                  obtain ⟨r31, hr31, H20⟩ := Option.bind_eq_some_iff.1 H20
                  refine wss rfl rfl rfl (stp_call (vs := [(u8 c27), (u8 c28)]) Try.func22 rfl rfl rfl (ar2 rfl rfl) (field_Add_calls c27 c28  r31 _  hr31) ?_)
                  rintro _ w31 ⟨rfl, x31⟩
                  refine ⟨_, rfl, x31, ?_⟩
                  replace o0_21 := o0_21.extL (Sc.stab _) x31 (Lift.ext x31 _)
                  replace o1_21 := o1_21.ext x31
                  replace o2_21 := o2_21.ext x31
                  have e32 := e30.trans x31
                  obtain ⟨r33, hr33, H20⟩ := Option.bind_eq_some_iff.1 H20
                  refine wsc rfl (by kernel_rfl) rfl rfl (stp_call (vs := [p0, (u8 r29), (u8 r31)]) Try.func70 rfl rfl rfl (ar3 rfl rfl rfl) (field_Div_calls a0f r29 r31 p0 r33 _ (hp0.lift (Lift.ext e32 _)) hr33) ?_)
                  rintro _ w33 ⟨rfl, x33⟩
                  refine ⟨_, rfl, ?_⟩
                  replace o0_21 := o0_21.extL (Sc.stab _) x33 (Lift.ext x33 _)
                  replace o1_21 := o1_21.ext x33
                  replace o2_21 := o2_21.ext x33
                  have e34 := e32.trans x33
                  refine wsa rfl rfl rfl (q_move (v := (.tuple #[(u8 r33.1), (i64 r33.2)])) rfl rfl) ?_
                  refine wsa rfl rfl rfl (q_extract rfl rfl rfl) ?_
                  refine wsa rfl rfl rfl (q_extract rfl rfl rfl) ?_
                  refine wsa rfl rfl rfl (q_adr rfl T22 rfl rfl (o0_21.rd (Sc.stab _)) hc25) ?_
                  refine wsn rfl (by kernel_rfl) rfl rfl (stp_store (R := (Sc u8)) (u := (u8 r33.1)) (Sc.stab _) [] [(bp g1), (bp g4)] rfl T22 rfl rfl o0_21 (put_of r33.1 hc25) rfl rfl ?_)
                  intro w35 o35 g35 l35
                  replace o1_21 := o1_21.other g35 q0_1_21.symm
                  replace o2_21 := o2_21.other g35 q0_2_21.symm
                  have e36 := e34.grown g35 n0_21
                  refine ws_nil ?_
                  refine bk_n ?_
                  refine W_th ?_
                  refine W_reg (by kernel_rfl) ?_
                  refine wla rfl rfl (q_move (v := (i64 s20.2)) rfl s11_21) ?_
                  refine wla rfl rfl (q_subI rfl rfl rfl) ?_
                  refine wla rfl rfl (q_assign (v := (i64 ((wI (s20.2 - 1))))) rfl rfl) ?_
                  refine wl_nil ?_
                  obtain rfl := Option.some.inj H20
                  exact ⟨_, rfl, s3_21, s4_21, s9_21, s10_21, rfl, s91_21, e36, o35, n0_21, o1_21, n1_21, o2_21, n2_21, q0_1_21, q0_2_21, q1_2_21⟩
                · replace H20 := (if_neg (of_decide_eq_false hb22)).symm.trans H20
                  refine W_exit ?_
                  refine th_x ?_
                  obtain rfl := Option.some.inj H20
                  obtain rfl := hr20 _ rfl
                  refine th_x ?_
                  refine bk_x ?_
                  exact ⟨s3_21, s4_21, s9_21, s10_21, s91_21, hE21, o0_21, n0_21, o1_21, n1_21, o2_21, n2_21, q0_1_21, q0_2_21, q1_2_21⟩
            · rintro _ w38 ⟨s3_38, s4_38, s9_38, s10_38, s91_38, hE38, o0_38, n0_38, o1_38, n1_38, o2_38, n2_38, q0_1_38, q0_2_38, q1_2_38⟩
              refine bk_n ?_
              refine W_th ?_
              refine W_reg (by kernel_rfl) ?_
              refine wla rfl rfl (q_move (v := (i64 s17.2)) rfl s10_38) ?_
              refine wla rfl rfl (q_addI rfl rfl rfl) ?_
              refine wla rfl rfl (q_assign (v := (i64 ((wI (s17.2 + 1))))) rfl rfl) ?_
              refine wl_nil ?_
              obtain rfl := Option.some.inj H17
              exact ⟨_, rfl, s3_38, s4_38, s9_38, rfl, s91_38, hE38, o0_38, n0_38, o1_38, n1_38, o2_38, n2_38, q0_1_38, q0_2_38, q1_2_38⟩
          · replace H17 := (if_neg (of_decide_eq_false hb19)).symm.trans H17
            refine W_exit ?_
            refine th_x ?_
            obtain rfl := Option.some.inj H17
            obtain rfl := hr17 _ rfl
            refine th_x ?_
            refine bk_x ?_
            exact ⟨s3_18, s4_18, s9_18, s91_18, hE18, o0_18, n0_18, o1_18, n1_18, o2_18, n2_18, q0_1_18, q0_2_18, q1_2_18⟩
      · rintro _ w41 ⟨s3_41, s4_41, s9_41, s91_41, hE41, o0_41, n0_41, o1_41, n1_41, o2_41, n2_41, q0_1_41, q0_2_41, q1_2_41⟩
        refine W_th ?_
        refine W_seq ?_
        refine W_reg (by kernel_rfl) ?_
        refine wls rfl rfl (stp_allocL (z := (.slice none 0 0)) (cs := #[(.slice none 0 0)]) [v12, (bp g1), (bp g4)] rfl Try.zeroValue22 rfl ?_)
        intro g42 w42 o42 n42 g42r l42
        have x42 := grown_ext g42r
        have q43 : Nq v12 (bp g42) := o0_41.nq n42
        have q44 : Nq (bp g1) (bp g42) := o1_41.nq n42
        have q45 : Nq (bp g4) (bp g42) := o2_41.nq n42
        replace o0_41 := o0_41.extL (Sc.stab _) x42 (Lift.call _ x42 n42)
        replace o1_41 := o1_41.ext x42
        replace o2_41 := o2_41.ext x42
        have n47 := Nw.ext hE41 n42
        have e46 := hE41.trans x42
        refine wl_nil ?_
        refine W_th ?_
        refine W_seq ?_
        refine W_seq ?_
        refine W_reg (by kernel_rfl) ?_
        refine wla rfl rfl (q_move (v := v12) rfl s9_41) ?_
        refine wls rfl rfl (stp_call (vs := [v12]) Try.func65 rfl rfl rfl (ar1 rfl) (Backward_callsG _ (cells_own o0_41) _) ?_)
        rintro _ w48 ⟨g48, rfl, n48, o48, x48⟩
        refine ⟨_, rfl, ?_⟩
        have q49 : Nq (bp g42) (bp g48) := o42.nq n48
        have q50 : Nq v12 (bp g48) := o0_41.nq n48
        have q51 : Nq (bp g1) (bp g48) := o1_41.nq n48
        have q52 : Nq (bp g4) (bp g48) := o2_41.nq n48
        replace o42 := o42.ext x48
        replace o0_41 := o0_41.extL (Sc.stab _) x48 (Lift.call _ x48 n48)
        replace o1_41 := o1_41.ext x48
        replace o2_41 := o2_41.ext x48
        have n54 := Nw.ext e46 n48
        have e53 := e46.trans x48
        refine wl_nil ?_
        refine W_th ?_
        refine W_block ?_
        obtain ⟨lim55, hl55, H⟩ := Option.bind_eq_some_iff.1 H
        obtain ⟨x55, G55, H⟩ := Option.bind_eq_some_iff.1 H
        refine W_rangeS (π := fun x : BwEl (· = x17) => x.1) (xs := (revI x17)) (ea := fun x => i64 x.1.1) (eb := fun x => u8 x.1.2) (Rd := RdB (· = x17) g48 v12) (gf := 91) (lb := #[(bp g48)]) G55 s91_41 rfl rfl (enters Try.func91 rfl rfl) ((revI_len _).symm) (backward_gen (· = x17) _ (fun l h => congrArg List.length h) v12 g48 _ ⟨o48, _, rfl, (o0_41.rd (Sc.stab _))⟩ (lim_lt hl55)) (fun ys h => bw_exact h) bw_mem (fun _ _ t h => h.tn t) rfl rfl (fun s55 w => ∃ vbbpg42_97 : Value, Ext w0 w ∧ OwK (Sc u8) w [vbbpg42_97, v12, (bp g1), (bp g4), (bp g42), (bp g48)] 5 vbbpg42_97 s55 ∧ Nw w0 vbbpg42_97 ∧ OwK (Sc u8) w [vbbpg42_97, v12, (bp g1), (bp g4), (bp g42), (bp g48)] 5 v12 x17 ∧ Nw w0 v12 ∧ Blk w g1 24 #[p0] ∧ Nw w0 (bp g1) ∧ Blk w g4 22 #[p1] ∧ Nw w0 (bp g4) ∧ Blk w g42 22 #[vbbpg42_97] ∧ Nw w0 (bp g42) ∧ Blk w g48 22 #[v12] ∧ Nw w0 (bp g48) ∧ Nq vbbpg42_97 v12 ∧ Nq vbbpg42_97 (bp g1) ∧ Nq vbbpg42_97 (bp g4) ∧ Nq vbbpg42_97 (bp g42) ∧ Nq vbbpg42_97 (bp g48) ∧ Nq v12 (bp g1) ∧ Nq v12 (bp g4) ∧ Nq v12 (bp g42) ∧ Nq v12 (bp g48) ∧ Nq (bp g1) (bp g4) ∧ Nq (bp g1) (bp g42) ∧ Nq (bp g1) (bp g48) ∧ Nq (bp g4) (bp g42) ∧ Nq (bp g4) (bp g48) ∧ Nq (bp g42) (bp g48)) ?_ ⟨(.slice none 0 0), e53, (OwK.nil _ _ _ _), (Nw.nil _), (o0_41.weak (Sc.stab _) (fun _ h => ⟨(fun e => by cases e), h.2.2.1, h.2.2.2.1, h.2.2.2.2.1, h.2.1, h.1, trivial⟩)), n0_41, o1_41, n1_41, o2_41, n2_41, o42, n47, o48, n54, (Nq.nil _), (Nq.nil _), (Nq.nil _), (Nq.nil _), (Nq.nil _), q0_1_41, q0_2_41, q43, q50, q1_2_41, q44, q51, q45, q52, q49⟩ (fun x f => upd (upd (f) 13 (i64 x.1.1)) 14 (u8 x.1.2)) ?_ ?_ ?_
        · rintro s55 W W' t ⟨vbbpg42_56, hE56, o0_56, n0_56, o1_56, n1_56, o2_56, n2_56, o3_56, n3_56, o4_56, n4_56, o5_56, n5_56, q0_1_56, q0_2_56, q0_3_56, q0_4_56, q0_5_56, q1_2_56, q1_3_56, q1_4_56, q1_5_56, q2_3_56, q2_4_56, q2_5_56, q3_4_56, q3_5_56, q4_5_56⟩
          exact ⟨vbbpg42_56, (hE56.tn t e53.size), (o0_56.tn (Sc.stab _) t), n0_56, (o1_56.tn (Sc.stab _) t), n1_56, (o2_56.tn t), n2_56, (o3_56.tn t), n3_56, (o4_56.tn t), n4_56, (o5_56.tn t), n5_56, q0_1_56, q0_2_56, q0_3_56, q0_4_56, q0_5_56, q1_2_56, q1_3_56, q1_4_56, q1_5_56, q2_3_56, q2_4_56, q2_5_56, q3_4_56, q3_5_56, q4_5_56⟩
        · intro l x W1 K hK
          refine W_seq ?_
          refine W_reg (by kernel_rfl) ?_
          refine wla rfl rfl (q_assign (v := i64 x.1.1) rfl rfl) ?_
          refine wl_nil ?_
          refine W_th ?_
          refine W_reg (by kernel_rfl) ?_
          refine wla rfl rfl (q_assign (v := u8 x.1.2) rfl rfl) ?_
          refine wl_nil ?_
          exact hK
        · rintro l ⟨y55, hy55⟩ s55 sp55 w57 ⟨vbbpg42_57, hE57, o0_57, n0_57, o1_57, n1_57, o2_57, n2_57, o3_57, n3_57, o4_57, n4_57, o5_57, n5_57, q0_1_57, q0_2_57, q0_3_57, q0_4_57, q0_5_57, q1_2_57, q1_3_57, q1_4_57, q1_5_57, q2_3_57, q2_4_57, q2_5_57, q3_4_57, q3_5_57, q4_5_57⟩ H55
          have kf55 := KeepsFrom.refl w48.heap.size w57
          refine W_block ?_
          refine W_seq ?_
          refine W_draw [0, 1, 2, 5] [(0, 1), (1, 1), (2, 1), (3, 0), (4, 0), (5, 1), (6, 2), (7, 2), (8, 0), (9, 0), (10, 0), (11, 2)] mixed (by kernel_rfl) (by kernel_rfl) (by kernel_rfl) (by kernel_rfl) ?_
          have x58 := Ext.drew w57
          replace o0_57 := o0_57.extL (Sc.stab _) x58 (Lift.ext x58 _)
          replace o1_57 := o1_57.extL (Sc.stab _) x58 (Lift.ext x58 _)
          replace o2_57 := o2_57.ext x58
          replace o3_57 := o3_57.ext x58
          replace o4_57 := o4_57.ext x58
          replace o5_57 := o5_57.ext x58
          have k59 := kf55.ext x58
          have e60 := hE57.trans x58
          refine wsq rfl rfl rfl (q_loadB (u := p0) rfl Try.isAgg24 s3_41 o2_57 rfl) ?_
          refine wsq rfl rfl rfl (q_loadB (u := vbbpg42_57) rfl Try.isAgg22 rfl o4_57 rfl) ?_
          refine wsq rfl rfl rfl (q_loadB (u := p1) rfl Try.isAgg22 s4_41 o3_57 rfl) ?_
          refine wsa rfl rfl rfl (q_move (v := (i64 y55.1)) rfl rfl) ?_
          obtain ⟨c61, hc61, H55⟩ := Option.bind_eq_some_iff.1 H55
          refine wsa rfl rfl rfl (q_adr rfl T22 rfl rfl (hp1.lift (Lift.ext e60 _)) hc61) ?_
          refine wsq rfl rfl rfl (q_loadS rfl T22 rfl (hp1.lift (Lift.ext e60 _)) hc61) ?_
          refine wss rfl rfl rfl (stp_lit (L := [vbbpg42_57, v12, (bp g1), (bp g4), (bp g42), (bp g48)]) (R := (Sc u8)) [(u8 c61), (u8 1)] ([c61, (1 : UInt8)] : List UInt8) rfl T22 rfl (by exact ⟨rfl, rfl, rfl, (cst8 (1 : UInt8) rfl), trivial⟩) rfl (litC u8 (oneC_u8) (us := [(u8 c61), (u8 1)]) (l := ([c61, (1 : UInt8)] : List UInt8)) rfl) rfl (litS u8 (us := [(u8 c61), (u8 1)]) (l := ([c61, (1 : UInt8)] : List UInt8)) rfl) ?_)
          intro v62 w62 o62 n62 g62 l62
          refine ⟨grown_ext g62, ?_⟩
          have x62 := grown_ext g62
          have i62 : By w62 [vbbpg42_57, v12, (bp g1), (bp g4), (bp g42), (bp g48)] v62 (([c61, (1 : UInt8)] : List UInt8)) := OwK.slk (Sc.stab _) _ o62 (fun k hk => (Old.cons (Old.cons (Old.cons (Old.cons (Old.cons (Old.cons (Old.nil _) o5_57.ltB) o4_57.ltB) o3_57.ltB) o2_57.ltB) o1_57.lt) o0_57.lt) k (n62 k hk)) (fun _ h => h.2)
          replace o0_57 := o0_57.extL (Sc.stab _) x62 (Lift.ext x62 _)
          replace o1_57 := o1_57.extL (Sc.stab _) x62 (Lift.ext x62 _)
          replace o2_57 := o2_57.ext x62
          replace o3_57 := o3_57.ext x62
          replace o4_57 := o4_57.ext x62
          replace o5_57 := o5_57.ext x62
          have k63 := k59.ext x62
          have e64 := e60.trans x62
          obtain ⟨r65, hr65, H55⟩ := Option.bind_eq_some_iff.1 H55
          refine wsc rfl (by kernel_rfl) rfl rfl (stp_call (vs := [p0, vbbpg42_57, v62]) Try.func19 rfl rfl rfl (ar3 rfl rfl rfl) (poly_Mul_calls a0f s55 ([c61, (1 : UInt8)] : List UInt8) p0 vbbpg42_57 v62 r65 _ (hp0.lift (Lift.ext e64 _)) (o0_57.rd (Sc.stab _)) (i62.lift (Lift.sub (fun _ _ => trivial))) hr65) ?_)
          rintro _ w65 ⟨v65_0, rfl, x65, n65_0, o65_0⟩
          refine ⟨_, rfl, ?_⟩
          have o65 : OwK (Sc u8) w65 (v65_0 :: [vbbpg42_57, v12, (bp g1), (bp g4), (bp g42), (bp g48)]) 5 v65_0 r65.1 := OwK.scal o65_0 _
          have q66 : Nq vbbpg42_57 v65_0 := o0_57.nq n65_0
          have q67 : Nq v12 v65_0 := o1_57.nq n65_0
          have q68 : Nq (bp g1) v65_0 := o2_57.nq n65_0
          have q69 : Nq (bp g4) v65_0 := o3_57.nq n65_0
          have q70 : Nq (bp g42) v65_0 := o4_57.nq n65_0
          have q71 : Nq (bp g48) v65_0 := o5_57.nq n65_0
          replace i62 := i62.lift (Lift.call _ x65 n65_0)
          replace o0_57 := o0_57.extL (Sc.stab _) x65 (Lift.call _ x65 n65_0)
          replace o1_57 := o1_57.extL (Sc.stab _) x65 (Lift.call _ x65 n65_0)
          replace o2_57 := o2_57.ext x65
          replace o3_57 := o3_57.ext x65
          replace o4_57 := o4_57.ext x65
          replace o5_57 := o5_57.ext x65
          have k72 := k63.ext x65
          have n74 := Nw.ext e64 n65_0
          have e73 := e64.trans x65
          refine wsa rfl rfl rfl (q_move (v := (.tuple #[v65_0, (i64 r65.2)])) rfl rfl) ?_
          refine wsa rfl rfl rfl (q_extract rfl rfl rfl) ?_
          refine wsa rfl rfl rfl (q_extract rfl rfl rfl) ?_
          refine wsn rfl (by kernel_rfl) rfl rfl (stp_storeL (u := v65_0) [v65_0, vbbpg42_57, v12, (bp g1), (bp g4)] [(bp g48)] rfl Try.sizeOf22 rfl rfl o4_57 (oc_own o65) ?_)
          intro w75 o75 g75 l75
          have k76 := k72.own g75 o4_57.cl
          replace i62 := i62.lift l75
          replace o65 := o65.other (Sc.stab _) g75 q70.symm l75
          replace o0_57 := o0_57.other (Sc.stab _) g75 q0_4_57 l75
          replace o1_57 := o1_57.other (Sc.stab _) g75 q1_4_57 l75
          replace o2_57 := o2_57.other g75 q2_4_57
          replace o3_57 := o3_57.other g75 q3_4_57
          replace o5_57 := o5_57.other g75 q4_5_57.symm
          have e77 := e73.grown g75 n4_57
          refine ws_nil ?_
          refine W_th ?_
          refine W_reg (by kernel_rfl) ?_
          refine wlq rfl rfl (q_loadB (u := v65_0) rfl Try.isAgg22 rfl o75 rfl) ?_
          refine wla rfl rfl (q_move (v := (u8 y55.2)) rfl rfl) ?_
          refine wls rfl rfl (stp_lit (L := [v65_0, vbbpg42_57, v12, (bp g1), (bp g4), (bp g42), (bp g48)]) (R := (Sc u8)) [(u8 y55.2)] ([y55.2] : List UInt8) rfl T22 rfl (by exact ⟨rfl, rfl, trivial⟩) rfl (litC u8 (oneC_u8) (us := [(u8 y55.2)]) (l := ([y55.2] : List UInt8)) rfl) rfl (litS u8 (us := [(u8 y55.2)]) (l := ([y55.2] : List UInt8)) rfl) ?_)
          intro v78 w78 o78 n78 g78 l78
          have x78 := grown_ext g78
          have i78 : By w78 [v65_0, vbbpg42_57, v12, (bp g1), (bp g4), (bp g42), (bp g48)] v78 (([y55.2] : List UInt8)) := OwK.slk (Sc.stab _) _ o78 (fun k hk => (Old.cons (Old.cons (Old.cons (Old.cons (Old.cons (Old.cons (Old.cons (Old.nil _) o5_57.ltB) o75.ltB) o3_57.ltB) o2_57.ltB) o1_57.lt) o0_57.lt) o65.lt) k (n78 k hk)) (fun _ h => h.2)
          replace i62 := i62.lift (Lift.ext x78 _)
          replace o65 := o65.extL (Sc.stab _) x78 (Lift.ext x78 _)
          replace o0_57 := o0_57.extL (Sc.stab _) x78 (Lift.ext x78 _)
          replace o1_57 := o1_57.extL (Sc.stab _) x78 (Lift.ext x78 _)
          replace o2_57 := o2_57.ext x78
          replace o3_57 := o3_57.ext x78
          replace o75 := o75.ext x78
          replace o5_57 := o5_57.ext x78
          have k79 := k76.ext x78
          have e80 := e77.trans x78
          obtain ⟨r81, hr81, H55⟩ := Option.bind_eq_some_iff.1 H55
          refine wls rfl rfl (stp_call (vs := [v65_0, v78]) Try.func20 rfl rfl rfl (ar2 rfl rfl) (poly_Add_calls r65.1 ([y55.2] : List UInt8) v65_0 v78 r81 _ (o65.rd (Sc.stab _)) (i78.lift (Lift.sub (fun _ _ => trivial))) hr81) ?_)
          rintro _ w81 ⟨v81, rfl, x81, n81_0, o81_0⟩
          refine ⟨_, rfl, ?_⟩
          have o81 : OwK (Sc u8) w81 (v81 :: [v65_0, vbbpg42_57, v12, (bp g1), (bp g4), (bp g42), (bp g48)]) 5 v81 r81 := OwK.scal o81_0 _
          have q82 : Nq v65_0 v81 := o65.nq n81_0
          have q83 : Nq vbbpg42_57 v81 := o0_57.nq n81_0
          have q84 : Nq v12 v81 := o1_57.nq n81_0
          have q85 : Nq (bp g1) v81 := o2_57.nq n81_0
          have q86 : Nq (bp g4) v81 := o3_57.nq n81_0
          have q87 : Nq (bp g42) v81 := o75.nq n81_0
          have q88 : Nq (bp g48) v81 := o5_57.nq n81_0
          replace i62 := i62.lift (Lift.call _ x81 n81_0)
          replace i78 := i78.lift (Lift.call _ x81 n81_0)
          replace o65 := o65.extL (Sc.stab _) x81 (Lift.call _ x81 n81_0)
          replace o0_57 := o0_57.extL (Sc.stab _) x81 (Lift.call _ x81 n81_0)
          replace o1_57 := o1_57.extL (Sc.stab _) x81 (Lift.call _ x81 n81_0)
          replace o2_57 := o2_57.ext x81
          replace o3_57 := o3_57.ext x81
          replace o75 := o75.ext x81
          replace o5_57 := o5_57.ext x81
          have k89 := k79.ext x81
          have n91 := Nw.ext e80 n81_0
          have e90 := e80.trans x81
          refine wln rfl rfl (stp_storeL (u := v81) [v81, v65_0, vbbpg42_57, v12, (bp g1), (bp g4)] [(bp g48)] rfl Try.sizeOf22 rfl rfl o75 (oc_own o81) ?_)
          intro w92 o92 g92 l92
          have k93 := k89.own g92 o75.cl
          replace i62 := i62.lift l92
          replace i78 := i78.lift l92
          replace o81 := o81.other (Sc.stab _) g92 q87.symm l92
          replace o65 := o65.other (Sc.stab _) g92 q70.symm l92
          replace o0_57 := o0_57.other (Sc.stab _) g92 q0_4_57 l92
          replace o1_57 := o1_57.other (Sc.stab _) g92 q1_4_57 l92
          replace o2_57 := o2_57.other g92 q2_4_57
          replace o3_57 := o3_57.other g92 q3_4_57
          replace o5_57 := o5_57.other g92 q4_5_57.symm
          have e94 := e90.grown g92 n4_57
          refine wl_nil ?_
          refine bk_n ?_
          obtain rfl := Option.some.inj H55
          exact ⟨k93, ⟨o5_57, _, rfl, (o1_57.rd (Sc.stab _))⟩, v81, e94, (o81.weak (Sc.stab _) (fun _ h => ⟨h.1, h.2.2.2.1, h.2.2.2.2.1, h.2.2.2.2.2.1, h.2.2.2.2.2.2.1, h.2.2.2.2.2.2.2.1, trivial⟩)), n91, (o1_57.weak (Sc.stab _) (fun _ h => ⟨h.1, h.2.2.2.1, h.2.2.2.2.1, h.2.2.2.2.2.1, h.2.2.2.2.2.2.1, h.2.2.2.2.2.2.2.1, trivial⟩)), n1_57, o2_57, n2_57, o3_57, n3_57, o92, n4_57, o5_57, n5_57, q84.symm, q85.symm, q86.symm, q87.symm, q88.symm, q1_2_57, q1_3_57, q1_4_57, q1_5_57, q2_3_57, q2_4_57, q2_5_57, q3_4_57, q3_5_57, q4_5_57⟩
        · intro D55 w95 hD55 ⟨vbbpg42_95, hE95, o0_95, n0_95, o1_95, n1_95, o2_95, n2_95, o3_95, n3_95, o4_95, n4_95, o5_95, n5_95, q0_1_95, q0_2_95, q0_3_95, q0_4_95, q0_5_95, q1_2_95, q1_3_95, q1_4_95, q1_5_95, q2_3_95, q2_4_95, q2_5_95, q3_4_95, q3_5_95, q4_5_95⟩ hK55
          have hd55 := Nat.le_trans e53.size hD55
          have kd55 := KeepsFrom.refl 0 w95
          refine bk_n ?_
          refine W_th ?_
          refine W_seq ?_
          refine W_reg (by kernel_rfl) ?_
          refine wlq rfl rfl (q_loadB (u := vbbpg42_95) rfl Try.isAgg22 rfl o4_95 rfl) ?_
          refine wla rfl rfl (q_assign (v := vbbpg42_95) rfl rfl) ?_
          refine wla rfl rfl (q_assign (v := (i64 0)) rfl rfl) ?_
          refine wl_nil ?_
          refine W_th ?_
          refine W_ret ?_
          obtain rfl := Option.some.inj H
          have hk96 := kd55.same D55 _ (Nat.zero_le _) hK55 rfl
          have t96 := Tn.put hk96 hd55 (.deferred none)
          refine rtm2 vbbpg42_95 (i64 0) rfl rfl rfl rfl rfl rfl hk96 ?_
          exact ⟨vbbpg42_95, rfl, (hE95.tn t96 (Nat.le_refl _)), n0_95, ((o0_95.tn (Sc.stab _) t96).weak (Sc.stab _) (fun _ _ => trivial))⟩

end Gk

/- Printed by gen.py: for each Go function a pure function, and that the Go code comes to it. No condition beside the equation that says what the pure function gives. -/
import Derived.Test.YtabcmfkmddlaaaaFc
import Derived.Test.YtabcmfkmddlaaaaFd
import Derived.Test.YtabcmfkmddlaaaaFe
import Derived.Test.YtabcmfkmddlaaaaFb
import Derived.Test.YtabcmfkmddlaaaaF1
set_option linter.unusedVariables false
set_option linter.unusedSimpArgs false
namespace Gk
open Go Go.Proofs

/-! largesse/poly.Trim -/
noncomputable def poly_Trim (a0p : List UInt8) : Option (List UInt8) :=
((poly_Degree a0p).bind fun r1 =>
((subL a0p 0 ((wI (r1 + 1)))).bind fun c3 =>
((slices_Clone_sbytebyte c3).bind fun r4 => some r4)))
set_option maxRecDepth 100000 in
set_option maxHeartbeats 8000000 in
theorem poly_Trim_calls (a0p : List UInt8) (p0 : Value) (r : List UInt8) (w0 : World) (hp0 : By w0 [] p0 a0p) (H : poly_Trim a0p = some r) :
    Calls Try.prog 66 [p0].toArray w0 (fun e w' => ∃ u0 : Value, e = .returned u0 ∧ Ext w0 w' ∧ Nw w0 u0 ∧ OwK (Sc u8) w' [] 5 u0 r) := by
  have hE : Ext w0 w0 := Ext.refl w0
  unfold poly_Trim at H
  refine calls_W (n := 9) Try.func66 rfl rfl rfl ?_
  refine W_seq ?_
  refine W_reg (by kernel_rfl) ?_
  refine wla rfl rfl (q_assign (v := (.slice none 0 0)) rfl rfl) ?_
  refine wl_nil ?_
  refine W_th ?_
  refine W_seq ?_
  refine W_reg (by kernel_rfl) ?_
  refine wla rfl rfl (q_move (v := p0) rfl rfl) ?_
  refine wla rfl rfl (q_move (v := p0) rfl rfl) ?_
  obtain ⟨r1, hr1, H⟩ := Option.bind_eq_some_iff.1 H
  refine wls rfl rfl (stp_call (vs := [p0]) Try.func71 rfl rfl rfl (ar1 rfl) (poly_Degree_calls a0p p0 r1 _ (hp0.lift (Lift.ext hE _)) hr1) ?_)
  rintro _ w1 ⟨rfl, x1⟩
  refine ⟨_, rfl, ?_⟩
  have e2 := hE.trans x1
  refine wla rfl rfl (q_addI rfl rfl rfl) ?_
  obtain ⟨c3, hc3, H⟩ := Option.bind_eq_some_iff.1 H
  refine wla rfl rfl (q_slice (a := 0) (b := (wI (r1 + 1))) rfl T22 rfl (hp0.lift (Lift.ext e2 _)) rfl rfl hc3) ?_
  obtain ⟨r4, hr4, H⟩ := Option.bind_eq_some_iff.1 H
  refine wls rfl rfl (stp_call (vs := [(subV p0 (0 : Int).toNat ((wI (r1 + 1)) : Int).toNat)]) Try.func57 rfl rfl rfl (ar1 rfl) (slices_Clone_sbytebyte_calls c3 (subV p0 (0 : Int).toNat ((wI (r1 + 1)) : Int).toNat) r4 _ (SlK.cut (hp0.lift (Lift.ext e2 _)) hc3) hr4) ?_)
  rintro _ w4 ⟨v4, rfl, x4, n4_0, o4_0⟩
  refine ⟨_, rfl, ?_⟩
  have o4 : OwK (Sc u8) w4 (v4 :: []) 5 v4 r4 := OwK.scal o4_0 _
  have n6 := Nw.ext e2 n4_0
  have e5 := e2.trans x4
  refine wla rfl rfl (q_assign (v := v4) rfl rfl) ?_
  refine wl_nil ?_
  refine W_th ?_
  refine W_ret ?_
  obtain rfl := Option.some.inj H
  refine rt1 v4 rfl rfl rfl rfl ?_
  exact ⟨v4, rfl, e5, n6, (o4.weak (Sc.stab _) (fun _ _ => trivial))⟩

/-! largesse/poly.Mul -/
noncomputable def poly_Mul (a0f : Bool) (a1p : List UInt8) (a2q : List UInt8) : Option (List UInt8 × Int) :=
((poly_Trim a1p).bind fun r1 =>
((poly_Trim a2q).bind fun r3 =>
(if (!a0f) = true then some (([] : List UInt8), 1)
else
(if (r1.length : Int) = 0 then some (([] : List UInt8), 0)
else
(if (r3.length : Int) = 0 then some (([] : List UInt8), 0)
else
(if 256 < (wI ((wI ((r1.length : Int) + (r3.length : Int))) - 1)) then some (([] : List UInt8), 4)
else
((makeL ((wI ((wI ((r1.length : Int) + (r3.length : Int))) - 1))) (0 : UInt8)).bind fun c9 =>
((iterC (fun s12 : List UInt8 × Int =>
(if s12.2 < (r1.length : Int) then
((idx r1 s12.2).bind fun c15 =>
((subL s12.1 s12.2 ((s12.1.length : Int))).bind fun c18 =>
((subL s12.1 s12.2 ((wI (s12.2 + (r3.length : Int))))).bind fun c19 =>
((field_Sum a0f c19 c15 r3).bind fun r20 => some (.inl ((copyL s12.1 s12.2 r20), (wI (s12.2 + 1))))))))
else some (.inr s12.1))) (c9, 0)).bind fun x12 => some (x12, 0)))))))))
set_option maxRecDepth 100000 in
set_option maxHeartbeats 8000000 in
theorem poly_Mul_calls (a0f : Bool) (a1p : List UInt8) (a2q : List UInt8) (p0 : Value) (p1 : Value) (p2 : Value) (r : List UInt8 × Int) (w0 : World) (hp0 : Fd w0 [] p0 a0f) (hp1 : By w0 [] p1 a1p) (hp2 : By w0 [] p2 a2q) (H : poly_Mul a0f a1p a2q = some r) :
    Calls Try.prog 51 [p0, p1, p2].toArray w0 (fun e w' => ∃ u0 : Value, e = .returned (.tuple #[u0, (i64 r.2)]) ∧ Ext w0 w' ∧ Nw w0 u0 ∧ OwK (Sc u8) w' [] 5 u0 r.1) := by
  have hE : Ext w0 w0 := Ext.refl w0
  unfold poly_Mul at H
  refine calls_W (n := 66) Try.func51 rfl rfl rfl ?_
  refine W_seq ?_
  refine W_reg (by kernel_rfl) ?_
  refine wla rfl rfl (q_assign (v := (.slice none 0 0)) rfl rfl) ?_
  refine wla rfl rfl (q_assign (v := (i64 0)) rfl rfl) ?_
  refine wl_nil ?_
  refine W_th ?_
  refine W_seq ?_
  refine W_reg (by kernel_rfl) ?_
  refine wla rfl rfl (q_move (v := p1) rfl rfl) ?_
  obtain ⟨r1, hr1, H⟩ := Option.bind_eq_some_iff.1 H
  refine wls rfl rfl (stp_call (vs := [p1]) Try.func66 rfl rfl rfl (ar1 rfl) (poly_Trim_calls a1p p1 r1 _ (hp1.lift (Lift.ext hE _)) hr1) ?_)
  rintro _ w1 ⟨v1, rfl, x1, n1_0, o1_0⟩
  refine ⟨_, rfl, ?_⟩
  have i1_0 : By w1 [] v1 r1 := OwK.slk (Sc.stab _) _ (OwK.scal o1_0 (v1 :: [])) (fun k hk => (Old.nil _) k (n1_0 k hk)) (fun _ h => h.2)
  have e2 := hE.trans x1
  refine wla rfl rfl (q_move (v := p2) rfl rfl) ?_
  obtain ⟨r3, hr3, H⟩ := Option.bind_eq_some_iff.1 H
  refine wls rfl rfl (stp_call (vs := [p2]) Try.func66 rfl rfl rfl (ar1 rfl) (poly_Trim_calls a2q p2 r3 _ (hp2.lift (Lift.ext e2 _)) hr3) ?_)
  rintro _ w3 ⟨v3, rfl, x3, n3_0, o3_0⟩
  refine ⟨_, rfl, ?_⟩
  have i3_0 : By w3 [] v3 r3 := OwK.slk (Sc.stab _) _ (OwK.scal o3_0 (v3 :: [])) (fun k hk => (Old.nil _) k (n3_0 k hk)) (fun _ h => h.2)
  replace i1_0 := i1_0.lift (Lift.ext x3 _)
  have e4 := e2.trans x3
  refine wla rfl rfl (q_assign (v := v1) rfl rfl) ?_
  refine wla rfl rfl (q_assign (v := v3) rfl rfl) ?_
  refine wl_nil ?_
  refine W_th ?_
  refine W_seq ?_
  refine W_block ?_
  refine W_seq ?_
  refine W_reg (by kernel_rfl) ?_
  refine wla rfl rfl (q_move (v := p0) rfl rfl) ?_
  refine wla rfl rfl (q_eqF rfl rfl rfl rfl (hp0.lift (Lift.ext e4 _))) ?_
  refine wla rfl rfl (q_assign (v := (.bool ((!a0f)))) rfl rfl) ?_
  refine wl_nil ?_
  refine W_th ?_
  refine W_cond _ rfl rfl (fun hb5 => ?_) (fun hb5 => ?_)
  · replace H := (if_pos hb5).symm.trans H
    refine W_seq ?_
    refine W_reg (by kernel_rfl) ?_
    refine wla rfl rfl (q_assign (v := (.slice none 0 0)) rfl rfl) ?_
    refine wla rfl rfl (q_assign (v := (i64 1)) rfl rfl) ?_
    refine wl_nil ?_
    refine W_th ?_
    refine W_ret ?_
    refine bk_r ?_
    refine th_r ?_
    obtain rfl := Option.some.inj H
    refine rt2 (.slice none 0 0) (i64 1) rfl rfl rfl rfl rfl rfl ?_
    exact ⟨(.slice none 0 0), rfl, e4, Nw.nil _, (OwK.nil _ _ _ _)⟩
  · replace H := (if_neg (ne_true_of_eq_false hb5)).symm.trans H
    refine W_seq ?_
    refine W_reg (by kernel_rfl) ?_
    refine wla rfl rfl (q_move (v := v1) rfl rfl) ?_
    refine wla rfl rfl (q_len rfl T22.sl rfl i1_0) ?_
    refine wla rfl rfl (q_eqI rfl rfl rfl) ?_
    refine wlb rfl rfl (q_move (v := (.bool ((decide ((r1.length : Int) = 0))))) rfl rfl) (fun hb6 => ?_) (fun hb6 => ?_)
    · replace H := (if_pos (of_decide_eq_true hb6)).symm.trans H
      refine wlk rfl rfl ?_
      refine wlk rfl rfl ?_
      refine wlk rfl rfl ?_
      refine wla rfl rfl (q_pick_t (v := (.bool true)) rfl rfl rfl) ?_
      refine wla rfl rfl (q_assign (v := (.bool true)) rfl rfl) ?_
      refine wl_nil ?_
      refine W_th ?_
      refine W_cond true rfl rfl (fun _ => ?_) (fun hb => by cases hb)
      refine W_seq ?_
      refine W_reg (by kernel_rfl) ?_
      refine wla rfl rfl (q_assign (v := (.slice none 0 0)) rfl rfl) ?_
      refine wla rfl rfl (q_assign (v := (i64 0)) rfl rfl) ?_
      refine wl_nil ?_
      refine W_th ?_
      refine W_ret ?_
      refine bk_r ?_
      refine th_r ?_
      obtain rfl := Option.some.inj H
      refine rt2 (.slice none 0 0) (i64 0) rfl rfl rfl rfl rfl rfl ?_
      exact ⟨(.slice none 0 0), rfl, e4, Nw.nil _, (OwK.nil _ _ _ _)⟩
    · replace H := (if_neg (of_decide_eq_false hb6)).symm.trans H
      refine wla rfl rfl (q_move (v := v3) rfl rfl) ?_
      refine wla rfl rfl (q_len rfl T22.sl rfl i3_0) ?_
      refine wla rfl rfl (q_eqI rfl rfl rfl) ?_
      refine wla rfl rfl (q_pick_f (v := (.bool ((decide ((r3.length : Int) = 0))))) rfl rfl rfl) ?_
      refine wla rfl rfl (q_assign (v := (.bool ((decide ((r3.length : Int) = 0))))) rfl rfl) ?_
      refine wl_nil ?_
      refine W_th ?_
      refine W_cond _ rfl rfl (fun hb7 => ?_) (fun hb7 => ?_)
      · replace H := (if_pos (of_decide_eq_true hb7)).symm.trans H
        refine W_seq ?_
        refine W_reg (by kernel_rfl) ?_
        refine wla rfl rfl (q_assign (v := (.slice none 0 0)) rfl rfl) ?_
        refine wla rfl rfl (q_assign (v := (i64 0)) rfl rfl) ?_
        refine wl_nil ?_
        refine W_th ?_
        refine W_ret ?_
        refine bk_r ?_
        refine th_r ?_
        obtain rfl := Option.some.inj H
        refine rt2 (.slice none 0 0) (i64 0) rfl rfl rfl rfl rfl rfl ?_
        exact ⟨(.slice none 0 0), rfl, e4, Nw.nil _, (OwK.nil _ _ _ _)⟩
      · replace H := (if_neg (of_decide_eq_false hb7)).symm.trans H
        refine W_seq ?_
        refine W_reg (by kernel_rfl) ?_
        refine wla rfl rfl (q_move (v := v1) rfl rfl) ?_
        refine wla rfl rfl (q_len rfl T22.sl rfl i1_0) ?_
        refine wla rfl rfl (q_move (v := v3) rfl rfl) ?_
        refine wla rfl rfl (q_len rfl T22.sl rfl i3_0) ?_
        refine wla rfl rfl (q_addI rfl rfl rfl) ?_
        refine wla rfl rfl (q_subI rfl rfl rfl) ?_
        refine wla rfl rfl (q_gtI rfl rfl rfl) ?_
        refine wla rfl rfl (q_assign (v := (.bool ((decide (256 < (wI ((wI ((r1.length : Int) + (r3.length : Int))) - 1))))))) rfl rfl) ?_
        refine wl_nil ?_
        refine W_th ?_
        refine W_cond _ rfl rfl (fun hb8 => ?_) (fun hb8 => ?_)
        · replace H := (if_pos (of_decide_eq_true hb8)).symm.trans H
          refine W_seq ?_
          refine W_reg (by kernel_rfl) ?_
          refine wla rfl rfl (q_assign (v := (.slice none 0 0)) rfl rfl) ?_
          refine wla rfl rfl (q_assign (v := (i64 4)) rfl rfl) ?_
          refine wl_nil ?_
          refine W_th ?_
          refine W_ret ?_
          refine bk_r ?_
          refine th_r ?_
          obtain rfl := Option.some.inj H
          refine rt2 (.slice none 0 0) (i64 4) rfl rfl rfl rfl rfl rfl ?_
          exact ⟨(.slice none 0 0), rfl, e4, Nw.nil _, (OwK.nil _ _ _ _)⟩
        · replace H := (if_neg (of_decide_eq_false hb8)).symm.trans H
          refine W_skip ?_
          refine bk_n ?_
          refine W_th ?_
          refine W_seq ?_
          refine W_reg (by kernel_rfl) ?_
          refine wla rfl rfl (q_move (v := v1) rfl rfl) ?_
          refine wla rfl rfl (q_len rfl T22.sl rfl i1_0) ?_
          refine wla rfl rfl (q_move (v := v3) rfl rfl) ?_
          refine wla rfl rfl (q_len rfl T22.sl rfl i3_0) ?_
          refine wla rfl rfl (q_addI rfl rfl rfl) ?_
          refine wla rfl rfl (q_subI rfl rfl rfl) ?_
          obtain ⟨c9, hc9, H⟩ := Option.bind_eq_some_iff.1 H
          refine wls rfl rfl (stp_make (L := []) (R := (Sc u8)) rfl T22 rfl rfl hc9 (fun _ _ => rfl) ?_)
          intro v9 w9 o9 n9 g9 l9
          have x9 := grown_ext g9
          replace i1_0 := i1_0.lift (Lift.call _ x9 n9)
          replace i3_0 := i3_0.lift (Lift.call _ x9 n9)
          have n11 := Nw.ext e4 n9
          have e10 := e4.trans x9
          refine wla rfl rfl (q_assign (v := v9) rfl rfl) ?_
          refine wl_nil ?_
          refine W_th ?_
          refine W_seq ?_
          refine W_seq ?_
          refine W_reg (by kernel_rfl) ?_
          refine wla rfl rfl (q_move (v := v1) rfl rfl) ?_
          refine wla rfl rfl (q_len rfl T22.sl rfl i1_0) ?_
          refine wla rfl rfl (q_move (v := (i64 0)) rfl rfl) ?_
          refine wl_nil ?_
          refine W_th ?_
          obtain ⟨x12, G12, H⟩ := Option.bind_eq_some_iff.1 H
          refine W_mid (fun f w => f 8 = v9 ∧ f 66 = undef ∧ Ext w0 w ∧ OwK (Sc u8) w [v9] 5 v9 x12 ∧ Nw w0 v9) ?_ ?_
          · refine W_block ?_
            refine W_loop (fun s12 f w => f 0 = p0 ∧ f 2 = v3 ∧ f 8 = v9 ∧ f 42 = v1 ∧ f 43 = (i64 ((r1.length : Int))) ∧ f 44 = (i64 s12.2) ∧ f 66 = undef ∧ Ext w0 w ∧ OwK (Sc u8) w [v9] 5 v9 s12.1 ∧ Nw w0 v9 ∧ By w [v9] v3 r3 ∧ By w [v9] v1 r1) G12 ?_ ?_
            · exact ⟨rfl, rfl, rfl, rfl, rfl, rfl, rfl, e10, o9, n11, i3_0, i1_0⟩
            · rintro s12 _ _ w13 ⟨s0_13, s2_13, s8_13, s42_13, s43_13, s44_13, s66_13, hE13, o0_13, n0_13, i0_13, i1_13⟩ H12 hr12
              refine W_seq ?_
              refine W_reg (by kernel_rfl) ?_
              refine wla rfl rfl (q_ltI rfl s44_13 s43_13) ?_
              refine wl_nil ?_
              refine W_th ?_
              refine W_seq ?_
              refine W_cond _ rfl rfl (fun hb14 => ?_) (fun hb14 => ?_)
              · replace H12 := (if_pos (of_decide_eq_true hb14)).symm.trans H12
                refine W_skip ?_
                refine W_th ?_
                refine W_seq ?_
                refine W_block ?_
                refine W_seq ?_
                refine W_reg (by kernel_rfl) ?_
                refine wla rfl rfl (q_move (v := (i64 s12.2)) rfl s44_13) ?_
                obtain ⟨c15, hc15, H12⟩ := Option.bind_eq_some_iff.1 H12
                refine wla rfl rfl (q_adr rfl T22 s42_13 s44_13 i1_13 hc15) ?_
                refine wlq rfl rfl (q_loadS rfl T22 rfl i1_13 hc15) ?_
                refine wla rfl rfl (q_assign (v := (i64 s12.2)) rfl rfl) ?_
                refine wla rfl rfl (q_assign (v := (u8 c15)) rfl rfl) ?_
                refine wl_nil ?_
                refine W_th ?_
                refine W_draw [] [(0, 0), (1, 0), (2, 0), (3, 0), (4, 0), (5, 0), (6, 0), (7, 0), (8, 0), (9, 0), (10, 0), (11, 0), (12, 0), (13, 2), (14, 2)] mixed (by kernel_rfl) (by kernel_rfl) (by kernel_rfl) (by kernel_rfl) ?_
                have x16 := Ext.drew w13
                replace i0_13 := i0_13.lift (Lift.ext x16 _)
                replace i1_13 := i1_13.lift (Lift.ext x16 _)
                replace o0_13 := o0_13.extL (Sc.stab _) x16 (Lift.ext x16 _)
                have e17 := hE13.trans x16
                refine wsa rfl rfl rfl (q_move (v := v9) rfl s8_13) ?_
                refine wsa rfl rfl rfl (q_move (v := (i64 s12.2)) rfl rfl) ?_
                obtain ⟨c18, hc18, H12⟩ := Option.bind_eq_some_iff.1 H12
                refine wsa rfl rfl rfl (q_slice (a := s12.2) (b := (s12.1.length : Int)) rfl T22 rfl (o0_13.rd (Sc.stab _)) rfl rfl hc18) ?_
                refine wsa rfl rfl rfl (q_move (v := p0) rfl s0_13) ?_
                refine wsa rfl rfl rfl (q_move (v := v9) rfl s8_13) ?_
                refine wsa rfl rfl rfl (q_move (v := (i64 s12.2)) rfl rfl) ?_
                refine wsa rfl rfl rfl (q_move (v := (i64 s12.2)) rfl rfl) ?_
                refine wsa rfl rfl rfl (q_move (v := v3) rfl s2_13) ?_
                refine wsa rfl rfl rfl (q_len rfl T22.sl rfl i0_13) ?_
                refine wsa rfl rfl rfl (q_addI rfl rfl rfl) ?_
                obtain ⟨c19, hc19, H12⟩ := Option.bind_eq_some_iff.1 H12
                refine wsa rfl rfl rfl (q_slice (a := s12.2) (b := (wI (s12.2 + (r3.length : Int)))) rfl T22 rfl (o0_13.rd (Sc.stab _)) rfl rfl hc19) ?_
                refine wsa rfl rfl rfl (q_move (v := (u8 c15)) rfl rfl) ?_
                refine wsa rfl rfl rfl (q_move (v := v3) rfl s2_13) ?_
                obtain ⟨r20, hr20, H12⟩ := Option.bind_eq_some_iff.1 H12
                refine wsc rfl (by kernel_rfl) rfl rfl (stp_call (vs := [p0, (subV v9 (s12.2 : Int).toNat ((wI (s12.2 + (r3.length : Int))) : Int).toNat), (u8 c15), v3]) Try.func43 rfl rfl rfl (ar4 rfl rfl rfl rfl) (field_Sum_calls a0f c19 c15 r3 p0 (subV v9 (s12.2 : Int).toNat ((wI (s12.2 + (r3.length : Int))) : Int).toNat) v3 r20 _ (hp0.lift (Lift.ext e17 _)) (SlK.cut (o0_13.rd (Sc.stab _)) hc19) (i0_13.lift (Lift.sub (fun _ _ => trivial))) hr20) ?_)
                rintro _ w20 ⟨v20, rfl, x20, n20_0, o20_0⟩
                refine ⟨_, rfl, ?_⟩
                have i20_0 : By w20 [v9] v20 r20 := OwK.slk (Sc.stab _) _ (OwK.scal o20_0 (v20 :: [v9])) (fun k hk => (Old.cons (Old.nil _) o0_13.lt) k (n20_0 k hk)) (fun _ h => h.2)
                replace i0_13 := i0_13.lift (Lift.ext x20 _)
                replace i1_13 := i1_13.lift (Lift.ext x20 _)
                replace o0_13 := o0_13.extL (Sc.stab _) x20 (Lift.ext x20 _)
                have e21 := e17.trans x20
                refine wsc rfl (by kernel_rfl) rfl rfl (stp_copy (R := (Sc u8)) (off := s12.2) (dv := (subV v9 (s12.2 : Int).toNat ((s12.1.length : Int) : Int).toNat)) (u := v20) (Sc.stab _) [] [] rfl T22 rfl rfl o0_13 rfl (subL_some.1 hc18).1.1 (subL_lo hc18) i20_0 (fun _ _ h => h) oc_u8 ?_)
                intro w22 o22 g22 l22
                replace i0_13 := i0_13.lift l22
                replace i1_13 := i1_13.lift l22
                replace i20_0 := i20_0.lift l22
                have e23 := e21.grown g22 n0_13
                refine ws_nil ?_
                refine bk_n ?_
                refine W_th ?_
                refine W_reg (by kernel_rfl) ?_
                refine wla rfl rfl (q_addI rfl s44_13 rfl) ?_
                refine wla rfl rfl (q_move (v := (i64 ((wI (s12.2 + 1))))) rfl rfl) ?_
                refine wl_nil ?_
                obtain rfl := Option.some.inj H12
                exact ⟨_, rfl, s0_13, s2_13, s8_13, s42_13, s43_13, rfl, s66_13, e23, o22, n0_13, i0_13, i1_13⟩
              · replace H12 := (if_neg (of_decide_eq_false hb14)).symm.trans H12
                refine W_exit ?_
                refine th_x ?_
                obtain rfl := Option.some.inj H12
                obtain rfl := hr12 _ rfl
                refine th_x ?_
                refine bk_x ?_
                exact ⟨s8_13, s66_13, hE13, o0_13, n0_13⟩
          · rintro _ w25 ⟨s8_25, s66_25, hE25, o0_25, n0_25⟩
            refine W_th ?_
            refine W_seq ?_
            refine W_reg (by kernel_rfl) ?_
            refine wla rfl rfl (q_move (v := v9) rfl s8_25) ?_
            refine wla rfl rfl (q_assign (v := v9) rfl rfl) ?_
            refine wla rfl rfl (q_assign (v := (i64 0)) rfl rfl) ?_
            refine wl_nil ?_
            refine W_th ?_
            refine W_ret ?_
            obtain rfl := Option.some.inj H
            refine rt2 v9 (i64 0) rfl rfl rfl rfl rfl s66_25 ?_
            exact ⟨v9, rfl, hE25, n0_25, (o0_25.weak (Sc.stab _) (fun _ _ => trivial))⟩

/-! largesse/poly.Vanish -/
noncomputable def poly_Vanish (a0f : Bool) (a1xs : List UInt8) : Option (List UInt8 × Int) :=
(if (!a0f) = true then some (([] : List UInt8), 1)
else
(if 255 < (a1xs.length : Int) then some (([] : List UInt8), 4)
else
((iterC (fun s6 : List UInt8 × Int =>
(if s6.2 < (a1xs.length : Int) then
((idx a1xs s6.2).bind fun c9 =>
((poly_Mul a0f s6.1 ([c9, (1 : UInt8)] : List UInt8)).bind fun r12 => some (.inl (r12.1, (wI (s6.2 + 1))))))
else some (.inr s6.1))) (([(1 : UInt8)] : List UInt8), 0)).bind fun x6 => some (x6, 0))))
set_option maxRecDepth 100000 in
set_option maxHeartbeats 8000000 in
theorem poly_Vanish_calls (a0f : Bool) (a1xs : List UInt8) (p0 : Value) (p1 : Value) (r : List UInt8 × Int) (w0 : World) (hp0 : Fd w0 [] p0 a0f) (hp1 : By w0 [] p1 a1xs) (H : poly_Vanish a0f a1xs = some r) :
    Calls Try.prog 26 [p0, p1].toArray w0 (fun e w' => ∃ u0 : Value, e = .returned (.tuple #[u0, (i64 r.2)]) ∧ Ext w0 w' ∧ Nw w0 u0 ∧ OwK (Sc u8) w' [] 5 u0 r.1) := by
  have hE : Ext w0 w0 := Ext.refl w0
  unfold poly_Vanish at H
  refine calls_W (n := 33) Try.func26 rfl rfl rfl ?_
  refine W_seq ?_
  refine W_reg (by kernel_rfl) ?_
  refine wla rfl rfl (q_assign (v := (.slice none 0 0)) rfl rfl) ?_
  refine wla rfl rfl (q_assign (v := (i64 0)) rfl rfl) ?_
  refine wl_nil ?_
  refine W_th ?_
  refine W_seq ?_
  refine W_block ?_
  refine W_seq ?_
  refine W_reg (by kernel_rfl) ?_
  refine wla rfl rfl (q_move (v := p0) rfl rfl) ?_
  refine wla rfl rfl (q_eqF rfl rfl rfl rfl (hp0.lift (Lift.ext hE _))) ?_
  refine wla rfl rfl (q_assign (v := (.bool ((!a0f)))) rfl rfl) ?_
  refine wl_nil ?_
  refine W_th ?_
  refine W_cond _ rfl rfl (fun hb1 => ?_) (fun hb1 => ?_)
  · replace H := (if_pos hb1).symm.trans H
    refine W_seq ?_
    refine W_reg (by kernel_rfl) ?_
    refine wla rfl rfl (q_assign (v := (.slice none 0 0)) rfl rfl) ?_
    refine wla rfl rfl (q_assign (v := (i64 1)) rfl rfl) ?_
    refine wl_nil ?_
    refine W_th ?_
    refine W_ret ?_
    refine bk_r ?_
    refine th_r ?_
    obtain rfl := Option.some.inj H
    refine rt2 (.slice none 0 0) (i64 1) rfl rfl rfl rfl rfl rfl ?_
    exact ⟨(.slice none 0 0), rfl, hE, Nw.nil _, (OwK.nil _ _ _ _)⟩
  · replace H := (if_neg (ne_true_of_eq_false hb1)).symm.trans H
    refine W_seq ?_
    refine W_reg (by kernel_rfl) ?_
    refine wla rfl rfl (q_move (v := p1) rfl rfl) ?_
    refine wla rfl rfl (q_len rfl T22.sl rfl (hp1.lift (Lift.ext hE _))) ?_
    refine wla rfl rfl (q_gtI rfl rfl rfl) ?_
    refine wla rfl rfl (q_assign (v := (.bool ((decide (255 < (a1xs.length : Int)))))) rfl rfl) ?_
    refine wl_nil ?_
    refine W_th ?_
    refine W_cond _ rfl rfl (fun hb2 => ?_) (fun hb2 => ?_)
    · replace H := (if_pos (of_decide_eq_true hb2)).symm.trans H
      refine W_seq ?_
      refine W_reg (by kernel_rfl) ?_
      refine wla rfl rfl (q_assign (v := (.slice none 0 0)) rfl rfl) ?_
      refine wla rfl rfl (q_assign (v := (i64 4)) rfl rfl) ?_
      refine wl_nil ?_
      refine W_th ?_
      refine W_ret ?_
      refine bk_r ?_
      refine th_r ?_
      obtain rfl := Option.some.inj H
      refine rt2 (.slice none 0 0) (i64 4) rfl rfl rfl rfl rfl rfl ?_
      exact ⟨(.slice none 0 0), rfl, hE, Nw.nil _, (OwK.nil _ _ _ _)⟩
    · replace H := (if_neg (of_decide_eq_false hb2)).symm.trans H
      refine W_skip ?_
      refine bk_n ?_
      refine W_th ?_
      refine W_seq ?_
      refine W_reg (by kernel_rfl) ?_
      refine wls rfl rfl (stp_lit (L := []) (R := (Sc u8)) [(u8 1)] ([(1 : UInt8)] : List UInt8) rfl T22 rfl (by exact ⟨rfl, (cst8 (1 : UInt8) rfl), trivial⟩) rfl (litC u8 (oneC_u8) (us := [(u8 1)]) (l := ([(1 : UInt8)] : List UInt8)) rfl) rfl (litS u8 (us := [(u8 1)]) (l := ([(1 : UInt8)] : List UInt8)) rfl) ?_)
      intro v3 w3 o3 n3 g3 l3
      have x3 := grown_ext g3
      have n5 := Nw.ext hE n3
      have e4 := hE.trans x3
      refine wla rfl rfl (q_assign (v := v3) rfl rfl) ?_
      refine wl_nil ?_
      refine W_th ?_
      refine W_seq ?_
      refine W_seq ?_
      refine W_reg (by kernel_rfl) ?_
      refine wla rfl rfl (q_move (v := p1) rfl rfl) ?_
      refine wla rfl rfl (q_len rfl T22.sl rfl (hp1.lift (Lift.ext e4 _))) ?_
      refine wla rfl rfl (q_move (v := (i64 0)) rfl rfl) ?_
      refine wl_nil ?_
      refine W_th ?_
      obtain ⟨x6, G6, H⟩ := Option.bind_eq_some_iff.1 H
      refine W_mid (fun f w => ∃ v6_18 : Value, f 6 = v6_18 ∧ f 33 = undef ∧ Ext w0 w ∧ OwK (Sc u8) w [v6_18] 5 v6_18 x6 ∧ Nw w0 v6_18) ?_ ?_
      · refine W_block ?_
        refine W_loop (fun s6 f w => ∃ v6_16 : Value, f 0 = p0 ∧ f 6 = v6_16 ∧ f 17 = p1 ∧ f 18 = (i64 ((a1xs.length : Int))) ∧ f 19 = (i64 s6.2) ∧ f 33 = undef ∧ Ext w0 w ∧ OwK (Sc u8) w [v6_16] 5 v6_16 s6.1 ∧ Nw w0 v6_16) G6 ?_ ?_
        · exact ⟨v3, rfl, rfl, rfl, rfl, rfl, rfl, e4, o3, n5⟩
        · rintro s6 _ _ w7 ⟨v6_7, s0_7, s6_7, s17_7, s18_7, s19_7, s33_7, hE7, o0_7, n0_7⟩ H6 hr6
          refine W_seq ?_
          refine W_reg (by kernel_rfl) ?_
          refine wla rfl rfl (q_ltI rfl s19_7 s18_7) ?_
          refine wl_nil ?_
          refine W_th ?_
          refine W_seq ?_
          refine W_cond _ rfl rfl (fun hb8 => ?_) (fun hb8 => ?_)
          · replace H6 := (if_pos (of_decide_eq_true hb8)).symm.trans H6
            refine W_skip ?_
            refine W_th ?_
            refine W_seq ?_
            refine W_block ?_
            refine W_seq ?_
            refine W_reg (by kernel_rfl) ?_
            obtain ⟨c9, hc9, H6⟩ := Option.bind_eq_some_iff.1 H6
            refine wla rfl rfl (q_adr rfl T22 s17_7 s19_7 (hp1.lift (Lift.ext hE7 _)) hc9) ?_
            refine wlq rfl rfl (q_loadS rfl T22 rfl (hp1.lift (Lift.ext hE7 _)) hc9) ?_
            refine wla rfl rfl (q_assign (v := (u8 c9)) rfl rfl) ?_
            refine wl_nil ?_
            refine W_th ?_
            refine W_reg (by kernel_rfl) ?_
            refine wla rfl rfl (q_move (v := p0) rfl s0_7) ?_
            refine wla rfl rfl (q_move (v := v6_7) rfl s6_7) ?_
            refine wla rfl rfl (q_move (v := (u8 c9)) rfl rfl) ?_
            refine wls rfl rfl (stp_lit (L := [v6_7]) (R := (Sc u8)) [(u8 c9), (u8 1)] ([c9, (1 : UInt8)] : List UInt8) rfl T22 rfl (by exact ⟨rfl, rfl, rfl, (cst8 (1 : UInt8) rfl), trivial⟩) rfl (litC u8 (oneC_u8) (us := [(u8 c9), (u8 1)]) (l := ([c9, (1 : UInt8)] : List UInt8)) rfl) rfl (litS u8 (us := [(u8 c9), (u8 1)]) (l := ([c9, (1 : UInt8)] : List UInt8)) rfl) ?_)
            intro v10 w10 o10 n10 g10 l10
            have x10 := grown_ext g10
            have i10 : By w10 [v6_7] v10 (([c9, (1 : UInt8)] : List UInt8)) := OwK.slk (Sc.stab _) _ o10 (fun k hk => (Old.cons (Old.nil _) o0_7.lt) k (n10 k hk)) (fun _ h => h.2)
            replace o0_7 := o0_7.extL (Sc.stab _) x10 (Lift.ext x10 _)
            have e11 := hE7.trans x10
            obtain ⟨r12, hr12, H6⟩ := Option.bind_eq_some_iff.1 H6
            refine wls rfl rfl (stp_call (vs := [p0, v6_7, v10]) Try.func51 rfl rfl rfl (ar3 rfl rfl rfl) (poly_Mul_calls a0f s6.1 ([c9, (1 : UInt8)] : List UInt8) p0 v6_7 v10 r12 _ (hp0.lift (Lift.ext e11 _)) (o0_7.rd (Sc.stab _)) (i10.lift (Lift.sub (fun _ _ => trivial))) hr12) ?_)
            rintro _ w12 ⟨v12_0, rfl, x12, n12_0, o12_0⟩
            refine ⟨_, rfl, ?_⟩
            have o12 : OwK (Sc u8) w12 (v12_0 :: [v6_7]) 5 v12_0 r12.1 := OwK.scal o12_0 _
            have q13 : Nq v6_7 v12_0 := o0_7.nq n12_0
            replace i10 := i10.lift (Lift.call _ x12 n12_0)
            replace o0_7 := o0_7.extL (Sc.stab _) x12 (Lift.call _ x12 n12_0)
            have n15 := Nw.ext e11 n12_0
            have e14 := e11.trans x12
            refine wla rfl rfl (q_move (v := (.tuple #[v12_0, (i64 r12.2)])) rfl rfl) ?_
            refine wla rfl rfl (q_extract rfl rfl rfl) ?_
            refine wla rfl rfl (q_extract rfl rfl rfl) ?_
            refine wla rfl rfl (q_assign (v := v12_0) rfl rfl) ?_
            refine wl_nil ?_
            refine bk_n ?_
            refine W_th ?_
            refine W_reg (by kernel_rfl) ?_
            refine wla rfl rfl (q_addI rfl s19_7 rfl) ?_
            refine wla rfl rfl (q_move (v := (i64 ((wI (s6.2 + 1))))) rfl rfl) ?_
            refine wl_nil ?_
            obtain rfl := Option.some.inj H6
            exact ⟨_, rfl, v12_0, s0_7, rfl, s17_7, s18_7, rfl, s33_7, e14, (o12.weak (Sc.stab _) (fun _ h => ⟨h.1, trivial⟩)), n15⟩
          · replace H6 := (if_neg (of_decide_eq_false hb8)).symm.trans H6
            refine W_exit ?_
            refine th_x ?_
            obtain rfl := Option.some.inj H6
            obtain rfl := hr6 _ rfl
            refine th_x ?_
            refine bk_x ?_
            exact ⟨v6_7, s6_7, s33_7, hE7, o0_7, n0_7⟩
      · rintro _ w17 ⟨v6_17, s6_17, s33_17, hE17, o0_17, n0_17⟩
        refine W_th ?_
        refine W_seq ?_
        refine W_reg (by kernel_rfl) ?_
        refine wla rfl rfl (q_move (v := v6_17) rfl s6_17) ?_
        refine wla rfl rfl (q_assign (v := v6_17) rfl rfl) ?_
        refine wla rfl rfl (q_assign (v := (i64 0)) rfl rfl) ?_
        refine wl_nil ?_
        refine W_th ?_
        refine W_ret ?_
        obtain rfl := Option.some.inj H
        refine rt2 v6_17 (i64 0) rfl rfl rfl rfl rfl s33_17 ?_
        exact ⟨v6_17, rfl, hE17, n0_17, (o0_17.weak (Sc.stab _) (fun _ _ => trivial))⟩

end Gk

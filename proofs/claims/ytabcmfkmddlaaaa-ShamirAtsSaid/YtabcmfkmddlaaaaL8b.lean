/- Printed by gen.py: for each Go function a pure function, and that the Go code comes to it. No condition beside the equation that says what the pure function gives. -/
import Derived.Test.YtabcmfkmddlaaaaL8a
set_option linter.unusedVariables false
set_option linter.unusedSimpArgs false
namespace Gk
open Go Go.Proofs

/-! largesse/largesselaw08.ShamirAts -/
noncomputable def law08_ShamirAts (a0xs : List UInt8) (a1shares : List (List UInt8)) (a2x : UInt8) : Option Bool :=
((law08_lives ).bind fun r1 =>
(if (!r1) = true then
((law08_lives ).bind fun r4 => some r4)
else
(if 12 < (a0xs.length : Int) then
((law08_lives ).bind fun r7 => some r7)
else
(if 12 < (a1shares.length : Int) then
((law08_lives ).bind fun r10 => some r10)
else
((iterC (fun s12 : Int × Int =>
(if s12.2 < (a1shares.length : Int) then
((idx a1shares s12.2).bind fun c15 =>
(if 20 < (c15.length : Int) then some (.inr (.inr true))
else
((idx a1shares 0).bind fun c18 =>
(if (c15.length : Int) = (c18.length : Int) then some (.inl (s12.1, (wI (s12.2 + 1))))
else some (.inl (3, (wI (s12.2 + 1))))))))
else some (.inr (.inl s12.1)))) (0, 0)).bind (Sum.elim (fun y12 =>
(((if (a0xs.length : Int) = (a1shares.length : Int) then some y12
else some 1)).bind fun x23 =>
(((if x23 = 0 then
((ref03_Places a0xs).bind fun r28 => some r28)
else some x23)).bind fun x26 =>
((field_New ).bind fun r31 =>
((shamir_At r31 a0xs a1shares a2x).bind fun r33 =>
((shamir_Join r31 a0xs a1shares).bind fun r35 =>
((shamir_At false a0xs a1shares a2x).bind fun r37 =>
(if r33.2 = x26 then
(if r35.2 = x26 then
(if r37.2 = 1 then
(if x26 = 0 then
((ref08_At a0xs a1shares a2x).bind fun r45 =>
(if r33.1 = r45 then
((ref08_At a0xs a1shares (0 : UInt8)).bind fun r48 => some (decide (r35.1 = r48)))
else some false))
else some (decide ((wI ((r33.1.length : Int) + (r35.1.length : Int))) = 0)))
else some false)
else some false)
else some false)))))))) (fun q12 => some q12)))))))
set_option maxRecDepth 100000 in
set_option maxHeartbeats 8000000 in
theorem law08_ShamirAts_calls (a0xs : List UInt8) (a1shares : List (List UInt8)) (a2x : UInt8) (p0 : Value) (p1 : Value) (r : Bool) (w0 : World) (hp0 : By w0 [] p0 a0xs) (hp1 : Rw w0 [] p1 a1shares) (H : law08_ShamirAts a0xs a1shares a2x = some r) :
    Calls Try.prog 3 [p0, p1, (u8 a2x)].toArray w0 (fun e w' => e = .returned (.bool r) ∧ Ext w0 w') := by
  have hE : Ext w0 w0 := Ext.refl w0
  unfold law08_ShamirAts at H
  refine calls_W (n := 116) Try.func3 rfl rfl rfl ?_
  refine W_seq ?_
  refine W_reg (by kernel_rfl) ?_
  refine wla rfl rfl (q_assign (v := (.bool false)) rfl rfl) ?_
  refine wl_nil ?_
  refine W_th ?_
  refine W_seq ?_
  refine W_seq ?_
  refine W_reg (by kernel_rfl) ?_
  obtain ⟨r1, hr1, H⟩ := Option.bind_eq_some_iff.1 H
  refine wls rfl rfl (stp_call (vs := []) Try.func12 rfl rfl rfl (ar0 ) (law08_lives_calls   r1 _  hr1) ?_)
  rintro _ w1 ⟨rfl, x1⟩
  refine ⟨_, rfl, ?_⟩
  have e2 := hE.trans x1
  refine wla rfl rfl (q_not rfl rfl) ?_
  refine wlb rfl rfl (q_move (v := (.bool ((!r1)))) rfl rfl) (fun hb3 => ?_) (fun hb3 => ?_)
  · replace H := (if_pos hb3).symm.trans H
    refine wlk rfl rfl ?_
    refine wlk rfl rfl ?_
    refine wlk rfl rfl ?_
    refine wla rfl rfl (q_pick_t (v := (.bool true)) rfl rfl rfl) ?_
    refine wla rfl rfl (q_move (v := (.bool true)) rfl rfl) ?_
    refine wlk rfl rfl ?_
    refine wlk rfl rfl ?_
    refine wlk rfl rfl ?_
    refine wla rfl rfl (q_pick_t (v := (.bool true)) rfl rfl rfl) ?_
    refine wl_nil ?_
    refine W_th ?_
    refine W_cond true rfl rfl (fun _ => ?_) (fun hb => by cases hb)
    refine W_seq ?_
    refine W_reg (by kernel_rfl) ?_
    obtain ⟨r4, hr4, H⟩ := Option.bind_eq_some_iff.1 H
    refine wls rfl rfl (stp_call (vs := []) Try.func12 rfl rfl rfl (ar0 ) (law08_lives_calls   r4 _  hr4) ?_)
    rintro _ w4 ⟨rfl, x4⟩
    refine ⟨_, rfl, ?_⟩
    have e5 := e2.trans x4
    refine wla rfl rfl (q_assign (v := (.bool r4)) rfl rfl) ?_
    refine wl_nil ?_
    refine W_th ?_
    refine W_ret ?_
    refine th_r ?_
    obtain rfl := Option.some.inj H
    refine rt1 (.bool r4) rfl rfl rfl rfl ?_
    exact ⟨rfl, e5⟩
  · replace H := (if_neg (ne_true_of_eq_false hb3)).symm.trans H
    refine wla rfl rfl (q_move (v := p0) rfl rfl) ?_
    refine wla rfl rfl (q_len rfl T22.sl rfl (hp0.lift (Lift.ext e2 _))) ?_
    refine wla rfl rfl (q_gtI rfl rfl rfl) ?_
    refine wla rfl rfl (q_pick_f (v := (.bool ((decide (12 < (a0xs.length : Int)))))) rfl rfl rfl) ?_
    refine wlb rfl rfl (q_move (v := (.bool ((decide (12 < (a0xs.length : Int)))))) rfl rfl) (fun hb6 => ?_) (fun hb6 => ?_)
    · replace H := (if_pos (of_decide_eq_true hb6)).symm.trans H
      refine wlk rfl rfl ?_
      refine wlk rfl rfl ?_
      refine wlk rfl rfl ?_
      refine wla rfl rfl (q_pick_t (v := (.bool true)) rfl rfl rfl) ?_
      refine wl_nil ?_
      refine W_th ?_
      refine W_cond true rfl rfl (fun _ => ?_) (fun hb => by cases hb)
      refine W_seq ?_
      refine W_reg (by kernel_rfl) ?_
      obtain ⟨r7, hr7, H⟩ := Option.bind_eq_some_iff.1 H
      refine wls rfl rfl (stp_call (vs := []) Try.func12 rfl rfl rfl (ar0 ) (law08_lives_calls   r7 _  hr7) ?_)
      rintro _ w7 ⟨rfl, x7⟩
      refine ⟨_, rfl, ?_⟩
      have e8 := e2.trans x7
      refine wla rfl rfl (q_assign (v := (.bool r7)) rfl rfl) ?_
      refine wl_nil ?_
      refine W_th ?_
      refine W_ret ?_
      refine th_r ?_
      obtain rfl := Option.some.inj H
      refine rt1 (.bool r7) rfl rfl rfl rfl ?_
      exact ⟨rfl, e8⟩
    · replace H := (if_neg (of_decide_eq_false hb6)).symm.trans H
      refine wla rfl rfl (q_move (v := p1) rfl rfl) ?_
      refine wla rfl rfl (q_len rfl T23.sl rfl (hp1.lift (Lift.ext e2 _))) ?_
      refine wla rfl rfl (q_gtI rfl rfl rfl) ?_
      refine wla rfl rfl (q_pick_f (v := (.bool ((decide (12 < (a1shares.length : Int)))))) rfl rfl rfl) ?_
      refine wl_nil ?_
      refine W_th ?_
      refine W_cond _ rfl rfl (fun hb9 => ?_) (fun hb9 => ?_)
      · replace H := (if_pos (of_decide_eq_true hb9)).symm.trans H
        refine W_seq ?_
        refine W_reg (by kernel_rfl) ?_
        obtain ⟨r10, hr10, H⟩ := Option.bind_eq_some_iff.1 H
        refine wls rfl rfl (stp_call (vs := []) Try.func12 rfl rfl rfl (ar0 ) (law08_lives_calls   r10 _  hr10) ?_)
        rintro _ w10 ⟨rfl, x10⟩
        refine ⟨_, rfl, ?_⟩
        have e11 := e2.trans x10
        refine wla rfl rfl (q_assign (v := (.bool r10)) rfl rfl) ?_
        refine wl_nil ?_
        refine W_th ?_
        refine W_ret ?_
        refine th_r ?_
        obtain rfl := Option.some.inj H
        refine rt1 (.bool r10) rfl rfl rfl rfl ?_
        exact ⟨rfl, e11⟩
      · replace H := (if_neg (of_decide_eq_false hb9)).symm.trans H
        refine W_skip ?_
        refine W_th ?_
        refine W_seq ?_
        refine W_reg (by kernel_rfl) ?_
        refine wla rfl rfl (q_assign (v := (i64 0)) rfl rfl) ?_
        refine wl_nil ?_
        refine W_th ?_
        refine W_seq ?_
        refine W_seq ?_
        refine W_reg (by kernel_rfl) ?_
        refine wla rfl rfl (q_move (v := p1) rfl rfl) ?_
        refine wla rfl rfl (q_len rfl T23.sl rfl (hp1.lift (Lift.ext e2 _))) ?_
        refine wla rfl rfl (q_move (v := (i64 0)) rfl rfl) ?_
        refine wl_nil ?_
        refine W_th ?_
        obtain ⟨x12, G12, H⟩ := Option.bind_eq_some_iff.1 H
        refine W_mid (fun f w => ∃ y12, x12 = .inl y12 ∧ f 0 = p0 ∧ f 1 = p1 ∧ f 2 = (u8 a2x) ∧ f 7 = (i64 y12) ∧ f 116 = undef ∧ Ext w0 w) ?_ ?_
        · refine W_block ?_
          refine W_loop (fun s12 f w => f 0 = p0 ∧ f 1 = p1 ∧ f 2 = (u8 a2x) ∧ f 7 = (i64 s12.1) ∧ f 30 = p1 ∧ f 31 = (i64 ((a1shares.length : Int))) ∧ f 32 = (i64 s12.2) ∧ f 116 = undef ∧ Ext w0 w) G12 ?_ ?_
          · exact ⟨rfl, rfl, rfl, rfl, rfl, rfl, rfl, rfl, e2⟩
          · rintro s12 _ _ w13 ⟨s0_13, s1_13, s2_13, s7_13, s30_13, s31_13, s32_13, s116_13, hE13⟩ H12 hr12
            refine W_seq ?_
            refine W_reg (by kernel_rfl) ?_
            refine wla rfl rfl (q_ltI rfl s32_13 s31_13) ?_
            refine wl_nil ?_
            refine W_th ?_
            refine W_seq ?_
            refine W_cond _ rfl rfl (fun hb14 => ?_) (fun hb14 => ?_)
            · replace H12 := (if_pos (of_decide_eq_true hb14)).symm.trans H12
              refine W_skip ?_
              refine W_th ?_
              refine W_seq ?_
              refine W_block ?_
              refine W_seq ?_
              refine W_reg (by kernel_rfl) ?_
              obtain ⟨c15, hc15, H12⟩ := Option.bind_eq_some_iff.1 H12
              refine wla rfl rfl (q_adr rfl T23 s30_13 s32_13 (hp1.lift (Lift.ext hE13 _)) hc15) ?_
              refine wlq_load rfl rfl rfl T23 rfl hp1 hc15 hE13 (fun v16 ha16 => ?_)
              refine wla rfl rfl (q_assign (v := v16) rfl rfl) ?_
              refine wl_nil ?_
              refine W_th ?_
              refine W_seq ?_
              refine W_seq ?_
              refine W_reg (by kernel_rfl) ?_
              refine wla rfl rfl (q_move (v := v16) rfl rfl) ?_
              refine wla rfl rfl (q_len rfl T22.sl rfl (ha16.lift (Lift.ext hE13 _))) ?_
              refine wla rfl rfl (q_gtI rfl rfl rfl) ?_
              refine wl_nil ?_
              refine W_th ?_
              refine W_cond _ rfl rfl (fun hb17 => ?_) (fun hb17 => ?_)
              · replace H12 := (if_pos (of_decide_eq_true hb17)).symm.trans H12
                refine W_seq ?_
                refine W_reg (by kernel_rfl) ?_
                refine wla rfl rfl (q_assign (v := (.bool true)) rfl rfl) ?_
                refine wl_nil ?_
                refine W_th ?_
                refine W_ret ?_
                refine th_r ?_
                refine bk_r ?_
                refine th_r ?_
                obtain rfl := Option.some.inj H12
                obtain rfl := hr12 _ rfl
                simp only [Sum.elim_inr] at H
                refine th_r ?_
                refine bk_r ?_
                refine th_r ?_
                refine th_r ?_
                obtain rfl := Option.some.inj H
                refine rt1 (.bool true) rfl rfl rfl s116_13 ?_
                exact ⟨rfl, hE13⟩
              · replace H12 := (if_neg (of_decide_eq_false hb17)).symm.trans H12
                refine W_skip ?_
                refine W_th ?_
                refine W_seq ?_
                refine W_reg (by kernel_rfl) ?_
                refine wla rfl rfl (q_move (v := v16) rfl rfl) ?_
                refine wla rfl rfl (q_len rfl T22.sl rfl (ha16.lift (Lift.ext hE13 _))) ?_
                refine wla rfl rfl (q_move (v := p1) rfl s1_13) ?_
                obtain ⟨c18, hc18, H12⟩ := Option.bind_eq_some_iff.1 H12
                refine wla rfl rfl (q_adr rfl T23 rfl rfl (hp1.lift (Lift.ext hE13 _)) hc18) ?_
                refine wlq_load rfl rfl rfl T23 rfl hp1 hc18 hE13 (fun v19 ha19 => ?_)
                refine wla rfl rfl (q_len rfl T22.sl rfl (ha19.lift (Lift.ext hE13 _))) ?_
                refine wla rfl rfl (q_neI rfl rfl rfl) ?_
                refine wl_nil ?_
                refine W_th ?_
                refine W_cond _ rfl rfl (fun hb20 => ?_) (fun hb20 => ?_)
                · replace H12 := (if_neg (ndec_t hb20)).symm.trans H12
                  refine W_reg (by kernel_rfl) ?_
                  refine wla rfl rfl (q_assign (v := (i64 3)) rfl rfl) ?_
                  refine wl_nil ?_
                  refine bk_n ?_
                  refine W_th ?_
                  refine W_reg (by kernel_rfl) ?_
                  refine wla rfl rfl (q_addI rfl s32_13 rfl) ?_
                  refine wla rfl rfl (q_move (v := (i64 ((wI (s12.2 + 1))))) rfl rfl) ?_
                  refine wl_nil ?_
                  obtain rfl := Option.some.inj H12
                  exact ⟨_, rfl, s0_13, s1_13, s2_13, rfl, s30_13, s31_13, rfl, s116_13, hE13⟩
                · replace H12 := (if_pos (ndec_f hb20)).symm.trans H12
                  refine W_skip ?_
                  refine bk_n ?_
                  refine W_th ?_
                  refine W_reg (by kernel_rfl) ?_
                  refine wla rfl rfl (q_addI rfl s32_13 rfl) ?_
                  refine wla rfl rfl (q_move (v := (i64 ((wI (s12.2 + 1))))) rfl rfl) ?_
                  refine wl_nil ?_
                  obtain rfl := Option.some.inj H12
                  exact ⟨_, rfl, s0_13, s1_13, s2_13, s7_13, s30_13, s31_13, rfl, s116_13, hE13⟩
            · replace H12 := (if_neg (of_decide_eq_false hb14)).symm.trans H12
              refine W_exit ?_
              refine th_x ?_
              obtain rfl := Option.some.inj H12
              obtain rfl := hr12 _ rfl
              refine th_x ?_
              refine bk_x ?_
              exact ⟨_, rfl, s0_13, s1_13, s2_13, s7_13, s116_13, hE13⟩
        · rintro _ w22 ⟨y12, rfl, s0_22, s1_22, s2_22, s7_22, s116_22, hE22⟩
          simp only [Sum.elim_inl] at H
          refine W_th ?_
          refine W_seq ?_
          obtain ⟨x23, H23, H⟩ := Option.bind_eq_some_iff.1 H
          refine W_mid (fun f w => f 0 = p0 ∧ f 1 = p1 ∧ f 2 = (u8 a2x) ∧ f 7 = (i64 x23) ∧ f 116 = undef ∧ Ext w0 w) ?_ ?_
          · refine W_seq ?_
            refine W_reg (by kernel_rfl) ?_
            refine wla rfl rfl (q_move (v := p0) rfl s0_22) ?_
            refine wla rfl rfl (q_len rfl T22.sl rfl (hp0.lift (Lift.ext hE22 _))) ?_
            refine wla rfl rfl (q_move (v := p1) rfl s1_22) ?_
            refine wla rfl rfl (q_len rfl T23.sl rfl (hp1.lift (Lift.ext hE22 _))) ?_
            refine wla rfl rfl (q_neI rfl rfl rfl) ?_
            refine wl_nil ?_
            refine W_th ?_
            refine W_cond _ rfl rfl (fun hb24 => ?_) (fun hb24 => ?_)
            · replace H23 := (if_neg (ndec_t hb24)).symm.trans H23
              refine W_reg (by kernel_rfl) ?_
              refine wla rfl rfl (q_assign (v := (i64 1)) rfl rfl) ?_
              refine wl_nil ?_
              obtain rfl := Option.some.inj H23
              exact ⟨s0_22, s1_22, s2_22, rfl, s116_22, hE22⟩
            · replace H23 := (if_pos (ndec_f hb24)).symm.trans H23
              refine W_skip ?_
              obtain rfl := Option.some.inj H23
              exact ⟨s0_22, s1_22, s2_22, s7_22, s116_22, hE22⟩
          · rintro _ w25 ⟨s0_25, s1_25, s2_25, s7_25, s116_25, hE25⟩
            refine W_th ?_
            refine W_seq ?_
            obtain ⟨x26, H26, H⟩ := Option.bind_eq_some_iff.1 H
            refine W_mid (fun f w => f 0 = p0 ∧ f 1 = p1 ∧ f 2 = (u8 a2x) ∧ f 7 = (i64 x26) ∧ f 116 = undef ∧ Ext w0 w) ?_ ?_
            · refine W_seq ?_
              refine W_reg (by kernel_rfl) ?_
              refine wla rfl rfl (q_move (v := (i64 x23)) rfl s7_25) ?_
              refine wla rfl rfl (q_eqI rfl rfl rfl) ?_
              refine wl_nil ?_
              refine W_th ?_
              refine W_cond _ rfl rfl (fun hb27 => ?_) (fun hb27 => ?_)
              · replace H26 := (if_pos (of_decide_eq_true hb27)).symm.trans H26
                refine W_reg (by kernel_rfl) ?_
                refine wla rfl rfl (q_move (v := p0) rfl s0_25) ?_
                obtain ⟨r28, hr28, H26⟩ := Option.bind_eq_some_iff.1 H26
                refine wls rfl rfl (stp_call (vs := [p0]) Try.func13 rfl rfl rfl (ar1 rfl) (ref03_Places_calls a0xs p0 r28 _ (hp0.lift (Lift.ext hE25 _)) hr28) ?_)
                rintro _ w28 ⟨rfl, x28⟩
                refine ⟨_, rfl, ?_⟩
                have e29 := hE25.trans x28
                refine wla rfl rfl (q_assign (v := (i64 r28)) rfl rfl) ?_
                refine wl_nil ?_
                obtain rfl := Option.some.inj H26
                exact ⟨s0_25, s1_25, s2_25, rfl, s116_25, e29⟩
              · replace H26 := (if_neg (of_decide_eq_false hb27)).symm.trans H26
                refine W_skip ?_
                obtain rfl := Option.some.inj H26
                exact ⟨s0_25, s1_25, s2_25, s7_25, s116_25, hE25⟩
            · rintro _ w30 ⟨s0_30, s1_30, s2_30, s7_30, s116_30, hE30⟩
              refine W_th ?_
              refine W_seq ?_
              refine W_reg (by kernel_rfl) ?_
              obtain ⟨r31, hr31, H⟩ := Option.bind_eq_some_iff.1 H
              refine wls rfl rfl (stp_call (vs := []) Try.func14 rfl rfl rfl (ar0 ) (field_New_calls   r31 _ [] (Old.nil _)  hr31) ?_)
              rintro _ w31 ⟨v31, rfl, x31, i31_0⟩
              refine ⟨_, rfl, ?_⟩
              have e32 := hE30.trans x31
              refine wla rfl rfl (q_assign (v := v31) rfl rfl) ?_
              refine wl_nil ?_
              refine W_th ?_
              refine W_seq ?_
              refine W_reg (by kernel_rfl) ?_
              refine wla rfl rfl (q_move (v := v31) rfl rfl) ?_
              refine wla rfl rfl (q_move (v := p0) rfl s0_30) ?_
              refine wla rfl rfl (q_move (v := p1) rfl s1_30) ?_
              refine wla rfl rfl (q_move (v := (u8 a2x)) rfl s2_30) ?_
              obtain ⟨r33, hr33, H⟩ := Option.bind_eq_some_iff.1 H
              refine wls rfl rfl (stp_call (vs := [v31, p0, p1, (u8 a2x)]) Try.func15 rfl rfl rfl (ar4 rfl rfl rfl rfl) (shamir_At_calls r31 a0xs a1shares a2x v31 p0 p1 r33 _ (i31_0.lift (Lift.sub (fun _ _ => trivial))) (hp0.lift (Lift.ext e32 _)) (hp1.lift (Lift.ext e32 _)) hr33) ?_)
              rintro _ w33 ⟨v33_0, rfl, x33, n33_0, o33_0⟩
              refine ⟨_, rfl, ?_⟩
              have i33_0 : By w33 [] v33_0 r33.1 := OwK.slk (Sc.stab _) _ (OwK.scal o33_0 (v33_0 :: [])) (fun k hk => (Old.nil _) k (n33_0 k hk)) (fun _ h => h.2)
              replace i31_0 := i31_0.lift (Lift.ext x33 _)
              have e34 := e32.trans x33
              refine wla rfl rfl (q_move (v := (.tuple #[v33_0, (i64 r33.2)])) rfl rfl) ?_
              refine wla rfl rfl (q_extract rfl rfl rfl) ?_
              refine wla rfl rfl (q_extract rfl rfl rfl) ?_
              refine wla rfl rfl (q_assign (v := v33_0) rfl rfl) ?_
              refine wla rfl rfl (q_assign (v := (i64 r33.2)) rfl rfl) ?_
              refine wl_nil ?_
              refine W_th ?_
              refine W_seq ?_
              refine W_reg (by kernel_rfl) ?_
              refine wla rfl rfl (q_move (v := v31) rfl rfl) ?_
              refine wla rfl rfl (q_move (v := p0) rfl s0_30) ?_
              refine wla rfl rfl (q_move (v := p1) rfl s1_30) ?_
              obtain ⟨r35, hr35, H⟩ := Option.bind_eq_some_iff.1 H
              refine wls rfl rfl (stp_call (vs := [v31, p0, p1]) Try.func16 rfl rfl rfl (ar3 rfl rfl rfl) (shamir_Join_calls r31 a0xs a1shares v31 p0 p1 r35 _ (i31_0.lift (Lift.sub (fun _ _ => trivial))) (hp0.lift (Lift.ext e34 _)) (hp1.lift (Lift.ext e34 _)) hr35) ?_)
              rintro _ w35 ⟨v35_0, rfl, x35, n35_0, o35_0⟩
              refine ⟨_, rfl, ?_⟩
              have i35_0 : By w35 [] v35_0 r35.1 := OwK.slk (Sc.stab _) _ (OwK.scal o35_0 (v35_0 :: [])) (fun k hk => (Old.nil _) k (n35_0 k hk)) (fun _ h => h.2)
              replace i31_0 := i31_0.lift (Lift.ext x35 _)
              replace i33_0 := i33_0.lift (Lift.ext x35 _)
              have e36 := e34.trans x35
              refine wla rfl rfl (q_move (v := (.tuple #[v35_0, (i64 r35.2)])) rfl rfl) ?_
              refine wla rfl rfl (q_extract rfl rfl rfl) ?_
              refine wla rfl rfl (q_extract rfl rfl rfl) ?_
              refine wla rfl rfl (q_assign (v := v35_0) rfl rfl) ?_
              refine wla rfl rfl (q_assign (v := (i64 r35.2)) rfl rfl) ?_
              refine wl_nil ?_
              refine W_th ?_
              refine W_seq ?_
              refine W_reg (by kernel_rfl) ?_
              refine wla rfl rfl (q_move (v := p0) rfl s0_30) ?_
              refine wla rfl rfl (q_move (v := p1) rfl s1_30) ?_
              refine wla rfl rfl (q_move (v := (u8 a2x)) rfl s2_30) ?_
              obtain ⟨r37, hr37, H⟩ := Option.bind_eq_some_iff.1 H
              refine wls rfl rfl (stp_call (vs := [(.pointer none), p0, p1, (u8 a2x)]) Try.func15 rfl rfl rfl (ar4 rfl rfl rfl rfl) (shamir_At_calls false a0xs a1shares a2x (.pointer none) p0 p1 r37 _ (Fd.nil _ _) (hp0.lift (Lift.ext e36 _)) (hp1.lift (Lift.ext e36 _)) hr37) ?_)
              rintro _ w37 ⟨v37_0, rfl, x37, n37_0, o37_0⟩
              refine ⟨_, rfl, ?_⟩
              have i37_0 : By w37 [] v37_0 r37.1 := OwK.slk (Sc.stab _) _ (OwK.scal o37_0 (v37_0 :: [])) (fun k hk => (Old.nil _) k (n37_0 k hk)) (fun _ h => h.2)
              replace i31_0 := i31_0.lift (Lift.ext x37 _)
              replace i33_0 := i33_0.lift (Lift.ext x37 _)
              replace i35_0 := i35_0.lift (Lift.ext x37 _)
              have e38 := e36.trans x37
              refine wla rfl rfl (q_move (v := (.tuple #[v37_0, (i64 r37.2)])) rfl rfl) ?_
              refine wla rfl rfl (q_extract rfl rfl rfl) ?_
              refine wla rfl rfl (q_extract rfl rfl rfl) ?_
              refine wla rfl rfl (q_assign (v := v37_0) rfl rfl) ?_
              refine wla rfl rfl (q_assign (v := (i64 r37.2)) rfl rfl) ?_
              refine wl_nil ?_
              refine W_th ?_
              refine W_seq ?_
              refine W_seq ?_
              refine W_reg (by kernel_rfl) ?_
              refine wla rfl rfl (q_move (v := (i64 r33.2)) rfl rfl) ?_
              refine wla rfl rfl (q_move (v := (i64 x26)) rfl s7_30) ?_
              refine wla rfl rfl (q_neI rfl rfl rfl) ?_
              refine wlb rfl rfl (q_move (v := (.bool ((!decide (r33.2 = x26))))) rfl rfl) (fun hb39 => ?_) (fun hb39 => ?_)
              · replace H := (if_neg (ndec_t hb39)).symm.trans H
                refine wlk rfl rfl ?_
                refine wlk rfl rfl ?_
                refine wlk rfl rfl ?_
                refine wla rfl rfl (q_pick_t (v := (.bool true)) rfl rfl rfl) ?_
                refine wla rfl rfl (q_move (v := (.bool true)) rfl rfl) ?_
                refine wlk rfl rfl ?_
                refine wlk rfl rfl ?_
                refine wla rfl rfl (q_pick_t (v := (.bool true)) rfl rfl rfl) ?_
                refine wl_nil ?_
                refine W_th ?_
                refine W_cond true rfl rfl (fun _ => ?_) (fun hb => by cases hb)
                refine W_seq ?_
                refine W_reg (by kernel_rfl) ?_
                refine wla rfl rfl (q_assign (v := (.bool false)) rfl rfl) ?_
                refine wl_nil ?_
                refine W_th ?_
                refine W_ret ?_
                refine th_r ?_
                obtain rfl := Option.some.inj H
                refine rt1 (.bool false) rfl rfl rfl s116_30 ?_
                exact ⟨rfl, e38⟩
              · replace H := (if_pos (ndec_f hb39)).symm.trans H
                refine wla rfl rfl (q_move (v := (i64 r35.2)) rfl rfl) ?_
                refine wla rfl rfl (q_move (v := (i64 x26)) rfl s7_30) ?_
                refine wla rfl rfl (q_neI rfl rfl rfl) ?_
                refine wla rfl rfl (q_pick_f (v := (.bool ((!decide (r35.2 = x26))))) rfl rfl rfl) ?_
                refine wlb rfl rfl (q_move (v := (.bool ((!decide (r35.2 = x26))))) rfl rfl) (fun hb40 => ?_) (fun hb40 => ?_)
                · replace H := (if_neg (ndec_t hb40)).symm.trans H
                  refine wlk rfl rfl ?_
                  refine wlk rfl rfl ?_
                  refine wla rfl rfl (q_pick_t (v := (.bool true)) rfl rfl rfl) ?_
                  refine wl_nil ?_
                  refine W_th ?_
                  refine W_cond true rfl rfl (fun _ => ?_) (fun hb => by cases hb)
                  refine W_seq ?_
                  refine W_reg (by kernel_rfl) ?_
                  refine wla rfl rfl (q_assign (v := (.bool false)) rfl rfl) ?_
                  refine wl_nil ?_
                  refine W_th ?_
                  refine W_ret ?_
                  refine th_r ?_
                  obtain rfl := Option.some.inj H
                  refine rt1 (.bool false) rfl rfl rfl s116_30 ?_
                  exact ⟨rfl, e38⟩
                · replace H := (if_pos (ndec_f hb40)).symm.trans H
                  refine wla rfl rfl (q_move (v := (i64 r37.2)) rfl rfl) ?_
                  refine wla rfl rfl (q_neI rfl rfl rfl) ?_
                  refine wla rfl rfl (q_pick_f (v := (.bool ((!decide (r37.2 = 1))))) rfl rfl rfl) ?_
                  refine wl_nil ?_
                  refine W_th ?_
                  refine W_cond _ rfl rfl (fun hb41 => ?_) (fun hb41 => ?_)
                  · replace H := (if_neg (ndec_t hb41)).symm.trans H
                    refine W_seq ?_
                    refine W_reg (by kernel_rfl) ?_
                    refine wla rfl rfl (q_assign (v := (.bool false)) rfl rfl) ?_
                    refine wl_nil ?_
                    refine W_th ?_
                    refine W_ret ?_
                    refine th_r ?_
                    obtain rfl := Option.some.inj H
                    refine rt1 (.bool false) rfl rfl rfl s116_30 ?_
                    exact ⟨rfl, e38⟩
                  · replace H := (if_pos (ndec_f hb41)).symm.trans H
                    refine W_skip ?_
                    refine W_th ?_
                    refine W_seq ?_
                    refine W_seq ?_
                    refine W_reg (by kernel_rfl) ?_
                    refine wla rfl rfl (q_move (v := (i64 x26)) rfl s7_30) ?_
                    refine wla rfl rfl (q_neI rfl rfl rfl) ?_
                    refine wl_nil ?_
                    refine W_th ?_
                    refine W_cond _ rfl rfl (fun hb42 => ?_) (fun hb42 => ?_)
                    · replace H := (if_neg (ndec_t hb42)).symm.trans H
                      refine W_seq ?_
                      refine W_reg (by kernel_rfl) ?_
                      refine wla rfl rfl (q_move (v := v33_0) rfl rfl) ?_
                      refine wla rfl rfl (q_len rfl T22.sl rfl i33_0) ?_
                      refine wla rfl rfl (q_move (v := v35_0) rfl rfl) ?_
                      refine wla rfl rfl (q_len rfl T22.sl rfl i35_0) ?_
                      refine wla rfl rfl (q_addI rfl rfl rfl) ?_
                      refine wla rfl rfl (q_eqI rfl rfl rfl) ?_
                      refine wla rfl rfl (q_assign (v := (.bool ((decide ((wI ((r33.1.length : Int) + (r35.1.length : Int))) = 0))))) rfl rfl) ?_
                      refine wl_nil ?_
                      refine W_th ?_
                      refine W_ret ?_
                      refine th_r ?_
                      obtain rfl := Option.some.inj H
                      refine rt1 (.bool ((decide ((wI ((r33.1.length : Int) + (r35.1.length : Int))) = 0)))) rfl rfl rfl s116_30 ?_
                      exact ⟨rfl, e38⟩
                    · replace H := (if_pos (ndec_f hb42)).symm.trans H
                      refine W_skip ?_
                      refine W_th ?_
                      refine W_seq ?_
                      refine W_draw [1, 6, 10, 14] [(0, 0), (1, 1), (2, 0), (3, 0), (4, 0), (5, 2), (6, 1), (7, 0), (8, 0), (9, 0), (10, 1), (11, 0), (12, 0), (13, 2), (14, 1), (15, 0), (16, 0), (17, 0)] mixed (by kernel_rfl) (by kernel_rfl) (by kernel_rfl) (by kernel_rfl) ?_
                      have x43 := Ext.drew w37
                      replace i31_0 := i31_0.lift (Lift.ext x43 _)
                      replace i33_0 := i33_0.lift (Lift.ext x43 _)
                      replace i35_0 := i35_0.lift (Lift.ext x43 _)
                      replace i37_0 := i37_0.lift (Lift.ext x43 _)
                      have e44 := e38.trans x43
                      refine wsa rfl rfl rfl (q_move (v := v33_0) rfl rfl) ?_
                      refine wsq rfl rfl rfl (q_str rfl T22 rfl rfl rfl i33_0) ?_
                      refine wsa rfl rfl rfl (q_move (v := p0) rfl s0_30) ?_
                      refine wsa rfl rfl rfl (q_move (v := p1) rfl s1_30) ?_
                      refine wsa rfl rfl rfl (q_move (v := (u8 a2x)) rfl s2_30) ?_
                      obtain ⟨r45, hr45, H⟩ := Option.bind_eq_some_iff.1 H
                      refine wss rfl rfl rfl (stp_call (vs := [p0, p1, (u8 a2x)]) Try.func17 rfl rfl rfl (ar3 rfl rfl rfl) (ref08_At_calls a0xs a1shares a2x p0 p1 r45 _ (hp0.lift (Lift.ext e44 _)) (hp1.lift (Lift.ext e44 _)) hr45) ?_)
                      rintro _ w45 ⟨v45, rfl, x45, n45_0, o45_0⟩
                      refine ⟨_, rfl, x45, ?_⟩
                      have i45_0 : By w45 [] v45 r45 := OwK.slk (Sc.stab _) _ (OwK.scal o45_0 (v45 :: [])) (fun k hk => (Old.nil _) k (n45_0 k hk)) (fun _ h => h.2)
                      replace i31_0 := i31_0.lift (Lift.ext x45 _)
                      replace i33_0 := i33_0.lift (Lift.ext x45 _)
                      replace i35_0 := i35_0.lift (Lift.ext x45 _)
                      replace i37_0 := i37_0.lift (Lift.ext x45 _)
                      have e46 := e44.trans x45
                      refine wsq rfl rfl rfl (q_str rfl T22 rfl rfl rfl i45_0) ?_
                      refine wsa rfl rfl rfl (q_eqS rfl rfl rfl) ?_
                      refine wsb rfl rfl rfl (q_move (v := (.bool ((decide (r33.1 = r45))))) rfl rfl) (fun hb47 => ?_) (fun hb47 => ?_)
                      · replace H := (if_pos (of_decide_eq_true hb47)).symm.trans H
                        refine wsa rfl rfl rfl (q_move (v := v35_0) rfl rfl) ?_
                        refine wsq rfl rfl rfl (q_str rfl T22 rfl rfl rfl i35_0) ?_
                        refine wsa rfl rfl rfl (q_move (v := p0) rfl s0_30) ?_
                        refine wsa rfl rfl rfl (q_move (v := p1) rfl s1_30) ?_
                        obtain ⟨r48, hr48, H⟩ := Option.bind_eq_some_iff.1 H
                        refine wss rfl rfl rfl (stp_call (vs := [p0, p1, (u8 0)]) Try.func17 rfl rfl rfl (ar3 rfl rfl (cst8 (0 : UInt8) rfl)) (ref08_At_calls a0xs a1shares (0 : UInt8) p0 p1 r48 _ (hp0.lift (Lift.ext e46 _)) (hp1.lift (Lift.ext e46 _)) hr48) ?_)
                        rintro _ w48 ⟨v48, rfl, x48, n48_0, o48_0⟩
                        refine ⟨_, rfl, x48, ?_⟩
                        have i48_0 : By w48 [] v48 r48 := OwK.slk (Sc.stab _) _ (OwK.scal o48_0 (v48 :: [])) (fun k hk => (Old.nil _) k (n48_0 k hk)) (fun _ h => h.2)
                        replace i31_0 := i31_0.lift (Lift.ext x48 _)
                        replace i33_0 := i33_0.lift (Lift.ext x48 _)
                        replace i35_0 := i35_0.lift (Lift.ext x48 _)
                        replace i37_0 := i37_0.lift (Lift.ext x48 _)
                        replace i45_0 := i45_0.lift (Lift.ext x48 _)
                        have e49 := e46.trans x48
                        refine wsq rfl rfl rfl (q_str rfl T22 rfl rfl rfl i48_0) ?_
                        refine wsa rfl rfl rfl (q_eqS rfl rfl rfl) ?_
                        refine wsa rfl rfl rfl (q_pick_t (v := (.bool ((decide (r35.1 = r48))))) rfl rfl rfl) ?_
                        refine wsa rfl rfl rfl (q_assign (v := (.bool ((decide (r35.1 = r48))))) rfl rfl) ?_
                        refine ws_nil ?_
                        refine W_th ?_
                        refine W_ret ?_
                        obtain rfl := Option.some.inj H
                        refine rt1 (.bool ((decide (r35.1 = r48)))) rfl rfl rfl s116_30 ?_
                        exact ⟨rfl, e49⟩
                      · replace H := (if_neg (of_decide_eq_false hb47)).symm.trans H
                        refine wsk rfl rfl rfl ?_
                        refine wsk rfl rfl rfl ?_
                        refine wsk rfl rfl rfl ?_
                        refine wsk rfl rfl rfl ?_
                        refine wsk rfl rfl rfl ?_
                        refine wsk rfl rfl rfl ?_
                        refine wsk rfl rfl rfl ?_
                        refine wsa rfl rfl rfl (q_pick_f (v := (.bool false)) rfl rfl rfl) ?_
                        refine wsa rfl rfl rfl (q_assign (v := (.bool false)) rfl rfl) ?_
                        refine ws_nil ?_
                        refine W_th ?_
                        refine W_ret ?_
                        obtain rfl := Option.some.inj H
                        refine rt1 (.bool false) rfl rfl rfl s116_30 ?_
                        exact ⟨rfl, e46⟩

end Gk

/- Printed by gen.py: for each Go function a pure function, and that the Go code comes to it. No condition beside the equation that says what the pure function gives. -/
import Derived.Test.YtabcmfkmddlaaaaL8a
set_option linter.unusedVariables false
set_option linter.unusedSimpArgs false
namespace Gk
open Go Go.Proofs

/-! largesse/largesselaw08.ShamirSplits -/
noncomputable def law08_ShamirSplits (a0t : Int) (a1secret : List UInt8) (a2mask : List UInt8) (a3xs : List UInt8) (a4exact : Bool) : Option Bool :=
((law08_lives ).bind fun r1 =>
(if (!r1) = true then
((law08_lives ).bind fun r4 => some r4)
else
(if 40 < (a1secret.length : Int) then
((law08_lives ).bind fun r7 => some r7)
else
(if 500 < (a2mask.length : Int) then
((law08_lives ).bind fun r10 => some r10)
else
(if 20 < (a3xs.length : Int) then
((law08_lives ).bind fun r13 => some r13)
else
(((if a4exact = true then
((law08_Made a2mask (wI ((wI ((wI (1 + (wI ((((UInt64.ofInt a0t) % (12 : UInt64))).toNat : Int)))) - 1)) * (a1secret.length : Int)))).bind fun r17 => some ((wI (1 + (wI ((((UInt64.ofInt a0t) % (12 : UInt64))).toNat : Int)))), r17))
else some (a0t, a2mask))).bind fun x15 =>
((field_New ).bind fun r20 =>
((shamir_Split r20 x15.1 a1secret x15.2 a3xs).bind fun r22 =>
((iterC (fun s24 : Bool × Int =>
(if s24.2 < (a3xs.length : Int) then
((idx a3xs s24.2).bind fun c27 =>
(if s24.1 = true then some (.inl (true, (wI (s24.2 + 1))))
else some (.inl ((decide (c27 = (0 : UInt8))), (wI (s24.2 + 1))))))
else some (.inr s24.1))) (false, 0)).bind fun x24 =>
(((if x15.1 < 1 then some 2
else
(if 255 < x15.1 then some 2
else
(if x24 = true then some 2
else
(if (x15.2.length : Int) = (wI ((wI (x15.1 - 1)) * (a1secret.length : Int))) then some 0
else some 3))))).bind fun x31 =>
(if r22.2 = x31 then
(if x31 = 0 then
(if (r22.1.length : Int) = (a3xs.length : Int) then
((shamir_MaskSize x15.1 (a1secret.length : Int)).bind fun r42 =>
(if r42 = (x15.2.length : Int) then
((iterC (fun s45 : Int =>
(if s45 < (a3xs.length : Int) then
((idx a3xs s45).bind fun c48 =>
((shamir_Share r20 x15.1 a1secret x15.2 c48).bind fun r49 =>
(if r49.2 = 0 then
((idx r22.1 s45).bind fun c54 =>
((ref08_Share x15.1 a1secret x15.2 c48).bind fun r56 =>
(if c54 = r56 then
(if r49.1 = c54 then some (.inl (wI (s45 + 1)))
else some (.inr (.inr false)))
else some (.inr (.inr false)))))
else some (.inr (.inr false)))))
else some (.inr (.inl ())))) 0).bind (Sum.elim (fun y45 =>
((shamir_Split false x15.1 a1secret x15.2 a3xs).bind fun r63 =>
((shamir_Share r20 x15.1 a1secret x15.2 (0 : UInt8)).bind fun r65 =>
(if r63.2 = 1 then
(if r65.2 = 2 then
((shamir_MaskSize 0 1).bind fun r69 =>
((shamir_MaskSize 256 1).bind fun r71 =>
((shamir_MaskSize 2 (-1)).bind fun r73 => some (decide ((wI ((wI (r69 + r71)) + r73)) = 0)))))
else some false)
else some false)))) (fun q45 => some q45)))
else some false))
else some false)
else
(if r22.2 = x31 then some (decide ((r22.1.length : Int) = 0))
else some false))
else
(if r22.2 = x31 then some (decide ((r22.1.length : Int) = 0))
else some false))))))))))))
set_option maxRecDepth 100000 in
set_option maxHeartbeats 8000000 in
theorem law08_ShamirSplits_calls (a0t : Int) (a1secret : List UInt8) (a2mask : List UInt8) (a3xs : List UInt8) (a4exact : Bool) (p1 : Value) (p2 : Value) (p3 : Value) (r : Bool) (w0 : World) (hp1 : By w0 [] p1 a1secret) (hp2 : By w0 [] p2 a2mask) (hp3 : By w0 [] p3 a3xs) (H : law08_ShamirSplits a0t a1secret a2mask a3xs a4exact = some r) :
    Calls Try.prog 4 [(i64 a0t), p1, p2, p3, (.bool a4exact)].toArray w0 (fun e w' => e = .returned (.bool r) ∧ Ext w0 w') := by
  have hE : Ext w0 w0 := Ext.refl w0
  unfold law08_ShamirSplits at H
  refine calls_W (n := 200) Try.func4 rfl rfl rfl ?_
  refine W_seq ?_
  refine W_reg (by kernel_rfl) ?_
  refine wla rfl rfl (q_assign (v := (.bool false)) rfl rfl) ?_
  refine wl_nil ?_
  refine W_th ?_
  refine W_seq ?_
  refine W_seq ?_
  refine W_reg (by kernel_rfl) ?_
  obtain ⟨r1, hr1, H⟩ := Option.bind_eq_some_iff.1 H
  refine wls rfl rfl (stp_call (vs := []) Try.func12 rfl rfl rfl (ar0 ) (law08_lives_calls   r1 _  hr1) ?_)
  rintro _ w1 ⟨rfl, x1⟩
  refine ⟨_, rfl, ?_⟩
  have e2 := hE.trans x1
  refine wla rfl rfl (q_not rfl rfl) ?_
  refine wlb rfl rfl (q_move (v := (.bool ((!r1)))) rfl rfl) (fun hb3 => ?_) (fun hb3 => ?_)
  · replace H := (if_pos hb3).symm.trans H
    refine wlk rfl rfl ?_
    refine wlk rfl rfl ?_
    refine wlk rfl rfl ?_
    refine wla rfl rfl (q_pick_t (v := (.bool true)) rfl rfl rfl) ?_
    refine wla rfl rfl (q_move (v := (.bool true)) rfl rfl) ?_
    refine wlk rfl rfl ?_
    refine wlk rfl rfl ?_
    refine wlk rfl rfl ?_
    refine wla rfl rfl (q_pick_t (v := (.bool true)) rfl rfl rfl) ?_
    refine wla rfl rfl (q_move (v := (.bool true)) rfl rfl) ?_
    refine wlk rfl rfl ?_
    refine wlk rfl rfl ?_
    refine wlk rfl rfl ?_
    refine wla rfl rfl (q_pick_t (v := (.bool true)) rfl rfl rfl) ?_
    refine wl_nil ?_
    refine W_th ?_
    refine W_cond true rfl rfl (fun _ => ?_) (fun hb => by cases hb)
    refine W_seq ?_
    refine W_reg (by kernel_rfl) ?_
    obtain ⟨r4, hr4, H⟩ := Option.bind_eq_some_iff.1 H
    refine wls rfl rfl (stp_call (vs := []) Try.func12 rfl rfl rfl (ar0 ) (law08_lives_calls   r4 _  hr4) ?_)
    rintro _ w4 ⟨rfl, x4⟩
    refine ⟨_, rfl, ?_⟩
    have e5 := e2.trans x4
    refine wla rfl rfl (q_assign (v := (.bool r4)) rfl rfl) ?_
    refine wl_nil ?_
    refine W_th ?_
    refine W_ret ?_
    refine th_r ?_
    obtain rfl := Option.some.inj H
    refine rt1 (.bool r4) rfl rfl rfl rfl ?_
    exact ⟨rfl, e5⟩
  · replace H := (if_neg (ne_true_of_eq_false hb3)).symm.trans H
    refine wla rfl rfl (q_move (v := p1) rfl rfl) ?_
    refine wla rfl rfl (q_len rfl T22.sl rfl (hp1.lift (Lift.ext e2 _))) ?_
    refine wla rfl rfl (q_gtI rfl rfl rfl) ?_
    refine wla rfl rfl (q_pick_f (v := (.bool ((decide (40 < (a1secret.length : Int)))))) rfl rfl rfl) ?_
    refine wlb rfl rfl (q_move (v := (.bool ((decide (40 < (a1secret.length : Int)))))) rfl rfl) (fun hb6 => ?_) (fun hb6 => ?_)
    · replace H := (if_pos (of_decide_eq_true hb6)).symm.trans H
      refine wlk rfl rfl ?_
      refine wlk rfl rfl ?_
      refine wlk rfl rfl ?_
      refine wla rfl rfl (q_pick_t (v := (.bool true)) rfl rfl rfl) ?_
      refine wla rfl rfl (q_move (v := (.bool true)) rfl rfl) ?_
      refine wlk rfl rfl ?_
      refine wlk rfl rfl ?_
      refine wlk rfl rfl ?_
      refine wla rfl rfl (q_pick_t (v := (.bool true)) rfl rfl rfl) ?_
      refine wl_nil ?_
      refine W_th ?_
      refine W_cond true rfl rfl (fun _ => ?_) (fun hb => by cases hb)
      refine W_seq ?_
      refine W_reg (by kernel_rfl) ?_
      obtain ⟨r7, hr7, H⟩ := Option.bind_eq_some_iff.1 H
      refine wls rfl rfl (stp_call (vs := []) Try.func12 rfl rfl rfl (ar0 ) (law08_lives_calls   r7 _  hr7) ?_)
      rintro _ w7 ⟨rfl, x7⟩
      refine ⟨_, rfl, ?_⟩
      have e8 := e2.trans x7
      refine wla rfl rfl (q_assign (v := (.bool r7)) rfl rfl) ?_
      refine wl_nil ?_
      refine W_th ?_
      refine W_ret ?_
      refine th_r ?_
      obtain rfl := Option.some.inj H
      refine rt1 (.bool r7) rfl rfl rfl rfl ?_
      exact ⟨rfl, e8⟩
    · replace H := (if_neg (of_decide_eq_false hb6)).symm.trans H
      refine wla rfl rfl (q_move (v := p2) rfl rfl) ?_
      refine wla rfl rfl (q_len rfl T22.sl rfl (hp2.lift (Lift.ext e2 _))) ?_
      refine wla rfl rfl (q_gtI rfl rfl rfl) ?_
      refine wla rfl rfl (q_pick_f (v := (.bool ((decide (500 < (a2mask.length : Int)))))) rfl rfl rfl) ?_
      refine wlb rfl rfl (q_move (v := (.bool ((decide (500 < (a2mask.length : Int)))))) rfl rfl) (fun hb9 => ?_) (fun hb9 => ?_)
      · replace H := (if_pos (of_decide_eq_true hb9)).symm.trans H
        refine wlk rfl rfl ?_
        refine wlk rfl rfl ?_
        refine wlk rfl rfl ?_
        refine wla rfl rfl (q_pick_t (v := (.bool true)) rfl rfl rfl) ?_
        refine wl_nil ?_
        refine W_th ?_
        refine W_cond true rfl rfl (fun _ => ?_) (fun hb => by cases hb)
        refine W_seq ?_
        refine W_reg (by kernel_rfl) ?_
        obtain ⟨r10, hr10, H⟩ := Option.bind_eq_some_iff.1 H
        refine wls rfl rfl (stp_call (vs := []) Try.func12 rfl rfl rfl (ar0 ) (law08_lives_calls   r10 _  hr10) ?_)
        rintro _ w10 ⟨rfl, x10⟩
        refine ⟨_, rfl, ?_⟩
        have e11 := e2.trans x10
        refine wla rfl rfl (q_assign (v := (.bool r10)) rfl rfl) ?_
        refine wl_nil ?_
        refine W_th ?_
        refine W_ret ?_
        refine th_r ?_
        obtain rfl := Option.some.inj H
        refine rt1 (.bool r10) rfl rfl rfl rfl ?_
        exact ⟨rfl, e11⟩
      · replace H := (if_neg (of_decide_eq_false hb9)).symm.trans H
        refine wla rfl rfl (q_move (v := p3) rfl rfl) ?_
        refine wla rfl rfl (q_len rfl T22.sl rfl (hp3.lift (Lift.ext e2 _))) ?_
        refine wla rfl rfl (q_gtI rfl rfl rfl) ?_
        refine wla rfl rfl (q_pick_f (v := (.bool ((decide (20 < (a3xs.length : Int)))))) rfl rfl rfl) ?_
        refine wl_nil ?_
        refine W_th ?_
        refine W_cond _ rfl rfl (fun hb12 => ?_) (fun hb12 => ?_)
        · replace H := (if_pos (of_decide_eq_true hb12)).symm.trans H
          refine W_seq ?_
          refine W_reg (by kernel_rfl) ?_
          obtain ⟨r13, hr13, H⟩ := Option.bind_eq_some_iff.1 H
          refine wls rfl rfl (stp_call (vs := []) Try.func12 rfl rfl rfl (ar0 ) (law08_lives_calls   r13 _  hr13) ?_)
          rintro _ w13 ⟨rfl, x13⟩
          refine ⟨_, rfl, ?_⟩
          have e14 := e2.trans x13
          refine wla rfl rfl (q_assign (v := (.bool r13)) rfl rfl) ?_
          refine wl_nil ?_
          refine W_th ?_
          refine W_ret ?_
          refine th_r ?_
          obtain rfl := Option.some.inj H
          refine rt1 (.bool r13) rfl rfl rfl rfl ?_
          exact ⟨rfl, e14⟩
        · replace H := (if_neg (of_decide_eq_false hb12)).symm.trans H
          refine W_skip ?_
          refine W_th ?_
          refine W_seq ?_
          obtain ⟨x15, H15, H⟩ := Option.bind_eq_some_iff.1 H
          refine W_mid (fun f w => ∃ v2_78 : Value, f 0 = (i64 x15.1) ∧ f 1 = p1 ∧ f 2 = v2_78 ∧ f 3 = p3 ∧ f 200 = undef ∧ Ext w0 w ∧ By w [] v2_78 x15.2) ?_ ?_
          · refine W_seq ?_
            refine W_reg (by kernel_rfl) ?_
            refine wla rfl rfl (q_move (v := (.bool a4exact)) rfl rfl) ?_
            refine wl_nil ?_
            refine W_th ?_
            refine W_cond _ rfl rfl (fun hb16 => ?_) (fun hb16 => ?_)
            · replace H15 := (if_pos hb16).symm.trans H15
              refine W_seq ?_
              refine W_reg (by kernel_rfl) ?_
              refine wla rfl rfl (q_move (v := (i64 a0t)) rfl rfl) ?_
              refine wla rfl rfl (q_cvt64I rfl rfl rfl rfl) ?_
              refine wla rfl rfl (q_rem64 rfl rfl (cst64 (12 : UInt64) rfl) (by decide)) ?_
              refine wla rfl rfl (q_cvtI64 rfl rfl rfl rfl) ?_
              refine wla rfl rfl (q_addI rfl rfl rfl) ?_
              refine wla rfl rfl (q_assign (v := (i64 ((wI (1 + (wI ((((UInt64.ofInt a0t) % (12 : UInt64))).toNat : Int))))))) rfl rfl) ?_
              refine wl_nil ?_
              refine W_th ?_
              refine W_reg (by kernel_rfl) ?_
              refine wla rfl rfl (q_move (v := p2) rfl rfl) ?_
              refine wla rfl rfl (q_move (v := (i64 ((wI (1 + (wI ((((UInt64.ofInt a0t) % (12 : UInt64))).toNat : Int))))))) rfl rfl) ?_
              refine wla rfl rfl (q_subI rfl rfl rfl) ?_
              refine wla rfl rfl (q_move (v := p1) rfl rfl) ?_
              refine wla rfl rfl (q_len rfl T22.sl rfl (hp1.lift (Lift.ext e2 _))) ?_
              refine wla rfl rfl (q_mulI rfl rfl rfl) ?_
              obtain ⟨r17, hr17, H15⟩ := Option.bind_eq_some_iff.1 H15
              refine wls rfl rfl (stp_call (vs := [p2, (i64 ((wI ((wI ((wI (1 + (wI ((((UInt64.ofInt a0t) % (12 : UInt64))).toNat : Int)))) - 1)) * (a1secret.length : Int)))))]) Try.func18 rfl rfl rfl (ar2 rfl rfl) (law08_Made_calls a2mask (wI ((wI ((wI (1 + (wI ((((UInt64.ofInt a0t) % (12 : UInt64))).toNat : Int)))) - 1)) * (a1secret.length : Int))) p2 r17 _ (hp2.lift (Lift.ext e2 _)) hr17) ?_)
              rintro _ w17 ⟨v17, rfl, x17, n17_0, o17_0⟩
              refine ⟨_, rfl, ?_⟩
              have i17_0 : By w17 [] v17 r17 := OwK.slk (Sc.stab _) _ (OwK.scal o17_0 (v17 :: [])) (fun k hk => (Old.nil _) k (n17_0 k hk)) (fun _ h => h.2)
              have e18 := e2.trans x17
              refine wla rfl rfl (q_assign (v := v17) rfl rfl) ?_
              refine wl_nil ?_
              obtain rfl := Option.some.inj H15
              exact ⟨v17, rfl, rfl, rfl, rfl, rfl, e18, i17_0⟩
            · replace H15 := (if_neg (ne_true_of_eq_false hb16)).symm.trans H15
              refine W_skip ?_
              obtain rfl := Option.some.inj H15
              exact ⟨p2, rfl, rfl, rfl, rfl, rfl, e2, (hp2.lift (Lift.arg e2 nv_nil))⟩
          · rintro _ w19 ⟨v2_19, s0_19, s1_19, s2_19, s3_19, s200_19, hE19, i0_19⟩
            refine W_th ?_
            refine W_seq ?_
            refine W_reg (by kernel_rfl) ?_
            obtain ⟨r20, hr20, H⟩ := Option.bind_eq_some_iff.1 H
            refine wls rfl rfl (stp_call (vs := []) Try.func14 rfl rfl rfl (ar0 ) (field_New_calls   r20 _ [] (Old.nil _)  hr20) ?_)
            rintro _ w20 ⟨v20, rfl, x20, i20_0⟩
            refine ⟨_, rfl, ?_⟩
            replace i0_19 := i0_19.lift (Lift.ext x20 _)
            have e21 := hE19.trans x20
            refine wla rfl rfl (q_assign (v := v20) rfl rfl) ?_
            refine wl_nil ?_
            refine W_th ?_
            refine W_seq ?_
            refine W_reg (by kernel_rfl) ?_
            refine wla rfl rfl (q_move (v := v20) rfl rfl) ?_
            refine wla rfl rfl (q_move (v := (i64 x15.1)) rfl s0_19) ?_
            refine wla rfl rfl (q_move (v := p1) rfl s1_19) ?_
            refine wla rfl rfl (q_move (v := v2_19) rfl s2_19) ?_
            refine wla rfl rfl (q_move (v := p3) rfl s3_19) ?_
            obtain ⟨r22, hr22, H⟩ := Option.bind_eq_some_iff.1 H
            refine wls rfl rfl (stp_call (vs := [v20, (i64 x15.1), p1, v2_19, p3]) Try.func19 rfl rfl rfl (ar5 rfl rfl rfl rfl rfl) (shamir_Split_calls r20 x15.1 a1secret x15.2 a3xs v20 p1 v2_19 p3 r22 _ [] (Old.nil _) (i20_0.lift (Lift.sub (fun _ _ => trivial))) (hp1.lift (Lift.ext e21 _)) (i0_19.lift (Lift.sub (fun _ _ => trivial))) (hp3.lift (Lift.ext e21 _)) hr22) ?_)
            rintro _ w22 ⟨v22_0, rfl, x22, n22_0, o22_0⟩
            refine ⟨_, rfl, ?_⟩
            have i22_0 : Rw w22 [] v22_0 r22.1 := OwK.slk (SlK.stab (Sc.stab _)) _ o22_0 (fun k hk => (Old.nil _) k (n22_0 k hk)) (fun _ h => h.2)
            replace i0_19 := i0_19.lift (Lift.ext x22 _)
            replace i20_0 := i20_0.lift (Lift.ext x22 _)
            have e23 := e21.trans x22
            refine wla rfl rfl (q_move (v := (.tuple #[v22_0, (i64 r22.2)])) rfl rfl) ?_
            refine wla rfl rfl (q_extract rfl rfl rfl) ?_
            refine wla rfl rfl (q_extract rfl rfl rfl) ?_
            refine wla rfl rfl (q_assign (v := v22_0) rfl rfl) ?_
            refine wla rfl rfl (q_assign (v := (i64 r22.2)) rfl rfl) ?_
            refine wl_nil ?_
            refine W_th ?_
            refine W_seq ?_
            refine W_reg (by kernel_rfl) ?_
            refine wla rfl rfl (q_assign (v := (i64 0)) rfl rfl) ?_
            refine wl_nil ?_
            refine W_th ?_
            refine W_seq ?_
            refine W_reg (by kernel_rfl) ?_
            refine wla rfl rfl (q_assign (v := (.bool false)) rfl rfl) ?_
            refine wl_nil ?_
            refine W_th ?_
            refine W_seq ?_
            refine W_seq ?_
            refine W_reg (by kernel_rfl) ?_
            refine wla rfl rfl (q_move (v := p3) rfl s3_19) ?_
            refine wla rfl rfl (q_len rfl T22.sl rfl (hp3.lift (Lift.ext e23 _))) ?_
            refine wla rfl rfl (q_move (v := (i64 0)) rfl rfl) ?_
            refine wl_nil ?_
            refine W_th ?_
            obtain ⟨x24, G24, H⟩ := Option.bind_eq_some_iff.1 H
            refine W_mid (fun f w => f 0 = (i64 x15.1) ∧ f 1 = p1 ∧ f 2 = v2_19 ∧ f 3 = p3 ∧ f 11 = v20 ∧ f 12 = v22_0 ∧ f 13 = (i64 r22.2) ∧ f 14 = (i64 0) ∧ f 15 = (.bool x24) ∧ f 200 = undef ∧ Ext w0 w ∧ By w [] v2_19 x15.2 ∧ Fd w [] v20 r20 ∧ Rw w [] v22_0 r22.1) ?_ ?_
            · refine W_block ?_
              refine W_loop (fun s24 f w => f 0 = (i64 x15.1) ∧ f 1 = p1 ∧ f 2 = v2_19 ∧ f 3 = p3 ∧ f 11 = v20 ∧ f 12 = v22_0 ∧ f 13 = (i64 r22.2) ∧ f 14 = (i64 0) ∧ f 15 = (.bool s24.1) ∧ f 67 = p3 ∧ f 68 = (i64 ((a3xs.length : Int))) ∧ f 69 = (i64 s24.2) ∧ f 200 = undef ∧ Ext w0 w ∧ By w [] v2_19 x15.2 ∧ Fd w [] v20 r20 ∧ Rw w [] v22_0 r22.1) G24 ?_ ?_
              · exact ⟨s0_19, s1_19, s2_19, s3_19, rfl, rfl, rfl, rfl, rfl, rfl, rfl, rfl, s200_19, e23, i0_19, i20_0, i22_0⟩
              · rintro s24 _ _ w25 ⟨s0_25, s1_25, s2_25, s3_25, s11_25, s12_25, s13_25, s14_25, s15_25, s67_25, s68_25, s69_25, s200_25, hE25, i0_25, i1_25, i2_25⟩ H24 hr24
                refine W_seq ?_
                refine W_reg (by kernel_rfl) ?_
                refine wla rfl rfl (q_ltI rfl s69_25 s68_25) ?_
                refine wl_nil ?_
                refine W_th ?_
                refine W_seq ?_
                refine W_cond _ rfl rfl (fun hb26 => ?_) (fun hb26 => ?_)
                · replace H24 := (if_pos (of_decide_eq_true hb26)).symm.trans H24
                  refine W_skip ?_
                  refine W_th ?_
                  refine W_seq ?_
                  refine W_block ?_
                  refine W_seq ?_
                  refine W_reg (by kernel_rfl) ?_
                  obtain ⟨c27, hc27, H24⟩ := Option.bind_eq_some_iff.1 H24
                  refine wla rfl rfl (q_adr rfl T22 s67_25 s69_25 (hp3.lift (Lift.ext hE25 _)) hc27) ?_
                  refine wlq rfl rfl (q_loadS rfl T22 rfl (hp3.lift (Lift.ext hE25 _)) hc27) ?_
                  refine wla rfl rfl (q_assign (v := (u8 c27)) rfl rfl) ?_
                  refine wl_nil ?_
                  refine W_th ?_
                  refine W_reg (by kernel_rfl) ?_
                  refine wla rfl rfl (q_move (v := (.bool s24.1)) rfl s15_25) ?_
                  refine wlb rfl rfl (q_move (v := (.bool s24.1)) rfl rfl) (fun hb28 => ?_) (fun hb28 => ?_)
                  · replace H24 := (if_pos hb28).symm.trans H24
                    refine wlk rfl rfl ?_
                    refine wlk rfl rfl ?_
                    refine wla rfl rfl (q_pick_t (v := (.bool true)) rfl rfl rfl) ?_
                    refine wla rfl rfl (q_assign (v := (.bool true)) rfl rfl) ?_
                    refine wl_nil ?_
                    refine bk_n ?_
                    refine W_th ?_
                    refine W_reg (by kernel_rfl) ?_
                    refine wla rfl rfl (q_addI rfl s69_25 rfl) ?_
                    refine wla rfl rfl (q_move (v := (i64 ((wI (s24.2 + 1))))) rfl rfl) ?_
                    refine wl_nil ?_
                    obtain rfl := Option.some.inj H24
                    exact ⟨_, rfl, s0_25, s1_25, s2_25, s3_25, s11_25, s12_25, s13_25, s14_25, rfl, s67_25, s68_25, rfl, s200_25, hE25, i0_25, i1_25, i2_25⟩
                  · replace H24 := (if_neg (ne_true_of_eq_false hb28)).symm.trans H24
                    refine wla rfl rfl (q_move (v := (u8 c27)) rfl rfl) ?_
                    refine wla rfl rfl (q_eq8 rfl rfl (cst8 (0 : UInt8) rfl)) ?_
                    refine wla rfl rfl (q_pick_f (v := (.bool ((decide (c27 = (0 : UInt8)))))) rfl rfl rfl) ?_
                    refine wla rfl rfl (q_assign (v := (.bool ((decide (c27 = (0 : UInt8)))))) rfl rfl) ?_
                    refine wl_nil ?_
                    refine bk_n ?_
                    refine W_th ?_
                    refine W_reg (by kernel_rfl) ?_
                    refine wla rfl rfl (q_addI rfl s69_25 rfl) ?_
                    refine wla rfl rfl (q_move (v := (i64 ((wI (s24.2 + 1))))) rfl rfl) ?_
                    refine wl_nil ?_
                    obtain rfl := Option.some.inj H24
                    exact ⟨_, rfl, s0_25, s1_25, s2_25, s3_25, s11_25, s12_25, s13_25, s14_25, rfl, s67_25, s68_25, rfl, s200_25, hE25, i0_25, i1_25, i2_25⟩
                · replace H24 := (if_neg (of_decide_eq_false hb26)).symm.trans H24
                  refine W_exit ?_
                  refine th_x ?_
                  obtain rfl := Option.some.inj H24
                  obtain rfl := hr24 _ rfl
                  refine th_x ?_
                  refine bk_x ?_
                  exact ⟨s0_25, s1_25, s2_25, s3_25, s11_25, s12_25, s13_25, s14_25, s15_25, s200_25, hE25, i0_25, i1_25, i2_25⟩
            · rintro _ w30 ⟨s0_30, s1_30, s2_30, s3_30, s11_30, s12_30, s13_30, s14_30, s15_30, s200_30, hE30, i0_30, i1_30, i2_30⟩
              refine W_th ?_
              refine W_seq ?_
              obtain ⟨x31, H31, H⟩ := Option.bind_eq_some_iff.1 H
              refine W_mid (fun f w => f 0 = (i64 x15.1) ∧ f 1 = p1 ∧ f 2 = v2_19 ∧ f 3 = p3 ∧ f 11 = v20 ∧ f 12 = v22_0 ∧ f 13 = (i64 r22.2) ∧ f 14 = (i64 x31) ∧ f 200 = undef ∧ Ext w0 w ∧ By w [] v2_19 x15.2 ∧ Fd w [] v20 r20 ∧ Rw w [] v22_0 r22.1) ?_ ?_
              · refine W_block ?_
                refine W_seq ?_
                refine W_reg (by kernel_rfl) ?_
                refine wla rfl rfl (q_move (v := (i64 x15.1)) rfl s0_30) ?_
                refine wla rfl rfl (q_ltI rfl rfl rfl) ?_
                refine wlb rfl rfl (q_move (v := (.bool ((decide (x15.1 < 1))))) rfl rfl) (fun hb32 => ?_) (fun hb32 => ?_)
                · replace H31 := (if_pos (of_decide_eq_true hb32)).symm.trans H31
                  refine wlk rfl rfl ?_
                  refine wlk rfl rfl ?_
                  refine wla rfl rfl (q_pick_t (v := (.bool true)) rfl rfl rfl) ?_
                  refine wla rfl rfl (q_move (v := (.bool true)) rfl rfl) ?_
                  refine wlk rfl rfl ?_
                  refine wla rfl rfl (q_pick_t (v := (.bool true)) rfl rfl rfl) ?_
                  refine wla rfl rfl (q_assign (v := (.bool true)) rfl rfl) ?_
                  refine wl_nil ?_
                  refine W_th ?_
                  refine W_cond true rfl rfl (fun _ => ?_) (fun hb => by cases hb)
                  refine W_reg (by kernel_rfl) ?_
                  refine wla rfl rfl (q_assign (v := (i64 2)) rfl rfl) ?_
                  refine wl_nil ?_
                  refine bk_n ?_
                  obtain rfl := Option.some.inj H31
                  exact ⟨s0_30, s1_30, s2_30, s3_30, s11_30, s12_30, s13_30, rfl, s200_30, hE30, i0_30, i1_30, i2_30⟩
                · replace H31 := (if_neg (of_decide_eq_false hb32)).symm.trans H31
                  refine wla rfl rfl (q_move (v := (i64 x15.1)) rfl s0_30) ?_
                  refine wla rfl rfl (q_gtI rfl rfl rfl) ?_
                  refine wla rfl rfl (q_pick_f (v := (.bool ((decide (255 < x15.1))))) rfl rfl rfl) ?_
                  refine wlb rfl rfl (q_move (v := (.bool ((decide (255 < x15.1))))) rfl rfl) (fun hb33 => ?_) (fun hb33 => ?_)
                  · replace H31 := (if_pos (of_decide_eq_true hb33)).symm.trans H31
                    refine wlk rfl rfl ?_
                    refine wla rfl rfl (q_pick_t (v := (.bool true)) rfl rfl rfl) ?_
                    refine wla rfl rfl (q_assign (v := (.bool true)) rfl rfl) ?_
                    refine wl_nil ?_
                    refine W_th ?_
                    refine W_cond true rfl rfl (fun _ => ?_) (fun hb => by cases hb)
                    refine W_reg (by kernel_rfl) ?_
                    refine wla rfl rfl (q_assign (v := (i64 2)) rfl rfl) ?_
                    refine wl_nil ?_
                    refine bk_n ?_
                    obtain rfl := Option.some.inj H31
                    exact ⟨s0_30, s1_30, s2_30, s3_30, s11_30, s12_30, s13_30, rfl, s200_30, hE30, i0_30, i1_30, i2_30⟩
                  · replace H31 := (if_neg (of_decide_eq_false hb33)).symm.trans H31
                    refine wla rfl rfl (q_move (v := (.bool x24)) rfl s15_30) ?_
                    refine wla rfl rfl (q_pick_f (v := (.bool x24)) rfl rfl rfl) ?_
                    refine wla rfl rfl (q_assign (v := (.bool x24)) rfl rfl) ?_
                    refine wl_nil ?_
                    refine W_th ?_
                    refine W_cond _ rfl rfl (fun hb34 => ?_) (fun hb34 => ?_)
                    · replace H31 := (if_pos hb34).symm.trans H31
                      refine W_reg (by kernel_rfl) ?_
                      refine wla rfl rfl (q_assign (v := (i64 2)) rfl rfl) ?_
                      refine wl_nil ?_
                      refine bk_n ?_
                      obtain rfl := Option.some.inj H31
                      exact ⟨s0_30, s1_30, s2_30, s3_30, s11_30, s12_30, s13_30, rfl, s200_30, hE30, i0_30, i1_30, i2_30⟩
                    · replace H31 := (if_neg (ne_true_of_eq_false hb34)).symm.trans H31
                      refine W_seq ?_
                      refine W_reg (by kernel_rfl) ?_
                      refine wla rfl rfl (q_move (v := v2_19) rfl s2_30) ?_
                      refine wla rfl rfl (q_len rfl T22.sl rfl i0_30) ?_
                      refine wla rfl rfl (q_move (v := (i64 x15.1)) rfl s0_30) ?_
                      refine wla rfl rfl (q_subI rfl rfl rfl) ?_
                      refine wla rfl rfl (q_move (v := p1) rfl s1_30) ?_
                      refine wla rfl rfl (q_len rfl T22.sl rfl (hp1.lift (Lift.ext hE30 _))) ?_
                      refine wla rfl rfl (q_mulI rfl rfl rfl) ?_
                      refine wla rfl rfl (q_neI rfl rfl rfl) ?_
                      refine wla rfl rfl (q_assign (v := (.bool ((!decide ((x15.2.length : Int) = (wI ((wI (x15.1 - 1)) * (a1secret.length : Int)))))))) rfl rfl) ?_
                      refine wl_nil ?_
                      refine W_th ?_
                      refine W_cond _ rfl rfl (fun hb35 => ?_) (fun hb35 => ?_)
                      · replace H31 := (if_neg (ndec_t hb35)).symm.trans H31
                        refine W_reg (by kernel_rfl) ?_
                        refine wla rfl rfl (q_assign (v := (i64 3)) rfl rfl) ?_
                        refine wl_nil ?_
                        refine bk_n ?_
                        obtain rfl := Option.some.inj H31
                        exact ⟨s0_30, s1_30, s2_30, s3_30, s11_30, s12_30, s13_30, rfl, s200_30, hE30, i0_30, i1_30, i2_30⟩
                      · replace H31 := (if_pos (ndec_f hb35)).symm.trans H31
                        refine W_skip ?_
                        refine bk_n ?_
                        obtain rfl := Option.some.inj H31
                        exact ⟨s0_30, s1_30, s2_30, s3_30, s11_30, s12_30, s13_30, s14_30, s200_30, hE30, i0_30, i1_30, i2_30⟩
              · rintro _ w36 ⟨s0_36, s1_36, s2_36, s3_36, s11_36, s12_36, s13_36, s14_36, s200_36, hE36, i0_36, i1_36, i2_36⟩
                refine W_th ?_
                refine W_seq ?_
                refine W_seq ?_
                refine W_reg (by kernel_rfl) ?_
                refine wla rfl rfl (q_move (v := (i64 r22.2)) rfl s13_36) ?_
                refine wla rfl rfl (q_move (v := (i64 x31)) rfl s14_36) ?_
                refine wla rfl rfl (q_neI rfl rfl rfl) ?_
                refine wlb rfl rfl (q_move (v := (.bool ((!decide (r22.2 = x31))))) rfl rfl) (fun hb37 => ?_) (fun hb37 => ?_)
                · replace H := (if_neg (ndec_t hb37)).symm.trans H
                  refine wlk rfl rfl ?_
                  refine wlk rfl rfl ?_
                  refine wla rfl rfl (q_pick_t (v := (.bool true)) rfl rfl rfl) ?_
                  refine wl_nil ?_
                  refine W_th ?_
                  refine W_cond true rfl rfl (fun _ => ?_) (fun hb => by cases hb)
                  refine W_seq ?_
                  refine W_reg (by kernel_rfl) ?_
                  refine wla rfl rfl (q_move (v := (i64 r22.2)) rfl s13_36) ?_
                  refine wla rfl rfl (q_move (v := (i64 x31)) rfl s14_36) ?_
                  refine wla rfl rfl (q_eqI rfl rfl rfl) ?_
                  refine wlb rfl rfl (q_move (v := (.bool ((decide (r22.2 = x31))))) rfl rfl) (fun hb38 => ?_) (fun hb38 => ?_)
                  · replace H := (if_pos (of_decide_eq_true hb38)).symm.trans H
                    refine wla rfl rfl (q_move (v := v22_0) rfl s12_36) ?_
                    refine wla rfl rfl (q_len rfl T23.sl rfl i2_36) ?_
                    refine wla rfl rfl (q_eqI rfl rfl rfl) ?_
                    refine wla rfl rfl (q_pick_t (v := (.bool ((decide ((r22.1.length : Int) = 0))))) rfl rfl rfl) ?_
                    refine wla rfl rfl (q_assign (v := (.bool ((decide ((r22.1.length : Int) = 0))))) rfl rfl) ?_
                    refine wl_nil ?_
                    refine W_th ?_
                    refine W_ret ?_
                    refine th_r ?_
                    obtain rfl := Option.some.inj H
                    refine rt1 (.bool ((decide ((r22.1.length : Int) = 0)))) rfl rfl rfl s200_36 ?_
                    exact ⟨rfl, hE36⟩
                  · replace H := (if_neg (of_decide_eq_false hb38)).symm.trans H
                    refine wlk rfl rfl ?_
                    refine wlk rfl rfl ?_
                    refine wlk rfl rfl ?_
                    refine wla rfl rfl (q_pick_f (v := (.bool false)) rfl rfl rfl) ?_
                    refine wla rfl rfl (q_assign (v := (.bool false)) rfl rfl) ?_
                    refine wl_nil ?_
                    refine W_th ?_
                    refine W_ret ?_
                    refine th_r ?_
                    obtain rfl := Option.some.inj H
                    refine rt1 (.bool false) rfl rfl rfl s200_36 ?_
                    exact ⟨rfl, hE36⟩
                · replace H := (if_pos (ndec_f hb37)).symm.trans H
                  refine wla rfl rfl (q_move (v := (i64 x31)) rfl s14_36) ?_
                  refine wla rfl rfl (q_neI rfl rfl rfl) ?_
                  refine wla rfl rfl (q_pick_f (v := (.bool ((!decide (x31 = 0))))) rfl rfl rfl) ?_
                  refine wl_nil ?_
                  refine W_th ?_
                  refine W_cond _ rfl rfl (fun hb39 => ?_) (fun hb39 => ?_)
                  · replace H := (if_neg (ndec_t hb39)).symm.trans H
                    refine W_seq ?_
                    refine W_reg (by kernel_rfl) ?_
                    refine wla rfl rfl (q_move (v := (i64 r22.2)) rfl s13_36) ?_
                    refine wla rfl rfl (q_move (v := (i64 x31)) rfl s14_36) ?_
                    refine wla rfl rfl (q_eqI rfl rfl rfl) ?_
                    refine wlb rfl rfl (q_move (v := (.bool ((decide (r22.2 = x31))))) rfl rfl) (fun hb40 => ?_) (fun hb40 => ?_)
                    · replace H := (if_pos (of_decide_eq_true hb40)).symm.trans H
                      refine wla rfl rfl (q_move (v := v22_0) rfl s12_36) ?_
                      refine wla rfl rfl (q_len rfl T23.sl rfl i2_36) ?_
                      refine wla rfl rfl (q_eqI rfl rfl rfl) ?_
                      refine wla rfl rfl (q_pick_t (v := (.bool ((decide ((r22.1.length : Int) = 0))))) rfl rfl rfl) ?_
                      refine wla rfl rfl (q_assign (v := (.bool ((decide ((r22.1.length : Int) = 0))))) rfl rfl) ?_
                      refine wl_nil ?_
                      refine W_th ?_
                      refine W_ret ?_
                      refine th_r ?_
                      obtain rfl := Option.some.inj H
                      refine rt1 (.bool ((decide ((r22.1.length : Int) = 0)))) rfl rfl rfl s200_36 ?_
                      exact ⟨rfl, hE36⟩
                    · replace H := (if_neg (of_decide_eq_false hb40)).symm.trans H
                      refine wlk rfl rfl ?_
                      refine wlk rfl rfl ?_
                      refine wlk rfl rfl ?_
                      refine wla rfl rfl (q_pick_f (v := (.bool false)) rfl rfl rfl) ?_
                      refine wla rfl rfl (q_assign (v := (.bool false)) rfl rfl) ?_
                      refine wl_nil ?_
                      refine W_th ?_
                      refine W_ret ?_
                      refine th_r ?_
                      obtain rfl := Option.some.inj H
                      refine rt1 (.bool false) rfl rfl rfl s200_36 ?_
                      exact ⟨rfl, hE36⟩
                  · replace H := (if_pos (ndec_f hb39)).symm.trans H
                    refine W_skip ?_
                    refine W_th ?_
                    refine W_seq ?_
                    refine W_seq ?_
                    refine W_reg (by kernel_rfl) ?_
                    refine wla rfl rfl (q_move (v := v22_0) rfl s12_36) ?_
                    refine wla rfl rfl (q_len rfl T23.sl rfl i2_36) ?_
                    refine wla rfl rfl (q_move (v := p3) rfl s3_36) ?_
                    refine wla rfl rfl (q_len rfl T22.sl rfl (hp3.lift (Lift.ext hE36 _))) ?_
                    refine wla rfl rfl (q_neI rfl rfl rfl) ?_
                    refine wlb rfl rfl (q_move (v := (.bool ((!decide ((r22.1.length : Int) = (a3xs.length : Int)))))) rfl rfl) (fun hb41 => ?_) (fun hb41 => ?_)
                    · replace H := (if_neg (ndec_t hb41)).symm.trans H
                      refine wlk rfl rfl ?_
                      refine wlk rfl rfl ?_
                      refine wlk rfl rfl ?_
                      refine wlk rfl rfl ?_
                      refine wlk rfl rfl ?_
                      refine wlk rfl rfl ?_
                      refine wlk rfl rfl ?_
                      refine wla rfl rfl (q_pick_t (v := (.bool true)) rfl rfl rfl) ?_
                      refine wl_nil ?_
                      refine W_th ?_
                      refine W_cond true rfl rfl (fun _ => ?_) (fun hb => by cases hb)
                      refine W_seq ?_
                      refine W_reg (by kernel_rfl) ?_
                      refine wla rfl rfl (q_assign (v := (.bool false)) rfl rfl) ?_
                      refine wl_nil ?_
                      refine W_th ?_
                      refine W_ret ?_
                      refine th_r ?_
                      obtain rfl := Option.some.inj H
                      refine rt1 (.bool false) rfl rfl rfl s200_36 ?_
                      exact ⟨rfl, hE36⟩
                    · replace H := (if_pos (ndec_f hb41)).symm.trans H
                      refine wla rfl rfl (q_move (v := (i64 x15.1)) rfl s0_36) ?_
                      refine wla rfl rfl (q_move (v := p1) rfl s1_36) ?_
                      refine wla rfl rfl (q_len rfl T22.sl rfl (hp1.lift (Lift.ext hE36 _))) ?_
                      obtain ⟨r42, hr42, H⟩ := Option.bind_eq_some_iff.1 H
                      refine wls rfl rfl (stp_call (vs := [(i64 x15.1), (i64 ((a1secret.length : Int)))]) Try.func20 rfl rfl rfl (ar2 rfl rfl) (shamir_MaskSize_calls x15.1 (a1secret.length : Int)  r42 _  hr42) ?_)
                      rintro _ w42 ⟨rfl, x42⟩
                      refine ⟨_, rfl, ?_⟩
                      replace i0_36 := i0_36.lift (Lift.ext x42 _)
                      replace i1_36 := i1_36.lift (Lift.ext x42 _)
                      replace i2_36 := i2_36.lift (Lift.ext x42 _)
                      have e43 := hE36.trans x42
                      refine wla rfl rfl (q_move (v := v2_19) rfl s2_36) ?_
                      refine wla rfl rfl (q_len rfl T22.sl rfl i0_36) ?_
                      refine wla rfl rfl (q_neI rfl rfl rfl) ?_
                      refine wla rfl rfl (q_pick_f (v := (.bool ((!decide (r42 = (x15.2.length : Int)))))) rfl rfl rfl) ?_
                      refine wl_nil ?_
                      refine W_th ?_
                      refine W_cond _ rfl rfl (fun hb44 => ?_) (fun hb44 => ?_)
                      · replace H := (if_neg (ndec_t hb44)).symm.trans H
                        refine W_seq ?_
                        refine W_reg (by kernel_rfl) ?_
                        refine wla rfl rfl (q_assign (v := (.bool false)) rfl rfl) ?_
                        refine wl_nil ?_
                        refine W_th ?_
                        refine W_ret ?_
                        refine th_r ?_
                        obtain rfl := Option.some.inj H
                        refine rt1 (.bool false) rfl rfl rfl s200_36 ?_
                        exact ⟨rfl, e43⟩
                      · replace H := (if_pos (ndec_f hb44)).symm.trans H
                        refine W_skip ?_
                        refine W_th ?_
                        refine W_seq ?_
                        refine W_seq ?_
                        refine W_reg (by kernel_rfl) ?_
                        refine wla rfl rfl (q_move (v := p3) rfl s3_36) ?_
                        refine wla rfl rfl (q_len rfl T22.sl rfl (hp3.lift (Lift.ext e43 _))) ?_
                        refine wla rfl rfl (q_move (v := (i64 0)) rfl rfl) ?_
                        refine wl_nil ?_
                        refine W_th ?_
                        obtain ⟨x45, G45, H⟩ := Option.bind_eq_some_iff.1 H
                        refine W_mid (fun f w => ∃ y45, x45 = .inl y45 ∧ f 0 = (i64 x15.1) ∧ f 1 = p1 ∧ f 2 = v2_19 ∧ f 3 = p3 ∧ f 11 = v20 ∧ f 200 = undef ∧ Ext w0 w ∧ By w [] v2_19 x15.2 ∧ Fd w [] v20 r20) ?_ ?_
                        · refine W_block ?_
                          refine W_loop (fun s45 f w => f 0 = (i64 x15.1) ∧ f 1 = p1 ∧ f 2 = v2_19 ∧ f 3 = p3 ∧ f 11 = v20 ∧ f 12 = v22_0 ∧ f 127 = p3 ∧ f 128 = (i64 ((a3xs.length : Int))) ∧ f 129 = (i64 s45) ∧ f 200 = undef ∧ Ext w0 w ∧ By w [] v2_19 x15.2 ∧ Fd w [] v20 r20 ∧ Rw w [] v22_0 r22.1) G45 ?_ ?_
                          · exact ⟨s0_36, s1_36, s2_36, s3_36, s11_36, s12_36, rfl, rfl, rfl, s200_36, e43, i0_36, i1_36, i2_36⟩
                          · rintro s45 _ _ w46 ⟨s0_46, s1_46, s2_46, s3_46, s11_46, s12_46, s127_46, s128_46, s129_46, s200_46, hE46, i0_46, i1_46, i2_46⟩ H45 hr45
                            refine W_seq ?_
                            refine W_reg (by kernel_rfl) ?_
                            refine wla rfl rfl (q_ltI rfl s129_46 s128_46) ?_
                            refine wl_nil ?_
                            refine W_th ?_
                            refine W_seq ?_
                            refine W_cond _ rfl rfl (fun hb47 => ?_) (fun hb47 => ?_)
                            · replace H45 := (if_pos (of_decide_eq_true hb47)).symm.trans H45
                              refine W_skip ?_
                              refine W_th ?_
                              refine W_seq ?_
                              refine W_block ?_
                              refine W_seq ?_
                              refine W_reg (by kernel_rfl) ?_
                              refine wla rfl rfl (q_move (v := (i64 s45)) rfl s129_46) ?_
                              obtain ⟨c48, hc48, H45⟩ := Option.bind_eq_some_iff.1 H45
                              refine wla rfl rfl (q_adr rfl T22 s127_46 s129_46 (hp3.lift (Lift.ext hE46 _)) hc48) ?_
                              refine wlq rfl rfl (q_loadS rfl T22 rfl (hp3.lift (Lift.ext hE46 _)) hc48) ?_
                              refine wla rfl rfl (q_assign (v := (i64 s45)) rfl rfl) ?_
                              refine wla rfl rfl (q_assign (v := (u8 c48)) rfl rfl) ?_
                              refine wl_nil ?_
                              refine W_th ?_
                              refine W_seq ?_
                              refine W_reg (by kernel_rfl) ?_
                              refine wla rfl rfl (q_move (v := v20) rfl s11_46) ?_
                              refine wla rfl rfl (q_move (v := (i64 x15.1)) rfl s0_46) ?_
                              refine wla rfl rfl (q_move (v := p1) rfl s1_46) ?_
                              refine wla rfl rfl (q_move (v := v2_19) rfl s2_46) ?_
                              refine wla rfl rfl (q_move (v := (u8 c48)) rfl rfl) ?_
                              obtain ⟨r49, hr49, H45⟩ := Option.bind_eq_some_iff.1 H45
                              refine wls rfl rfl (stp_call (vs := [v20, (i64 x15.1), p1, v2_19, (u8 c48)]) Try.func21 rfl rfl rfl (ar5 rfl rfl rfl rfl rfl) (shamir_Share_calls r20 x15.1 a1secret x15.2 c48 v20 p1 v2_19 r49 _ (i1_46.lift (Lift.sub (fun _ _ => trivial))) (hp1.lift (Lift.ext hE46 _)) (i0_46.lift (Lift.sub (fun _ _ => trivial))) hr49) ?_)
                              rintro _ w49 ⟨v49_0, rfl, x49, n49_0, o49_0⟩
                              refine ⟨_, rfl, ?_⟩
                              have i49_0 : By w49 [] v49_0 r49.1 := OwK.slk (Sc.stab _) _ (OwK.scal o49_0 (v49_0 :: [])) (fun k hk => (Old.nil _) k (n49_0 k hk)) (fun _ h => h.2)
                              replace i0_46 := i0_46.lift (Lift.ext x49 _)
                              replace i1_46 := i1_46.lift (Lift.ext x49 _)
                              replace i2_46 := i2_46.lift (Lift.ext x49 _)
                              have e50 := hE46.trans x49
                              refine wla rfl rfl (q_move (v := (.tuple #[v49_0, (i64 r49.2)])) rfl rfl) ?_
                              refine wla rfl rfl (q_extract rfl rfl rfl) ?_
                              refine wla rfl rfl (q_extract rfl rfl rfl) ?_
                              refine wla rfl rfl (q_assign (v := v49_0) rfl rfl) ?_
                              refine wla rfl rfl (q_assign (v := (i64 r49.2)) rfl rfl) ?_
                              refine wl_nil ?_
                              refine W_th ?_
                              refine W_seq ?_
                              refine W_draw [6, 7, 13, 18, 22, 23] [(0, 0), (1, 0), (2, 0), (3, 0), (4, 0), (5, 0), (6, 1), (7, 1), (8, 0), (9, 0), (10, 0), (11, 0), (12, 2), (13, 1), (14, 0), (15, 0), (16, 0), (17, 0), (18, 1), (19, 0), (20, 0), (21, 0), (22, 1), (23, 1), (24, 0), (25, 0)] mixed (by kernel_rfl) (by kernel_rfl) (by kernel_rfl) (by kernel_rfl) ?_
                              have x51 := Ext.drew w49
                              replace i0_46 := i0_46.lift (Lift.ext x51 _)
                              replace i1_46 := i1_46.lift (Lift.ext x51 _)
                              replace i2_46 := i2_46.lift (Lift.ext x51 _)
                              replace i49_0 := i49_0.lift (Lift.ext x51 _)
                              have e52 := e50.trans x51
                              refine wsa rfl rfl rfl (q_move (v := (i64 r49.2)) rfl rfl) ?_
                              refine wsa rfl rfl rfl (q_neI rfl rfl rfl) ?_
                              refine wsb rfl rfl rfl (q_move (v := (.bool ((!decide (r49.2 = 0))))) rfl rfl) (fun hb53 => ?_) (fun hb53 => ?_)
                              · replace H45 := (if_neg (ndec_t hb53)).symm.trans H45
                                refine wsk rfl rfl rfl ?_
                                refine wsk rfl rfl rfl ?_
                                refine wsk rfl rfl rfl ?_
                                refine wsk rfl rfl rfl ?_
                                refine wsk rfl rfl rfl ?_
                                refine wsk rfl rfl rfl ?_
                                refine wsk rfl rfl rfl ?_
                                refine wsk rfl rfl rfl ?_
                                refine wsk rfl rfl rfl ?_
                                refine wsk rfl rfl rfl ?_
                                refine wsk rfl rfl rfl ?_
                                refine wsk rfl rfl rfl ?_
                                refine wsa rfl rfl rfl (q_pick_t (v := (.bool true)) rfl rfl rfl) ?_
                                refine wsa rfl rfl rfl (q_move (v := (.bool true)) rfl rfl) ?_
                                refine wsk rfl rfl rfl ?_
                                refine wsk rfl rfl rfl ?_
                                refine wsk rfl rfl rfl ?_
                                refine wsk rfl rfl rfl ?_
                                refine wsk rfl rfl rfl ?_
                                refine wsk rfl rfl rfl ?_
                                refine wsk rfl rfl rfl ?_
                                refine wsk rfl rfl rfl ?_
                                refine wsa rfl rfl rfl (q_pick_t (v := (.bool true)) rfl rfl rfl) ?_
                                refine ws_nil ?_
                                refine W_th ?_
                                refine W_cond true rfl rfl (fun _ => ?_) (fun hb => by cases hb)
                                refine W_seq ?_
                                refine W_reg (by kernel_rfl) ?_
                                refine wla rfl rfl (q_assign (v := (.bool false)) rfl rfl) ?_
                                refine wl_nil ?_
                                refine W_th ?_
                                refine W_ret ?_
                                refine bk_r ?_
                                refine th_r ?_
                                obtain rfl := Option.some.inj H45
                                obtain rfl := hr45 _ rfl
                                simp only [Sum.elim_inr] at H
                                refine th_r ?_
                                refine bk_r ?_
                                refine th_r ?_
                                refine th_r ?_
                                obtain rfl := Option.some.inj H
                                refine rt1 (.bool false) rfl rfl rfl s200_46 ?_
                                exact ⟨rfl, e52⟩
                              · replace H45 := (if_pos (ndec_f hb53)).symm.trans H45
                                refine wsa rfl rfl rfl (q_move (v := v22_0) rfl s12_46) ?_
                                refine wsa rfl rfl rfl (q_move (v := (i64 s45)) rfl rfl) ?_
                                obtain ⟨c54, hc54, H45⟩ := Option.bind_eq_some_iff.1 H45
                                refine wsa rfl rfl rfl (q_adr rfl T23 rfl rfl i2_46 hc54) ?_
                                refine wsq_load rfl rfl rfl rfl T23 rfl i2_46 hc54 (Ext.refl _) (fun v55 i55 => ?_)
                                refine wsq rfl rfl rfl (q_str rfl T22 rfl rfl rfl i55) ?_
                                refine wsa rfl rfl rfl (q_move (v := (i64 x15.1)) rfl s0_46) ?_
                                refine wsa rfl rfl rfl (q_move (v := p1) rfl s1_46) ?_
                                refine wsa rfl rfl rfl (q_move (v := v2_19) rfl s2_46) ?_
                                refine wsa rfl rfl rfl (q_move (v := (u8 c48)) rfl rfl) ?_
                                obtain ⟨r56, hr56, H45⟩ := Option.bind_eq_some_iff.1 H45
                                refine wss rfl rfl rfl (stp_call (vs := [(i64 x15.1), p1, v2_19, (u8 c48)]) Try.func22 rfl rfl rfl (ar4 rfl rfl rfl rfl) (ref08_Share_calls x15.1 a1secret x15.2 c48 p1 v2_19 r56 _ (hp1.lift (Lift.ext e52 _)) (i0_46.lift (Lift.sub (fun _ _ => trivial))) hr56) ?_)
                                rintro _ w56 ⟨v56, rfl, x56, n56_0, o56_0⟩
                                refine ⟨_, rfl, x56, ?_⟩
                                have i56_0 : By w56 [] v56 r56 := OwK.slk (Sc.stab _) _ (OwK.scal o56_0 (v56 :: [])) (fun k hk => (Old.nil _) k (n56_0 k hk)) (fun _ h => h.2)
                                replace i0_46 := i0_46.lift (Lift.ext x56 _)
                                replace i1_46 := i1_46.lift (Lift.ext x56 _)
                                replace i2_46 := i2_46.lift (Lift.ext x56 _)
                                replace i49_0 := i49_0.lift (Lift.ext x56 _)
                                replace i55 := i55.lift (Lift.ext x56 _)
                                have e57 := e52.trans x56
                                refine wsq rfl rfl rfl (q_str rfl T22 rfl rfl rfl i56_0) ?_
                                refine wsa rfl rfl rfl (q_neS rfl rfl rfl) ?_
                                refine wsa rfl rfl rfl (q_pick_f (v := (.bool ((!decide (c54 = r56))))) rfl rfl rfl) ?_
                                refine wsb rfl rfl rfl (q_move (v := (.bool ((!decide (c54 = r56))))) rfl rfl) (fun hb58 => ?_) (fun hb58 => ?_)
                                · replace H45 := (if_neg (ndec_t hb58)).symm.trans H45
                                  refine wsk rfl rfl rfl ?_
                                  refine wsk rfl rfl rfl ?_
                                  refine wsk rfl rfl rfl ?_
                                  refine wsk rfl rfl rfl ?_
                                  refine wsk rfl rfl rfl ?_
                                  refine wsk rfl rfl rfl ?_
                                  refine wsk rfl rfl rfl ?_
                                  refine wsk rfl rfl rfl ?_
                                  refine wsa rfl rfl rfl (q_pick_t (v := (.bool true)) rfl rfl rfl) ?_
                                  refine ws_nil ?_
                                  refine W_th ?_
                                  refine W_cond true rfl rfl (fun _ => ?_) (fun hb => by cases hb)
                                  refine W_seq ?_
                                  refine W_reg (by kernel_rfl) ?_
                                  refine wla rfl rfl (q_assign (v := (.bool false)) rfl rfl) ?_
                                  refine wl_nil ?_
                                  refine W_th ?_
                                  refine W_ret ?_
                                  refine bk_r ?_
                                  refine th_r ?_
                                  obtain rfl := Option.some.inj H45
                                  obtain rfl := hr45 _ rfl
                                  simp only [Sum.elim_inr] at H
                                  refine th_r ?_
                                  refine bk_r ?_
                                  refine th_r ?_
                                  refine th_r ?_
                                  obtain rfl := Option.some.inj H
                                  refine rt1 (.bool false) rfl rfl rfl s200_46 ?_
                                  exact ⟨rfl, e57⟩
                                · replace H45 := (if_pos (ndec_f hb58)).symm.trans H45
                                  refine wsa rfl rfl rfl (q_move (v := v49_0) rfl rfl) ?_
                                  refine wsq rfl rfl rfl (q_str rfl T22 rfl rfl rfl i49_0) ?_
                                  refine wsa rfl rfl rfl (q_move (v := v22_0) rfl s12_46) ?_
                                  refine wsa rfl rfl rfl (q_move (v := (i64 s45)) rfl rfl) ?_
                                  refine wsa rfl rfl rfl (q_adr rfl T23 rfl rfl i2_46 hc54) ?_
                                  refine wsq_load rfl rfl rfl rfl T23 rfl i2_46 hc54 (Ext.refl _) (fun v59 i59 => ?_)
                                  refine wsq rfl rfl rfl (q_str rfl T22 rfl rfl rfl i59) ?_
                                  refine wsa rfl rfl rfl (q_neS rfl rfl rfl) ?_
                                  refine wsa rfl rfl rfl (q_pick_f (v := (.bool ((!decide (r49.1 = c54))))) rfl rfl rfl) ?_
                                  refine ws_nil ?_
                                  refine W_th ?_
                                  refine W_cond _ rfl rfl (fun hb60 => ?_) (fun hb60 => ?_)
                                  · replace H45 := (if_neg (ndec_t hb60)).symm.trans H45
                                    refine W_seq ?_
                                    refine W_reg (by kernel_rfl) ?_
                                    refine wla rfl rfl (q_assign (v := (.bool false)) rfl rfl) ?_
                                    refine wl_nil ?_
                                    refine W_th ?_
                                    refine W_ret ?_
                                    refine bk_r ?_
                                    refine th_r ?_
                                    obtain rfl := Option.some.inj H45
                                    obtain rfl := hr45 _ rfl
                                    simp only [Sum.elim_inr] at H
                                    refine th_r ?_
                                    refine bk_r ?_
                                    refine th_r ?_
                                    refine th_r ?_
                                    obtain rfl := Option.some.inj H
                                    refine rt1 (.bool false) rfl rfl rfl s200_46 ?_
                                    exact ⟨rfl, e57⟩
                                  · replace H45 := (if_pos (ndec_f hb60)).symm.trans H45
                                    refine W_skip ?_
                                    refine bk_n ?_
                                    refine W_th ?_
                                    refine W_reg (by kernel_rfl) ?_
                                    refine wla rfl rfl (q_addI rfl s129_46 rfl) ?_
                                    refine wla rfl rfl (q_move (v := (i64 ((wI (s45 + 1))))) rfl rfl) ?_
                                    refine wl_nil ?_
                                    obtain rfl := Option.some.inj H45
                                    exact ⟨_, rfl, s0_46, s1_46, s2_46, s3_46, s11_46, s12_46, s127_46, s128_46, rfl, s200_46, e57, i0_46, i1_46, i2_46⟩
                            · replace H45 := (if_neg (of_decide_eq_false hb47)).symm.trans H45
                              refine W_exit ?_
                              refine th_x ?_
                              obtain rfl := Option.some.inj H45
                              obtain rfl := hr45 _ rfl
                              refine th_x ?_
                              refine bk_x ?_
                              exact ⟨_, rfl, s0_46, s1_46, s2_46, s3_46, s11_46, s200_46, hE46, i0_46, i1_46⟩
                        · rintro _ w62 ⟨y45, rfl, s0_62, s1_62, s2_62, s3_62, s11_62, s200_62, hE62, i0_62, i1_62⟩
                          simp only [Sum.elim_inl] at H
                          refine W_th ?_
                          refine W_seq ?_
                          refine W_reg (by kernel_rfl) ?_
                          refine wla rfl rfl (q_move (v := (i64 x15.1)) rfl s0_62) ?_
                          refine wla rfl rfl (q_move (v := p1) rfl s1_62) ?_
                          refine wla rfl rfl (q_move (v := v2_19) rfl s2_62) ?_
                          refine wla rfl rfl (q_move (v := p3) rfl s3_62) ?_
                          obtain ⟨r63, hr63, H⟩ := Option.bind_eq_some_iff.1 H
                          refine wls rfl rfl (stp_call (vs := [(.pointer none), (i64 x15.1), p1, v2_19, p3]) Try.func19 rfl rfl rfl (ar5 rfl rfl rfl rfl rfl) (shamir_Split_calls false x15.1 a1secret x15.2 a3xs (.pointer none) p1 v2_19 p3 r63 _ [] (Old.nil _) (Fd.nil _ _) (hp1.lift (Lift.ext hE62 _)) (i0_62.lift (Lift.sub (fun _ _ => trivial))) (hp3.lift (Lift.ext hE62 _)) hr63) ?_)
                          rintro _ w63 ⟨v63_0, rfl, x63, n63_0, o63_0⟩
                          refine ⟨_, rfl, ?_⟩
                          have i63_0 : Rw w63 [] v63_0 r63.1 := OwK.slk (SlK.stab (Sc.stab _)) _ o63_0 (fun k hk => (Old.nil _) k (n63_0 k hk)) (fun _ h => h.2)
                          replace i0_62 := i0_62.lift (Lift.ext x63 _)
                          replace i1_62 := i1_62.lift (Lift.ext x63 _)
                          have e64 := hE62.trans x63
                          refine wla rfl rfl (q_move (v := (.tuple #[v63_0, (i64 r63.2)])) rfl rfl) ?_
                          refine wla rfl rfl (q_extract rfl rfl rfl) ?_
                          refine wla rfl rfl (q_extract rfl rfl rfl) ?_
                          refine wla rfl rfl (q_assign (v := v63_0) rfl rfl) ?_
                          refine wla rfl rfl (q_assign (v := (i64 r63.2)) rfl rfl) ?_
                          refine wl_nil ?_
                          refine W_th ?_
                          refine W_seq ?_
                          refine W_reg (by kernel_rfl) ?_
                          refine wla rfl rfl (q_move (v := v20) rfl s11_62) ?_
                          refine wla rfl rfl (q_move (v := (i64 x15.1)) rfl s0_62) ?_
                          refine wla rfl rfl (q_move (v := p1) rfl s1_62) ?_
                          refine wla rfl rfl (q_move (v := v2_19) rfl s2_62) ?_
                          obtain ⟨r65, hr65, H⟩ := Option.bind_eq_some_iff.1 H
                          refine wls rfl rfl (stp_call (vs := [v20, (i64 x15.1), p1, v2_19, (u8 0)]) Try.func21 rfl rfl rfl (ar5 rfl rfl rfl rfl (cst8 (0 : UInt8) rfl)) (shamir_Share_calls r20 x15.1 a1secret x15.2 (0 : UInt8) v20 p1 v2_19 r65 _ (i1_62.lift (Lift.sub (fun _ _ => trivial))) (hp1.lift (Lift.ext e64 _)) (i0_62.lift (Lift.sub (fun _ _ => trivial))) hr65) ?_)
                          rintro _ w65 ⟨v65_0, rfl, x65, n65_0, o65_0⟩
                          refine ⟨_, rfl, ?_⟩
                          have i65_0 : By w65 [] v65_0 r65.1 := OwK.slk (Sc.stab _) _ (OwK.scal o65_0 (v65_0 :: [])) (fun k hk => (Old.nil _) k (n65_0 k hk)) (fun _ h => h.2)
                          replace i0_62 := i0_62.lift (Lift.ext x65 _)
                          replace i1_62 := i1_62.lift (Lift.ext x65 _)
                          replace i63_0 := i63_0.lift (Lift.ext x65 _)
                          have e66 := e64.trans x65
                          refine wla rfl rfl (q_move (v := (.tuple #[v65_0, (i64 r65.2)])) rfl rfl) ?_
                          refine wla rfl rfl (q_extract rfl rfl rfl) ?_
                          refine wla rfl rfl (q_extract rfl rfl rfl) ?_
                          refine wla rfl rfl (q_assign (v := v65_0) rfl rfl) ?_
                          refine wla rfl rfl (q_assign (v := (i64 r65.2)) rfl rfl) ?_
                          refine wl_nil ?_
                          refine W_th ?_
                          refine W_seq ?_
                          refine W_reg (by kernel_rfl) ?_
                          refine wla rfl rfl (q_move (v := (i64 r63.2)) rfl rfl) ?_
                          refine wla rfl rfl (q_eqI rfl rfl rfl) ?_
                          refine wlb rfl rfl (q_move (v := (.bool ((decide (r63.2 = 1))))) rfl rfl) (fun hb67 => ?_) (fun hb67 => ?_)
                          · replace H := (if_pos (of_decide_eq_true hb67)).symm.trans H
                            refine wla rfl rfl (q_move (v := (i64 r65.2)) rfl rfl) ?_
                            refine wla rfl rfl (q_eqI rfl rfl rfl) ?_
                            refine wla rfl rfl (q_pick_t (v := (.bool ((decide (r65.2 = 2))))) rfl rfl rfl) ?_
                            refine wlb rfl rfl (q_move (v := (.bool ((decide (r65.2 = 2))))) rfl rfl) (fun hb68 => ?_) (fun hb68 => ?_)
                            · replace H := (if_pos (of_decide_eq_true hb68)).symm.trans H
                              obtain ⟨r69, hr69, H⟩ := Option.bind_eq_some_iff.1 H
                              refine wls rfl rfl (stp_call (vs := [(i64 0), (i64 1)]) Try.func20 rfl rfl rfl (ar2 rfl rfl) (shamir_MaskSize_calls 0 1  r69 _  hr69) ?_)
                              rintro _ w69 ⟨rfl, x69⟩
                              refine ⟨_, rfl, ?_⟩
                              replace i0_62 := i0_62.lift (Lift.ext x69 _)
                              replace i1_62 := i1_62.lift (Lift.ext x69 _)
                              replace i63_0 := i63_0.lift (Lift.ext x69 _)
                              replace i65_0 := i65_0.lift (Lift.ext x69 _)
                              have e70 := e66.trans x69
                              obtain ⟨r71, hr71, H⟩ := Option.bind_eq_some_iff.1 H
                              refine wls rfl rfl (stp_call (vs := [(i64 256), (i64 1)]) Try.func20 rfl rfl rfl (ar2 rfl rfl) (shamir_MaskSize_calls 256 1  r71 _  hr71) ?_)
                              rintro _ w71 ⟨rfl, x71⟩
                              refine ⟨_, rfl, ?_⟩
                              replace i0_62 := i0_62.lift (Lift.ext x71 _)
                              replace i1_62 := i1_62.lift (Lift.ext x71 _)
                              replace i63_0 := i63_0.lift (Lift.ext x71 _)
                              replace i65_0 := i65_0.lift (Lift.ext x71 _)
                              have e72 := e70.trans x71
                              refine wla rfl rfl (q_addI rfl rfl rfl) ?_
                              obtain ⟨r73, hr73, H⟩ := Option.bind_eq_some_iff.1 H
                              refine wls rfl rfl (stp_call (vs := [(i64 2), (i64 (-1))]) Try.func20 rfl rfl rfl (ar2 rfl rfl) (shamir_MaskSize_calls 2 (-1)  r73 _  hr73) ?_)
                              rintro _ w73 ⟨rfl, x73⟩
                              refine ⟨_, rfl, ?_⟩
                              replace i0_62 := i0_62.lift (Lift.ext x73 _)
                              replace i1_62 := i1_62.lift (Lift.ext x73 _)
                              replace i63_0 := i63_0.lift (Lift.ext x73 _)
                              replace i65_0 := i65_0.lift (Lift.ext x73 _)
                              have e74 := e72.trans x73
                              refine wla rfl rfl (q_addI rfl rfl rfl) ?_
                              refine wla rfl rfl (q_eqI rfl rfl rfl) ?_
                              refine wla rfl rfl (q_pick_t (v := (.bool ((decide ((wI ((wI (r69 + r71)) + r73)) = 0))))) rfl rfl rfl) ?_
                              refine wla rfl rfl (q_assign (v := (.bool ((decide ((wI ((wI (r69 + r71)) + r73)) = 0))))) rfl rfl) ?_
                              refine wl_nil ?_
                              refine W_th ?_
                              refine W_ret ?_
                              obtain rfl := Option.some.inj H
                              refine rt1 (.bool ((decide ((wI ((wI (r69 + r71)) + r73)) = 0)))) rfl rfl rfl s200_62 ?_
                              exact ⟨rfl, e74⟩
                            · replace H := (if_neg (of_decide_eq_false hb68)).symm.trans H
                              refine wlk rfl rfl ?_
                              refine wlk rfl rfl ?_
                              refine wlk rfl rfl ?_
                              refine wlk rfl rfl ?_
                              refine wlk rfl rfl ?_
                              refine wlk rfl rfl ?_
                              refine wla rfl rfl (q_pick_f (v := (.bool false)) rfl rfl rfl) ?_
                              refine wla rfl rfl (q_assign (v := (.bool false)) rfl rfl) ?_
                              refine wl_nil ?_
                              refine W_th ?_
                              refine W_ret ?_
                              obtain rfl := Option.some.inj H
                              refine rt1 (.bool false) rfl rfl rfl s200_62 ?_
                              exact ⟨rfl, e66⟩
                          · replace H := (if_neg (of_decide_eq_false hb67)).symm.trans H
                            refine wlk rfl rfl ?_
                            refine wlk rfl rfl ?_
                            refine wla rfl rfl (q_pick_f (v := (.bool false)) rfl rfl rfl) ?_
                            refine wla rfl rfl (q_move (v := (.bool false)) rfl rfl) ?_
                            refine wlk rfl rfl ?_
                            refine wlk rfl rfl ?_
                            refine wlk rfl rfl ?_
                            refine wlk rfl rfl ?_
                            refine wlk rfl rfl ?_
                            refine wlk rfl rfl ?_
                            refine wla rfl rfl (q_pick_f (v := (.bool false)) rfl rfl rfl) ?_
                            refine wla rfl rfl (q_assign (v := (.bool false)) rfl rfl) ?_
                            refine wl_nil ?_
                            refine W_th ?_
                            refine W_ret ?_
                            obtain rfl := Option.some.inj H
                            refine rt1 (.bool false) rfl rfl rfl s200_62 ?_
                            exact ⟨rfl, e66⟩

end Gk

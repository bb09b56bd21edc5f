/- Printed by gen.py: for each Go function a pure function, and that the Go code comes to it. No condition beside the equation that says what the pure function gives. -/
import Derived.Test.YtmgkmkghmmdgkaaFb
import Derived.Test.YtmgkmkghmmdgkaaF1
set_option linter.unusedVariables false
set_option linter.unusedSimpArgs false
namespace Gk
open Go Go.Proofs

/-! largesse/largesselaw02.lives -/
noncomputable def law02_lives  : Option Bool :=
((field_New ).bind fun r1 =>
((field_Inv r1 (83 : UInt8)).bind fun r3 =>
((field_Mul r1 (87 : UInt8) (131 : UInt8)).bind fun r5 =>
(if r5 = (193 : UInt8) then
(if r3.2 = 0 then
some (decide (r3.1 = (202 : UInt8)))
else
some false)
else
some false))))
set_option maxRecDepth 100000 in
set_option maxHeartbeats 8000000 in
theorem law02_lives_calls  (r : Bool) (w0 : World) (H : law02_lives = some r) :
    Calls Try.prog 36 [].toArray w0 (fun e w' => e = .returned (.bool r) ∧ Ext w0 w') := by
  have hE : Ext w0 w0 := Ext.refl w0
  unfold law02_lives at H
  refine calls_W (n := 21) Try.func36 rfl rfl rfl ?_
  refine W_seq ?_
  refine W_reg (by kernel_rfl) ?_
  refine wla rfl rfl (q_assign (v := (.bool false)) rfl rfl) ?_
  refine wl_nil ?_
  refine W_th ?_
  refine W_seq ?_
  refine W_reg (by kernel_rfl) ?_
  obtain ⟨r1, hr1, H⟩ := Option.bind_eq_some_iff.1 H
  refine wls rfl rfl (stp_call (vs := []) Try.func37 rfl rfl rfl (ar0 ) (field_New_calls   r1 _ [] (Old.nil _)  hr1) ?_)
  rintro _ w1 ⟨v1, rfl, x1, i1_0⟩
  refine ⟨_, rfl, ?_⟩
  have e2 := hE.trans x1
  refine wla rfl rfl (q_assign (v := v1) rfl rfl) ?_
  refine wl_nil ?_
  refine W_th ?_
  refine W_seq ?_
  refine W_reg (by kernel_rfl) ?_
  refine wla rfl rfl (q_move (v := v1) rfl rfl) ?_
  obtain ⟨r3, hr3, H⟩ := Option.bind_eq_some_iff.1 H
  refine wls rfl rfl (stp_call (vs := [v1, (u8 83)]) Try.func40 rfl rfl rfl (ar2 rfl (cst8 (83 : UInt8) rfl)) (field_Inv_calls r1 (83 : UInt8) v1 r3 _ (i1_0.lift (Lift.sub (fun _ _ => trivial))) hr3) ?_)
  rintro _ w3 ⟨rfl, x3⟩
  refine ⟨_, rfl, ?_⟩
  replace i1_0 := i1_0.lift (Lift.ext x3 _)
  have e4 := e2.trans x3
  refine wla rfl rfl (q_move (v := (.tuple #[(u8 r3.1), (i64 r3.2)])) rfl rfl) ?_
  refine wla rfl rfl (q_extract rfl rfl rfl) ?_
  refine wla rfl rfl (q_extract rfl rfl rfl) ?_
  refine wla rfl rfl (q_assign (v := (u8 r3.1)) rfl rfl) ?_
  refine wla rfl rfl (q_assign (v := (i64 r3.2)) rfl rfl) ?_
  refine wl_nil ?_
  refine W_th ?_
  refine W_seq ?_
  refine W_reg (by kernel_rfl) ?_
  refine wla rfl rfl (q_move (v := v1) rfl rfl) ?_
  obtain ⟨r5, hr5, H⟩ := Option.bind_eq_some_iff.1 H
  refine wls rfl rfl (stp_call (vs := [v1, (u8 87), (u8 131)]) Try.func38 rfl rfl rfl (ar3 rfl (cst8 (87 : UInt8) rfl) (cst8 (131 : UInt8) rfl)) (field_Mul_calls r1 (87 : UInt8) (131 : UInt8) v1 r5 _ (i1_0.lift (Lift.sub (fun _ _ => trivial))) hr5) ?_)
  rintro _ w5 ⟨rfl, x5⟩
  refine ⟨_, rfl, ?_⟩
  replace i1_0 := i1_0.lift (Lift.ext x5 _)
  have e6 := e4.trans x5
  refine wla rfl rfl (q_eq8 rfl rfl (cst8 (193 : UInt8) rfl)) ?_
  refine wlb rfl rfl (q_move (v := (.bool ((decide (r5 = (193 : UInt8)))))) rfl rfl) (fun hb7 => ?_) (fun hb7 => ?_)
  · replace H := (if_pos (of_decide_eq_true hb7)).symm.trans H
    refine wla rfl rfl (q_move (v := (i64 r3.2)) rfl rfl) ?_
    refine wla rfl rfl (q_eqI rfl rfl rfl) ?_
    refine wla rfl rfl (q_pick_t (v := (.bool ((decide (r3.2 = 0))))) rfl rfl rfl) ?_
    refine wlb rfl rfl (q_move (v := (.bool ((decide (r3.2 = 0))))) rfl rfl) (fun hb8 => ?_) (fun hb8 => ?_)
    · replace H := (if_pos (of_decide_eq_true hb8)).symm.trans H
      refine wla rfl rfl (q_move (v := (u8 r3.1)) rfl rfl) ?_
      refine wla rfl rfl (q_eq8 rfl rfl (cst8 (202 : UInt8) rfl)) ?_
      refine wla rfl rfl (q_pick_t (v := (.bool ((decide (r3.1 = (202 : UInt8)))))) rfl rfl rfl) ?_
      refine wla rfl rfl (q_assign (v := (.bool ((decide (r3.1 = (202 : UInt8)))))) rfl rfl) ?_
      refine wl_nil ?_
      refine W_th ?_
      refine W_ret ?_
      obtain rfl := Option.some.inj H
      refine rt1 (.bool ((decide (r3.1 = (202 : UInt8))))) rfl rfl rfl ?_
      exact ⟨rfl, e6⟩
    · replace H := (if_neg (of_decide_eq_false hb8)).symm.trans H
      refine wlk rfl rfl ?_
      refine wlk rfl rfl ?_
      refine wla rfl rfl (q_pick_f (v := (.bool false)) rfl rfl rfl) ?_
      refine wla rfl rfl (q_assign (v := (.bool false)) rfl rfl) ?_
      refine wl_nil ?_
      refine W_th ?_
      refine W_ret ?_
      obtain rfl := Option.some.inj H
      refine rt1 (.bool false) rfl rfl rfl ?_
      exact ⟨rfl, e6⟩
  · replace H := (if_neg (of_decide_eq_false hb7)).symm.trans H
    refine wlk rfl rfl ?_
    refine wlk rfl rfl ?_
    refine wla rfl rfl (q_pick_f (v := (.bool false)) rfl rfl rfl) ?_
    refine wla rfl rfl (q_move (v := (.bool false)) rfl rfl) ?_
    refine wlk rfl rfl ?_
    refine wlk rfl rfl ?_
    refine wla rfl rfl (q_pick_f (v := (.bool false)) rfl rfl rfl) ?_
    refine wla rfl rfl (q_assign (v := (.bool false)) rfl rfl) ?_
    refine wl_nil ?_
    refine W_th ?_
    refine W_ret ?_
    obtain rfl := Option.some.inj H
    refine rt1 (.bool false) rfl rfl rfl ?_
    exact ⟨rfl, e6⟩

/-! largesse/largesselaw02.FieldProducts -/
noncomputable def law02_FieldProducts (a0a : UInt8) (a1b : UInt8) : Option Bool :=
((law02_lives ).bind fun r1 =>
(if (!r1) = true then
some false
else
((field_New ).bind fun r4 =>
((ref02_Mul a0a a1b).bind fun r6 =>
((field_Mul r4 a0a a1b).bind fun r8 =>
(if r8 = r6 then
((field_Slow a0a a1b).bind fun r11 =>
(if r11 = r6 then
((field_Add a0a a1b).bind fun r14 =>
(if r14 = (a0a ^^^ a1b) then
((field_Inv r4 a1b).bind fun r17 =>
((field_Div r4 a0a a1b).bind fun r19 =>
(if a1b = (0 : UInt8) then
(if r17.2 = 7 then
(if r19.2 = 7 then
(if r17.1 = (0 : UInt8) then
some (decide (r19.1 = (0 : UInt8)))
else
some false)
else
some false)
else
some false)
else
(if r17.2 = 0 then
(if r19.2 = 0 then
((ref02_Inv a1b).bind fun r27 =>
(if r17.1 = r27 then
((ref02_Inv a1b).bind fun r30 =>
((ref02_Mul a0a r30).bind fun r32 =>
some (decide (r19.1 = r32))))
else
some false))
else
some false)
else
some false))))
else
some false))
else
some false))
else
some false))))))
set_option maxRecDepth 100000 in
set_option maxHeartbeats 8000000 in
theorem law02_FieldProducts_calls (a0a : UInt8) (a1b : UInt8) (r : Bool) (w0 : World) (H : law02_FieldProducts a0a a1b = some r) :
    Calls Try.prog 4 [(u8 a0a), (u8 a1b)].toArray w0 (fun e w' => e = .returned (.bool r) ∧ Ext w0 w') := by
  have hE : Ext w0 w0 := Ext.refl w0
  unfold law02_FieldProducts at H
  refine calls_W (n := 88) Try.func4 rfl rfl rfl ?_
  refine W_seq ?_
  refine W_reg (by kernel_rfl) ?_
  refine wla rfl rfl (q_assign (v := (.bool false)) rfl rfl) ?_
  refine wl_nil ?_
  refine W_th ?_
  refine W_seq ?_
  refine W_seq ?_
  refine W_reg (by kernel_rfl) ?_
  obtain ⟨r1, hr1, H⟩ := Option.bind_eq_some_iff.1 H
  refine wls rfl rfl (stp_call (vs := []) Try.func36 rfl rfl rfl (ar0 ) (law02_lives_calls   r1 _  hr1) ?_)
  rintro _ w1 ⟨rfl, x1⟩
  refine ⟨_, rfl, ?_⟩
  have e2 := hE.trans x1
  refine wla rfl rfl (q_not rfl rfl) ?_
  refine wl_nil ?_
  refine W_th ?_
  refine W_cond _ rfl rfl (fun hb3 => ?_) (fun hb3 => ?_)
  · replace H := (if_pos hb3).symm.trans H
    refine W_seq ?_
    refine W_reg (by kernel_rfl) ?_
    refine wla rfl rfl (q_assign (v := (.bool false)) rfl rfl) ?_
    refine wl_nil ?_
    refine W_th ?_
    refine W_ret ?_
    refine th_r ?_
    obtain rfl := Option.some.inj H
    refine rt1 (.bool false) rfl rfl rfl ?_
    exact ⟨rfl, e2⟩
  · replace H := (if_neg (ne_true_of_eq_false hb3)).symm.trans H
    refine W_skip ?_
    refine W_th ?_
    refine W_seq ?_
    refine W_reg (by kernel_rfl) ?_
    obtain ⟨r4, hr4, H⟩ := Option.bind_eq_some_iff.1 H
    refine wls rfl rfl (stp_call (vs := []) Try.func37 rfl rfl rfl (ar0 ) (field_New_calls   r4 _ [] (Old.nil _)  hr4) ?_)
    rintro _ w4 ⟨v4, rfl, x4, i4_0⟩
    refine ⟨_, rfl, ?_⟩
    have e5 := e2.trans x4
    refine wla rfl rfl (q_assign (v := v4) rfl rfl) ?_
    refine wl_nil ?_
    refine W_th ?_
    refine W_seq ?_
    refine W_reg (by kernel_rfl) ?_
    refine wla rfl rfl (q_move (v := (u8 a0a)) rfl rfl) ?_
    refine wla rfl rfl (q_move (v := (u8 a1b)) rfl rfl) ?_
    obtain ⟨r6, hr6, H⟩ := Option.bind_eq_some_iff.1 H
    refine wls rfl rfl (stp_call (vs := [(u8 a0a), (u8 a1b)]) Try.func41 rfl rfl rfl (ar2 rfl rfl) (ref02_Mul_calls a0a a1b  r6 _  hr6) ?_)
    rintro _ w6 ⟨rfl, x6⟩
    refine ⟨_, rfl, ?_⟩
    replace i4_0 := i4_0.lift (Lift.ext x6 _)
    have e7 := e5.trans x6
    refine wla rfl rfl (q_assign (v := (u8 r6)) rfl rfl) ?_
    refine wl_nil ?_
    refine W_th ?_
    refine W_seq ?_
    refine W_seq ?_
    refine W_reg (by kernel_rfl) ?_
    refine wla rfl rfl (q_move (v := v4) rfl rfl) ?_
    refine wla rfl rfl (q_move (v := (u8 a0a)) rfl rfl) ?_
    refine wla rfl rfl (q_move (v := (u8 a1b)) rfl rfl) ?_
    obtain ⟨r8, hr8, H⟩ := Option.bind_eq_some_iff.1 H
    refine wls rfl rfl (stp_call (vs := [v4, (u8 a0a), (u8 a1b)]) Try.func38 rfl rfl rfl (ar3 rfl rfl rfl) (field_Mul_calls r4 a0a a1b v4 r8 _ (i4_0.lift (Lift.sub (fun _ _ => trivial))) hr8) ?_)
    rintro _ w8 ⟨rfl, x8⟩
    refine ⟨_, rfl, ?_⟩
    replace i4_0 := i4_0.lift (Lift.ext x8 _)
    have e9 := e7.trans x8
    refine wla rfl rfl (q_move (v := (u8 r6)) rfl rfl) ?_
    refine wla rfl rfl (q_ne8 rfl rfl rfl) ?_
    refine wlb rfl rfl (q_move (v := (.bool ((!decide (r8 = r6))))) rfl rfl) (fun hb10 => ?_) (fun hb10 => ?_)
    · replace H := (if_neg (ndec_t hb10)).symm.trans H
      refine wlk rfl rfl ?_
      refine wlk rfl rfl ?_
      refine wlk rfl rfl ?_
      refine wlk rfl rfl ?_
      refine wlk rfl rfl ?_
      refine wla rfl rfl (q_pick_t (v := (.bool true)) rfl rfl rfl) ?_
      refine wla rfl rfl (q_move (v := (.bool true)) rfl rfl) ?_
      refine wlk rfl rfl ?_
      refine wlk rfl rfl ?_
      refine wlk rfl rfl ?_
      refine wlk rfl rfl ?_
      refine wlk rfl rfl ?_
      refine wlk rfl rfl ?_
      refine wlk rfl rfl ?_
      refine wla rfl rfl (q_pick_t (v := (.bool true)) rfl rfl rfl) ?_
      refine wl_nil ?_
      refine W_th ?_
      refine W_cond true rfl rfl (fun _ => ?_) (fun hb => by cases hb)
      refine W_seq ?_
      refine W_reg (by kernel_rfl) ?_
      refine wla rfl rfl (q_assign (v := (.bool false)) rfl rfl) ?_
      refine wl_nil ?_
      refine W_th ?_
      refine W_ret ?_
      refine th_r ?_
      obtain rfl := Option.some.inj H
      refine rt1 (.bool false) rfl rfl rfl ?_
      exact ⟨rfl, e9⟩
    · replace H := (if_pos (ndec_f hb10)).symm.trans H
      refine wla rfl rfl (q_move (v := (u8 a0a)) rfl rfl) ?_
      refine wla rfl rfl (q_move (v := (u8 a1b)) rfl rfl) ?_
      obtain ⟨r11, hr11, H⟩ := Option.bind_eq_some_iff.1 H
      refine wls rfl rfl (stp_call (vs := [(u8 a0a), (u8 a1b)]) Try.func42 rfl rfl rfl (ar2 rfl rfl) (field_Slow_calls a0a a1b  r11 _  hr11) ?_)
      rintro _ w11 ⟨rfl, x11⟩
      refine ⟨_, rfl, ?_⟩
      replace i4_0 := i4_0.lift (Lift.ext x11 _)
      have e12 := e9.trans x11
      refine wla rfl rfl (q_move (v := (u8 r6)) rfl rfl) ?_
      refine wla rfl rfl (q_ne8 rfl rfl rfl) ?_
      refine wla rfl rfl (q_pick_f (v := (.bool ((!decide (r11 = r6))))) rfl rfl rfl) ?_
      refine wlb rfl rfl (q_move (v := (.bool ((!decide (r11 = r6))))) rfl rfl) (fun hb13 => ?_) (fun hb13 => ?_)
      · replace H := (if_neg (ndec_t hb13)).symm.trans H
        refine wlk rfl rfl ?_
        refine wlk rfl rfl ?_
        refine wlk rfl rfl ?_
        refine wlk rfl rfl ?_
        refine wlk rfl rfl ?_
        refine wlk rfl rfl ?_
        refine wlk rfl rfl ?_
        refine wla rfl rfl (q_pick_t (v := (.bool true)) rfl rfl rfl) ?_
        refine wl_nil ?_
        refine W_th ?_
        refine W_cond true rfl rfl (fun _ => ?_) (fun hb => by cases hb)
        refine W_seq ?_
        refine W_reg (by kernel_rfl) ?_
        refine wla rfl rfl (q_assign (v := (.bool false)) rfl rfl) ?_
        refine wl_nil ?_
        refine W_th ?_
        refine W_ret ?_
        refine th_r ?_
        obtain rfl := Option.some.inj H
        refine rt1 (.bool false) rfl rfl rfl ?_
        exact ⟨rfl, e12⟩
      · replace H := (if_pos (ndec_f hb13)).symm.trans H
        refine wla rfl rfl (q_move (v := (u8 a0a)) rfl rfl) ?_
        refine wla rfl rfl (q_move (v := (u8 a1b)) rfl rfl) ?_
        obtain ⟨r14, hr14, H⟩ := Option.bind_eq_some_iff.1 H
        refine wls rfl rfl (stp_call (vs := [(u8 a0a), (u8 a1b)]) Try.func39 rfl rfl rfl (ar2 rfl rfl) (field_Add_calls a0a a1b  r14 _  hr14) ?_)
        rintro _ w14 ⟨rfl, x14⟩
        refine ⟨_, rfl, ?_⟩
        replace i4_0 := i4_0.lift (Lift.ext x14 _)
        have e15 := e12.trans x14
        refine wla rfl rfl (q_move (v := (u8 a0a)) rfl rfl) ?_
        refine wla rfl rfl (q_move (v := (u8 a1b)) rfl rfl) ?_
        refine wla rfl rfl (q_xor8 rfl rfl rfl) ?_
        refine wla rfl rfl (q_ne8 rfl rfl rfl) ?_
        refine wla rfl rfl (q_pick_f (v := (.bool ((!decide (r14 = (a0a ^^^ a1b)))))) rfl rfl rfl) ?_
        refine wl_nil ?_
        refine W_th ?_
        refine W_cond _ rfl rfl (fun hb16 => ?_) (fun hb16 => ?_)
        · replace H := (if_neg (ndec_t hb16)).symm.trans H
          refine W_seq ?_
          refine W_reg (by kernel_rfl) ?_
          refine wla rfl rfl (q_assign (v := (.bool false)) rfl rfl) ?_
          refine wl_nil ?_
          refine W_th ?_
          refine W_ret ?_
          refine th_r ?_
          obtain rfl := Option.some.inj H
          refine rt1 (.bool false) rfl rfl rfl ?_
          exact ⟨rfl, e15⟩
        · replace H := (if_pos (ndec_f hb16)).symm.trans H
          refine W_skip ?_
          refine W_th ?_
          refine W_seq ?_
          refine W_reg (by kernel_rfl) ?_
          refine wla rfl rfl (q_move (v := v4) rfl rfl) ?_
          refine wla rfl rfl (q_move (v := (u8 a1b)) rfl rfl) ?_
          obtain ⟨r17, hr17, H⟩ := Option.bind_eq_some_iff.1 H
          refine wls rfl rfl (stp_call (vs := [v4, (u8 a1b)]) Try.func40 rfl rfl rfl (ar2 rfl rfl) (field_Inv_calls r4 a1b v4 r17 _ (i4_0.lift (Lift.sub (fun _ _ => trivial))) hr17) ?_)
          rintro _ w17 ⟨rfl, x17⟩
          refine ⟨_, rfl, ?_⟩
          replace i4_0 := i4_0.lift (Lift.ext x17 _)
          have e18 := e15.trans x17
          refine wla rfl rfl (q_move (v := (.tuple #[(u8 r17.1), (i64 r17.2)])) rfl rfl) ?_
          refine wla rfl rfl (q_extract rfl rfl rfl) ?_
          refine wla rfl rfl (q_extract rfl rfl rfl) ?_
          refine wla rfl rfl (q_assign (v := (u8 r17.1)) rfl rfl) ?_
          refine wla rfl rfl (q_assign (v := (i64 r17.2)) rfl rfl) ?_
          refine wl_nil ?_
          refine W_th ?_
          refine W_seq ?_
          refine W_reg (by kernel_rfl) ?_
          refine wla rfl rfl (q_move (v := v4) rfl rfl) ?_
          refine wla rfl rfl (q_move (v := (u8 a0a)) rfl rfl) ?_
          refine wla rfl rfl (q_move (v := (u8 a1b)) rfl rfl) ?_
          obtain ⟨r19, hr19, H⟩ := Option.bind_eq_some_iff.1 H
          refine wls rfl rfl (stp_call (vs := [v4, (u8 a0a), (u8 a1b)]) Try.func43 rfl rfl rfl (ar3 rfl rfl rfl) (field_Div_calls r4 a0a a1b v4 r19 _ (i4_0.lift (Lift.sub (fun _ _ => trivial))) hr19) ?_)
          rintro _ w19 ⟨rfl, x19⟩
          refine ⟨_, rfl, ?_⟩
          replace i4_0 := i4_0.lift (Lift.ext x19 _)
          have e20 := e18.trans x19
          refine wla rfl rfl (q_move (v := (.tuple #[(u8 r19.1), (i64 r19.2)])) rfl rfl) ?_
          refine wla rfl rfl (q_extract rfl rfl rfl) ?_
          refine wla rfl rfl (q_extract rfl rfl rfl) ?_
          refine wla rfl rfl (q_assign (v := (u8 r19.1)) rfl rfl) ?_
          refine wla rfl rfl (q_assign (v := (i64 r19.2)) rfl rfl) ?_
          refine wl_nil ?_
          refine W_th ?_
          refine W_seq ?_
          refine W_seq ?_
          refine W_reg (by kernel_rfl) ?_
          refine wla rfl rfl (q_move (v := (u8 a1b)) rfl rfl) ?_
          refine wla rfl rfl (q_eq8 rfl rfl (cst8 (0 : UInt8) rfl)) ?_
          refine wl_nil ?_
          refine W_th ?_
          refine W_cond _ rfl rfl (fun hb21 => ?_) (fun hb21 => ?_)
          · replace H := (if_pos (of_decide_eq_true hb21)).symm.trans H
            refine W_seq ?_
            refine W_reg (by kernel_rfl) ?_
            refine wla rfl rfl (q_move (v := (i64 r17.2)) rfl rfl) ?_
            refine wla rfl rfl (q_eqI rfl rfl rfl) ?_
            refine wlb rfl rfl (q_move (v := (.bool ((decide (r17.2 = 7))))) rfl rfl) (fun hb22 => ?_) (fun hb22 => ?_)
            · replace H := (if_pos (of_decide_eq_true hb22)).symm.trans H
              refine wla rfl rfl (q_move (v := (i64 r19.2)) rfl rfl) ?_
              refine wla rfl rfl (q_eqI rfl rfl rfl) ?_
              refine wla rfl rfl (q_pick_t (v := (.bool ((decide (r19.2 = 7))))) rfl rfl rfl) ?_
              refine wlb rfl rfl (q_move (v := (.bool ((decide (r19.2 = 7))))) rfl rfl) (fun hb23 => ?_) (fun hb23 => ?_)
              · replace H := (if_pos (of_decide_eq_true hb23)).symm.trans H
                refine wla rfl rfl (q_move (v := (u8 r17.1)) rfl rfl) ?_
                refine wla rfl rfl (q_eq8 rfl rfl (cst8 (0 : UInt8) rfl)) ?_
                refine wla rfl rfl (q_pick_t (v := (.bool ((decide (r17.1 = (0 : UInt8)))))) rfl rfl rfl) ?_
                refine wlb rfl rfl (q_move (v := (.bool ((decide (r17.1 = (0 : UInt8)))))) rfl rfl) (fun hb24 => ?_) (fun hb24 => ?_)
                · replace H := (if_pos (of_decide_eq_true hb24)).symm.trans H
                  refine wla rfl rfl (q_move (v := (u8 r19.1)) rfl rfl) ?_
                  refine wla rfl rfl (q_eq8 rfl rfl (cst8 (0 : UInt8) rfl)) ?_
                  refine wla rfl rfl (q_pick_t (v := (.bool ((decide (r19.1 = (0 : UInt8)))))) rfl rfl rfl) ?_
                  refine wla rfl rfl (q_assign (v := (.bool ((decide (r19.1 = (0 : UInt8)))))) rfl rfl) ?_
                  refine wl_nil ?_
                  refine W_th ?_
                  refine W_ret ?_
                  refine th_r ?_
                  obtain rfl := Option.some.inj H
                  refine rt1 (.bool ((decide (r19.1 = (0 : UInt8))))) rfl rfl rfl ?_
                  exact ⟨rfl, e20⟩
                · replace H := (if_neg (of_decide_eq_false hb24)).symm.trans H
                  refine wlk rfl rfl ?_
                  refine wlk rfl rfl ?_
                  refine wla rfl rfl (q_pick_f (v := (.bool false)) rfl rfl rfl) ?_
                  refine wla rfl rfl (q_assign (v := (.bool false)) rfl rfl) ?_
                  refine wl_nil ?_
                  refine W_th ?_
                  refine W_ret ?_
                  refine th_r ?_
                  obtain rfl := Option.some.inj H
                  refine rt1 (.bool false) rfl rfl rfl ?_
                  exact ⟨rfl, e20⟩
              · replace H := (if_neg (of_decide_eq_false hb23)).symm.trans H
                refine wlk rfl rfl ?_
                refine wlk rfl rfl ?_
                refine wla rfl rfl (q_pick_f (v := (.bool false)) rfl rfl rfl) ?_
                refine wla rfl rfl (q_move (v := (.bool false)) rfl rfl) ?_
                refine wlk rfl rfl ?_
                refine wlk rfl rfl ?_
                refine wla rfl rfl (q_pick_f (v := (.bool false)) rfl rfl rfl) ?_
                refine wla rfl rfl (q_assign (v := (.bool false)) rfl rfl) ?_
                refine wl_nil ?_
                refine W_th ?_
                refine W_ret ?_
                refine th_r ?_
                obtain rfl := Option.some.inj H
                refine rt1 (.bool false) rfl rfl rfl ?_
                exact ⟨rfl, e20⟩
            · replace H := (if_neg (of_decide_eq_false hb22)).symm.trans H
              refine wlk rfl rfl ?_
              refine wlk rfl rfl ?_
              refine wla rfl rfl (q_pick_f (v := (.bool false)) rfl rfl rfl) ?_
              refine wla rfl rfl (q_move (v := (.bool false)) rfl rfl) ?_
              refine wlk rfl rfl ?_
              refine wlk rfl rfl ?_
              refine wla rfl rfl (q_pick_f (v := (.bool false)) rfl rfl rfl) ?_
              refine wla rfl rfl (q_move (v := (.bool false)) rfl rfl) ?_
              refine wlk rfl rfl ?_
              refine wlk rfl rfl ?_
              refine wla rfl rfl (q_pick_f (v := (.bool false)) rfl rfl rfl) ?_
              refine wla rfl rfl (q_assign (v := (.bool false)) rfl rfl) ?_
              refine wl_nil ?_
              refine W_th ?_
              refine W_ret ?_
              refine th_r ?_
              obtain rfl := Option.some.inj H
              refine rt1 (.bool false) rfl rfl rfl ?_
              exact ⟨rfl, e20⟩
          · replace H := (if_neg (of_decide_eq_false hb21)).symm.trans H
            refine W_skip ?_
            refine W_th ?_
            refine W_seq ?_
            refine W_reg (by kernel_rfl) ?_
            refine wla rfl rfl (q_move (v := (i64 r17.2)) rfl rfl) ?_
            refine wla rfl rfl (q_eqI rfl rfl rfl) ?_
            refine wlb rfl rfl (q_move (v := (.bool ((decide (r17.2 = 0))))) rfl rfl) (fun hb25 => ?_) (fun hb25 => ?_)
            · replace H := (if_pos (of_decide_eq_true hb25)).symm.trans H
              refine wla rfl rfl (q_move (v := (i64 r19.2)) rfl rfl) ?_
              refine wla rfl rfl (q_eqI rfl rfl rfl) ?_
              refine wla rfl rfl (q_pick_t (v := (.bool ((decide (r19.2 = 0))))) rfl rfl rfl) ?_
              refine wlb rfl rfl (q_move (v := (.bool ((decide (r19.2 = 0))))) rfl rfl) (fun hb26 => ?_) (fun hb26 => ?_)
              · replace H := (if_pos (of_decide_eq_true hb26)).symm.trans H
                refine wla rfl rfl (q_move (v := (u8 r17.1)) rfl rfl) ?_
                refine wla rfl rfl (q_move (v := (u8 a1b)) rfl rfl) ?_
                obtain ⟨r27, hr27, H⟩ := Option.bind_eq_some_iff.1 H
                refine wls rfl rfl (stp_call (vs := [(u8 a1b)]) Try.func44 rfl rfl rfl (ar1 rfl) (ref02_Inv_calls a1b  r27 _  hr27) ?_)
                rintro _ w27 ⟨rfl, x27⟩
                refine ⟨_, rfl, ?_⟩
                replace i4_0 := i4_0.lift (Lift.ext x27 _)
                have e28 := e20.trans x27
                refine wla rfl rfl (q_eq8 rfl rfl rfl) ?_
                refine wla rfl rfl (q_pick_t (v := (.bool ((decide (r17.1 = r27))))) rfl rfl rfl) ?_
                refine wlb rfl rfl (q_move (v := (.bool ((decide (r17.1 = r27))))) rfl rfl) (fun hb29 => ?_) (fun hb29 => ?_)
                · replace H := (if_pos (of_decide_eq_true hb29)).symm.trans H
                  refine wla rfl rfl (q_move (v := (u8 r19.1)) rfl rfl) ?_
                  refine wla rfl rfl (q_move (v := (u8 a0a)) rfl rfl) ?_
                  refine wla rfl rfl (q_move (v := (u8 a1b)) rfl rfl) ?_
                  obtain ⟨r30, hr30, H⟩ := Option.bind_eq_some_iff.1 H
                  refine wls rfl rfl (stp_call (vs := [(u8 a1b)]) Try.func44 rfl rfl rfl (ar1 rfl) (ref02_Inv_calls a1b  r30 _  hr30) ?_)
                  rintro _ w30 ⟨rfl, x30⟩
                  refine ⟨_, rfl, ?_⟩
                  replace i4_0 := i4_0.lift (Lift.ext x30 _)
                  have e31 := e28.trans x30
                  obtain ⟨r32, hr32, H⟩ := Option.bind_eq_some_iff.1 H
                  refine wls rfl rfl (stp_call (vs := [(u8 a0a), (u8 r30)]) Try.func41 rfl rfl rfl (ar2 rfl rfl) (ref02_Mul_calls a0a r30  r32 _  hr32) ?_)
                  rintro _ w32 ⟨rfl, x32⟩
                  refine ⟨_, rfl, ?_⟩
                  replace i4_0 := i4_0.lift (Lift.ext x32 _)
                  have e33 := e31.trans x32
                  refine wla rfl rfl (q_eq8 rfl rfl rfl) ?_
                  refine wla rfl rfl (q_pick_t (v := (.bool ((decide (r19.1 = r32))))) rfl rfl rfl) ?_
                  refine wla rfl rfl (q_assign (v := (.bool ((decide (r19.1 = r32))))) rfl rfl) ?_
                  refine wl_nil ?_
                  refine W_th ?_
                  refine W_ret ?_
                  obtain rfl := Option.some.inj H
                  refine rt1 (.bool ((decide (r19.1 = r32)))) rfl rfl rfl ?_
                  exact ⟨rfl, e33⟩
                · replace H := (if_neg (of_decide_eq_false hb29)).symm.trans H
                  refine wlk rfl rfl ?_
                  refine wlk rfl rfl ?_
                  refine wlk rfl rfl ?_
                  refine wlk rfl rfl ?_
                  refine wlk rfl rfl ?_
                  refine wlk rfl rfl ?_
                  refine wla rfl rfl (q_pick_f (v := (.bool false)) rfl rfl rfl) ?_
                  refine wla rfl rfl (q_assign (v := (.bool false)) rfl rfl) ?_
                  refine wl_nil ?_
                  refine W_th ?_
                  refine W_ret ?_
                  obtain rfl := Option.some.inj H
                  refine rt1 (.bool false) rfl rfl rfl ?_
                  exact ⟨rfl, e28⟩
              · replace H := (if_neg (of_decide_eq_false hb26)).symm.trans H
                refine wlk rfl rfl ?_
                refine wlk rfl rfl ?_
                refine wlk rfl rfl ?_
                refine wlk rfl rfl ?_
                refine wla rfl rfl (q_pick_f (v := (.bool false)) rfl rfl rfl) ?_
                refine wla rfl rfl (q_move (v := (.bool false)) rfl rfl) ?_
                refine wlk rfl rfl ?_
                refine wlk rfl rfl ?_
                refine wlk rfl rfl ?_
                refine wlk rfl rfl ?_
                refine wlk rfl rfl ?_
                refine wlk rfl rfl ?_
                refine wla rfl rfl (q_pick_f (v := (.bool false)) rfl rfl rfl) ?_
                refine wla rfl rfl (q_assign (v := (.bool false)) rfl rfl) ?_
                refine wl_nil ?_
                refine W_th ?_
                refine W_ret ?_
                obtain rfl := Option.some.inj H
                refine rt1 (.bool false) rfl rfl rfl ?_
                exact ⟨rfl, e20⟩
            · replace H := (if_neg (of_decide_eq_false hb25)).symm.trans H
              refine wlk rfl rfl ?_
              refine wlk rfl rfl ?_
              refine wla rfl rfl (q_pick_f (v := (.bool false)) rfl rfl rfl) ?_
              refine wla rfl rfl (q_move (v := (.bool false)) rfl rfl) ?_
              refine wlk rfl rfl ?_
              refine wlk rfl rfl ?_
              refine wlk rfl rfl ?_
              refine wlk rfl rfl ?_
              refine wla rfl rfl (q_pick_f (v := (.bool false)) rfl rfl rfl) ?_
              refine wla rfl rfl (q_move (v := (.bool false)) rfl rfl) ?_
              refine wlk rfl rfl ?_
              refine wlk rfl rfl ?_
              refine wlk rfl rfl ?_
              refine wlk rfl rfl ?_
              refine wlk rfl rfl ?_
              refine wlk rfl rfl ?_
              refine wla rfl rfl (q_pick_f (v := (.bool false)) rfl rfl rfl) ?_
              refine wla rfl rfl (q_assign (v := (.bool false)) rfl rfl) ?_
              refine wl_nil ?_
              refine W_th ?_
              refine W_ret ?_
              obtain rfl := Option.some.inj H
              refine rt1 (.bool false) rfl rfl rfl ?_
              exact ⟨rfl, e20⟩

/-! largesse/largesselaw02.FieldPowers -/
noncomputable def law02_FieldPowers (a0a : UInt8) (a1n : Int) : Option Bool :=
((law02_lives ).bind fun r1 =>
(if (!r1) = true then
some false
else
((field_New ).bind fun r4 =>
((field_Pow r4 a0a a1n).bind fun r6 =>
((ref02_Pow a0a a1n).bind fun r8 =>
(if r6 = r8 then
((field_Log r4 a0a).bind fun r11 =>
(if a0a = (0 : UInt8) then
(if r11.2 = 7 then
some (decide (r11.1 = 0))
else
some false)
else
(if r11.2 = 0 then
(if 0 ≤ r11.1 then
(if r11.1 < 255 then
((ref02_Pow (3 : UInt8) r11.1).bind fun r18 =>
some (decide (r18 = a0a)))
else
some false)
else
some false)
else
some false)))
else
some false))))))
set_option maxRecDepth 100000 in
set_option maxHeartbeats 8000000 in
theorem law02_FieldPowers_calls (a0a : UInt8) (a1n : Int) (r : Bool) (w0 : World) (H : law02_FieldPowers a0a a1n = some r) :
    Calls Try.prog 5 [(u8 a0a), (i64 a1n)].toArray w0 (fun e w' => e = .returned (.bool r) ∧ Ext w0 w') := by
  have hE : Ext w0 w0 := Ext.refl w0
  unfold law02_FieldPowers at H
  refine calls_W (n := 49) Try.func5 rfl rfl rfl ?_
  refine W_seq ?_
  refine W_reg (by kernel_rfl) ?_
  refine wla rfl rfl (q_assign (v := (.bool false)) rfl rfl) ?_
  refine wl_nil ?_
  refine W_th ?_
  refine W_seq ?_
  refine W_seq ?_
  refine W_reg (by kernel_rfl) ?_
  obtain ⟨r1, hr1, H⟩ := Option.bind_eq_some_iff.1 H
  refine wls rfl rfl (stp_call (vs := []) Try.func36 rfl rfl rfl (ar0 ) (law02_lives_calls   r1 _  hr1) ?_)
  rintro _ w1 ⟨rfl, x1⟩
  refine ⟨_, rfl, ?_⟩
  have e2 := hE.trans x1
  refine wla rfl rfl (q_not rfl rfl) ?_
  refine wl_nil ?_
  refine W_th ?_
  refine W_cond _ rfl rfl (fun hb3 => ?_) (fun hb3 => ?_)
  · replace H := (if_pos hb3).symm.trans H
    refine W_seq ?_
    refine W_reg (by kernel_rfl) ?_
    refine wla rfl rfl (q_assign (v := (.bool false)) rfl rfl) ?_
    refine wl_nil ?_
    refine W_th ?_
    refine W_ret ?_
    refine th_r ?_
    obtain rfl := Option.some.inj H
    refine rt1 (.bool false) rfl rfl rfl ?_
    exact ⟨rfl, e2⟩
  · replace H := (if_neg (ne_true_of_eq_false hb3)).symm.trans H
    refine W_skip ?_
    refine W_th ?_
    refine W_seq ?_
    refine W_reg (by kernel_rfl) ?_
    obtain ⟨r4, hr4, H⟩ := Option.bind_eq_some_iff.1 H
    refine wls rfl rfl (stp_call (vs := []) Try.func37 rfl rfl rfl (ar0 ) (field_New_calls   r4 _ [] (Old.nil _)  hr4) ?_)
    rintro _ w4 ⟨v4, rfl, x4, i4_0⟩
    refine ⟨_, rfl, ?_⟩
    have e5 := e2.trans x4
    refine wla rfl rfl (q_assign (v := v4) rfl rfl) ?_
    refine wl_nil ?_
    refine W_th ?_
    refine W_seq ?_
    refine W_seq ?_
    refine W_reg (by kernel_rfl) ?_
    refine wla rfl rfl (q_move (v := v4) rfl rfl) ?_
    refine wla rfl rfl (q_move (v := (u8 a0a)) rfl rfl) ?_
    refine wla rfl rfl (q_move (v := (i64 a1n)) rfl rfl) ?_
    obtain ⟨r6, hr6, H⟩ := Option.bind_eq_some_iff.1 H
    refine wls rfl rfl (stp_call (vs := [v4, (u8 a0a), (i64 a1n)]) Try.func45 rfl rfl rfl (ar3 rfl rfl rfl) (field_Pow_calls r4 a0a a1n v4 r6 _ (i4_0.lift (Lift.sub (fun _ _ => trivial))) hr6) ?_)
    rintro _ w6 ⟨rfl, x6⟩
    refine ⟨_, rfl, ?_⟩
    replace i4_0 := i4_0.lift (Lift.ext x6 _)
    have e7 := e5.trans x6
    refine wla rfl rfl (q_move (v := (u8 a0a)) rfl rfl) ?_
    refine wla rfl rfl (q_move (v := (i64 a1n)) rfl rfl) ?_
    obtain ⟨r8, hr8, H⟩ := Option.bind_eq_some_iff.1 H
    refine wls rfl rfl (stp_call (vs := [(u8 a0a), (i64 a1n)]) Try.func46 rfl rfl rfl (ar2 rfl rfl) (ref02_Pow_calls a0a a1n  r8 _  hr8) ?_)
    rintro _ w8 ⟨rfl, x8⟩
    refine ⟨_, rfl, ?_⟩
    replace i4_0 := i4_0.lift (Lift.ext x8 _)
    have e9 := e7.trans x8
    refine wla rfl rfl (q_ne8 rfl rfl rfl) ?_
    refine wl_nil ?_
    refine W_th ?_
    refine W_cond _ rfl rfl (fun hb10 => ?_) (fun hb10 => ?_)
    · replace H := (if_neg (ndec_t hb10)).symm.trans H
      refine W_seq ?_
      refine W_reg (by kernel_rfl) ?_
      refine wla rfl rfl (q_assign (v := (.bool false)) rfl rfl) ?_
      refine wl_nil ?_
      refine W_th ?_
      refine W_ret ?_
      refine th_r ?_
      obtain rfl := Option.some.inj H
      refine rt1 (.bool false) rfl rfl rfl ?_
      exact ⟨rfl, e9⟩
    · replace H := (if_pos (ndec_f hb10)).symm.trans H
      refine W_skip ?_
      refine W_th ?_
      refine W_seq ?_
      refine W_reg (by kernel_rfl) ?_
      refine wla rfl rfl (q_move (v := v4) rfl rfl) ?_
      refine wla rfl rfl (q_move (v := (u8 a0a)) rfl rfl) ?_
      obtain ⟨r11, hr11, H⟩ := Option.bind_eq_some_iff.1 H
      refine wls rfl rfl (stp_call (vs := [v4, (u8 a0a)]) Try.func47 rfl rfl rfl (ar2 rfl rfl) (field_Log_calls r4 a0a v4 r11 _ (i4_0.lift (Lift.sub (fun _ _ => trivial))) hr11) ?_)
      rintro _ w11 ⟨rfl, x11⟩
      refine ⟨_, rfl, ?_⟩
      replace i4_0 := i4_0.lift (Lift.ext x11 _)
      have e12 := e9.trans x11
      refine wla rfl rfl (q_move (v := (.tuple #[(i64 r11.1), (i64 r11.2)])) rfl rfl) ?_
      refine wla rfl rfl (q_extract rfl rfl rfl) ?_
      refine wla rfl rfl (q_extract rfl rfl rfl) ?_
      refine wla rfl rfl (q_assign (v := (i64 r11.1)) rfl rfl) ?_
      refine wla rfl rfl (q_assign (v := (i64 r11.2)) rfl rfl) ?_
      refine wl_nil ?_
      refine W_th ?_
      refine W_seq ?_
      refine W_seq ?_
      refine W_reg (by kernel_rfl) ?_
      refine wla rfl rfl (q_move (v := (u8 a0a)) rfl rfl) ?_
      refine wla rfl rfl (q_eq8 rfl rfl (cst8 (0 : UInt8) rfl)) ?_
      refine wl_nil ?_
      refine W_th ?_
      refine W_cond _ rfl rfl (fun hb13 => ?_) (fun hb13 => ?_)
      · replace H := (if_pos (of_decide_eq_true hb13)).symm.trans H
        refine W_seq ?_
        refine W_reg (by kernel_rfl) ?_
        refine wla rfl rfl (q_move (v := (i64 r11.2)) rfl rfl) ?_
        refine wla rfl rfl (q_eqI rfl rfl rfl) ?_
        refine wlb rfl rfl (q_move (v := (.bool ((decide (r11.2 = 7))))) rfl rfl) (fun hb14 => ?_) (fun hb14 => ?_)
        · replace H := (if_pos (of_decide_eq_true hb14)).symm.trans H
          refine wla rfl rfl (q_move (v := (i64 r11.1)) rfl rfl) ?_
          refine wla rfl rfl (q_eqI rfl rfl rfl) ?_
          refine wla rfl rfl (q_pick_t (v := (.bool ((decide (r11.1 = 0))))) rfl rfl rfl) ?_
          refine wla rfl rfl (q_assign (v := (.bool ((decide (r11.1 = 0))))) rfl rfl) ?_
          refine wl_nil ?_
          refine W_th ?_
          refine W_ret ?_
          refine th_r ?_
          obtain rfl := Option.some.inj H
          refine rt1 (.bool ((decide (r11.1 = 0)))) rfl rfl rfl ?_
          exact ⟨rfl, e12⟩
        · replace H := (if_neg (of_decide_eq_false hb14)).symm.trans H
          refine wlk rfl rfl ?_
          refine wlk rfl rfl ?_
          refine wla rfl rfl (q_pick_f (v := (.bool false)) rfl rfl rfl) ?_
          refine wla rfl rfl (q_assign (v := (.bool false)) rfl rfl) ?_
          refine wl_nil ?_
          refine W_th ?_
          refine W_ret ?_
          refine th_r ?_
          obtain rfl := Option.some.inj H
          refine rt1 (.bool false) rfl rfl rfl ?_
          exact ⟨rfl, e12⟩
      · replace H := (if_neg (of_decide_eq_false hb13)).symm.trans H
        refine W_skip ?_
        refine W_th ?_
        refine W_seq ?_
        refine W_reg (by kernel_rfl) ?_
        refine wla rfl rfl (q_move (v := (i64 r11.2)) rfl rfl) ?_
        refine wla rfl rfl (q_eqI rfl rfl rfl) ?_
        refine wlb rfl rfl (q_move (v := (.bool ((decide (r11.2 = 0))))) rfl rfl) (fun hb15 => ?_) (fun hb15 => ?_)
        · replace H := (if_pos (of_decide_eq_true hb15)).symm.trans H
          refine wla rfl rfl (q_move (v := (i64 r11.1)) rfl rfl) ?_
          refine wla rfl rfl (q_geI rfl rfl rfl) ?_
          refine wla rfl rfl (q_pick_t (v := (.bool ((decide (0 ≤ r11.1))))) rfl rfl rfl) ?_
          refine wlb rfl rfl (q_move (v := (.bool ((decide (0 ≤ r11.1))))) rfl rfl) (fun hb16 => ?_) (fun hb16 => ?_)
          · replace H := (if_pos (of_decide_eq_true hb16)).symm.trans H
            refine wla rfl rfl (q_move (v := (i64 r11.1)) rfl rfl) ?_
            refine wla rfl rfl (q_ltI rfl rfl rfl) ?_
            refine wla rfl rfl (q_pick_t (v := (.bool ((decide (r11.1 < 255))))) rfl rfl rfl) ?_
            refine wlb rfl rfl (q_move (v := (.bool ((decide (r11.1 < 255))))) rfl rfl) (fun hb17 => ?_) (fun hb17 => ?_)
            · replace H := (if_pos (of_decide_eq_true hb17)).symm.trans H
              refine wla rfl rfl (q_move (v := (i64 r11.1)) rfl rfl) ?_
              obtain ⟨r18, hr18, H⟩ := Option.bind_eq_some_iff.1 H
              refine wls rfl rfl (stp_call (vs := [(u8 3), (i64 r11.1)]) Try.func46 rfl rfl rfl (ar2 (cst8 (3 : UInt8) rfl) rfl) (ref02_Pow_calls (3 : UInt8) r11.1  r18 _  hr18) ?_)
              rintro _ w18 ⟨rfl, x18⟩
              refine ⟨_, rfl, ?_⟩
              replace i4_0 := i4_0.lift (Lift.ext x18 _)
              have e19 := e12.trans x18
              refine wla rfl rfl (q_move (v := (u8 a0a)) rfl rfl) ?_
              refine wla rfl rfl (q_eq8 rfl rfl rfl) ?_
              refine wla rfl rfl (q_pick_t (v := (.bool ((decide (r18 = a0a))))) rfl rfl rfl) ?_
              refine wla rfl rfl (q_assign (v := (.bool ((decide (r18 = a0a))))) rfl rfl) ?_
              refine wl_nil ?_
              refine W_th ?_
              refine W_ret ?_
              obtain rfl := Option.some.inj H
              refine rt1 (.bool ((decide (r18 = a0a)))) rfl rfl rfl ?_
              exact ⟨rfl, e19⟩
            · replace H := (if_neg (of_decide_eq_false hb17)).symm.trans H
              refine wlk rfl rfl ?_
              refine wlk rfl rfl ?_
              refine wlk rfl rfl ?_
              refine wlk rfl rfl ?_
              refine wla rfl rfl (q_pick_f (v := (.bool false)) rfl rfl rfl) ?_
              refine wla rfl rfl (q_assign (v := (.bool false)) rfl rfl) ?_
              refine wl_nil ?_
              refine W_th ?_
              refine W_ret ?_
              obtain rfl := Option.some.inj H
              refine rt1 (.bool false) rfl rfl rfl ?_
              exact ⟨rfl, e12⟩
          · replace H := (if_neg (of_decide_eq_false hb16)).symm.trans H
            refine wlk rfl rfl ?_
            refine wlk rfl rfl ?_
            refine wla rfl rfl (q_pick_f (v := (.bool false)) rfl rfl rfl) ?_
            refine wla rfl rfl (q_move (v := (.bool false)) rfl rfl) ?_
            refine wlk rfl rfl ?_
            refine wlk rfl rfl ?_
            refine wlk rfl rfl ?_
            refine wlk rfl rfl ?_
            refine wla rfl rfl (q_pick_f (v := (.bool false)) rfl rfl rfl) ?_
            refine wla rfl rfl (q_assign (v := (.bool false)) rfl rfl) ?_
            refine wl_nil ?_
            refine W_th ?_
            refine W_ret ?_
            obtain rfl := Option.some.inj H
            refine rt1 (.bool false) rfl rfl rfl ?_
            exact ⟨rfl, e12⟩
        · replace H := (if_neg (of_decide_eq_false hb15)).symm.trans H
          refine wlk rfl rfl ?_
          refine wlk rfl rfl ?_
          refine wla rfl rfl (q_pick_f (v := (.bool false)) rfl rfl rfl) ?_
          refine wla rfl rfl (q_move (v := (.bool false)) rfl rfl) ?_
          refine wlk rfl rfl ?_
          refine wlk rfl rfl ?_
          refine wla rfl rfl (q_pick_f (v := (.bool false)) rfl rfl rfl) ?_
          refine wla rfl rfl (q_move (v := (.bool false)) rfl rfl) ?_
          refine wlk rfl rfl ?_
          refine wlk rfl rfl ?_
          refine wlk rfl rfl ?_
          refine wlk rfl rfl ?_
          refine wla rfl rfl (q_pick_f (v := (.bool false)) rfl rfl rfl) ?_
          refine wla rfl rfl (q_assign (v := (.bool false)) rfl rfl) ?_
          refine wl_nil ?_
          refine W_th ?_
          refine W_ret ?_
          obtain rfl := Option.some.inj H
          refine rt1 (.bool false) rfl rfl rfl ?_
          exact ⟨rfl, e12⟩

/-! largesse/largesselaw02.FieldRules -/
noncomputable def law02_FieldRules (a0a : UInt8) (a1b : UInt8) (a2c : UInt8) : Option Bool :=
((law02_lives ).bind fun r1 =>
(if (!r1) = true then
some false
else
((field_New ).bind fun r4 =>
((field_Mul r4 a0a a1b).bind fun r6 =>
((field_Mul r4 a1b a0a).bind fun r8 =>
(if r6 = r8 then
((field_Mul r4 a0a a1b).bind fun r11 =>
((field_Mul r4 r11 a2c).bind fun r13 =>
((field_Mul r4 a1b a2c).bind fun r15 =>
((field_Mul r4 a0a r15).bind fun r17 =>
(if r13 = r17 then
((field_Add a1b a2c).bind fun r20 =>
((field_Mul r4 a0a r20).bind fun r22 =>
((field_Mul r4 a0a a1b).bind fun r24 =>
((field_Mul r4 a0a a2c).bind fun r26 =>
((field_Add r24 r26).bind fun r28 =>
(if r22 = r28 then
((field_Mul r4 a0a (1 : UInt8)).bind fun r31 =>
(if r31 = a0a then
((field_Mul r4 a0a (0 : UInt8)).bind fun r34 =>
(if r34 = (0 : UInt8) then
((field_Add a0a a0a).bind fun r37 =>
(if r37 = (0 : UInt8) then
((field_Inv r4 a0a).bind fun r40 =>
(if (((decide (r40.2 = 0))) == ((!decide (a0a = (0 : UInt8))))) = true then
(if a0a = (0 : UInt8) then
some true
else
((field_Mul r4 a0a r40.1).bind fun r44 =>
some (decide (r44 = (1 : UInt8)))))
else
some false))
else
some false))
else
some false))
else
some false))
else
some false))))))
else
some false)))))
else
some false))))))
set_option maxRecDepth 100000 in
set_option maxHeartbeats 8000000 in
theorem law02_FieldRules_calls (a0a : UInt8) (a1b : UInt8) (a2c : UInt8) (r : Bool) (w0 : World) (H : law02_FieldRules a0a a1b a2c = some r) :
    Calls Try.prog 3 [(u8 a0a), (u8 a1b), (u8 a2c)].toArray w0 (fun e w' => e = .returned (.bool r) ∧ Ext w0 w') := by
  have hE : Ext w0 w0 := Ext.refl w0
  unfold law02_FieldRules at H
  refine calls_W (n := 96) Try.func3 rfl rfl rfl ?_
  refine W_seq ?_
  refine W_reg (by kernel_rfl) ?_
  refine wla rfl rfl (q_assign (v := (.bool false)) rfl rfl) ?_
  refine wl_nil ?_
  refine W_th ?_
  refine W_seq ?_
  refine W_seq ?_
  refine W_reg (by kernel_rfl) ?_
  obtain ⟨r1, hr1, H⟩ := Option.bind_eq_some_iff.1 H
  refine wls rfl rfl (stp_call (vs := []) Try.func36 rfl rfl rfl (ar0 ) (law02_lives_calls   r1 _  hr1) ?_)
  rintro _ w1 ⟨rfl, x1⟩
  refine ⟨_, rfl, ?_⟩
  have e2 := hE.trans x1
  refine wla rfl rfl (q_not rfl rfl) ?_
  refine wl_nil ?_
  refine W_th ?_
  refine W_cond _ rfl rfl (fun hb3 => ?_) (fun hb3 => ?_)
  · replace H := (if_pos hb3).symm.trans H
    refine W_seq ?_
    refine W_reg (by kernel_rfl) ?_
    refine wla rfl rfl (q_assign (v := (.bool false)) rfl rfl) ?_
    refine wl_nil ?_
    refine W_th ?_
    refine W_ret ?_
    refine th_r ?_
    obtain rfl := Option.some.inj H
    refine rt1 (.bool false) rfl rfl rfl ?_
    exact ⟨rfl, e2⟩
  · replace H := (if_neg (ne_true_of_eq_false hb3)).symm.trans H
    refine W_skip ?_
    refine W_th ?_
    refine W_seq ?_
    refine W_reg (by kernel_rfl) ?_
    obtain ⟨r4, hr4, H⟩ := Option.bind_eq_some_iff.1 H
    refine wls rfl rfl (stp_call (vs := []) Try.func37 rfl rfl rfl (ar0 ) (field_New_calls   r4 _ [] (Old.nil _)  hr4) ?_)
    rintro _ w4 ⟨v4, rfl, x4, i4_0⟩
    refine ⟨_, rfl, ?_⟩
    have e5 := e2.trans x4
    refine wla rfl rfl (q_assign (v := v4) rfl rfl) ?_
    refine wl_nil ?_
    refine W_th ?_
    refine W_seq ?_
    refine W_seq ?_
    refine W_reg (by kernel_rfl) ?_
    refine wla rfl rfl (q_move (v := v4) rfl rfl) ?_
    refine wla rfl rfl (q_move (v := (u8 a0a)) rfl rfl) ?_
    refine wla rfl rfl (q_move (v := (u8 a1b)) rfl rfl) ?_
    obtain ⟨r6, hr6, H⟩ := Option.bind_eq_some_iff.1 H
    refine wls rfl rfl (stp_call (vs := [v4, (u8 a0a), (u8 a1b)]) Try.func38 rfl rfl rfl (ar3 rfl rfl rfl) (field_Mul_calls r4 a0a a1b v4 r6 _ (i4_0.lift (Lift.sub (fun _ _ => trivial))) hr6) ?_)
    rintro _ w6 ⟨rfl, x6⟩
    refine ⟨_, rfl, ?_⟩
    replace i4_0 := i4_0.lift (Lift.ext x6 _)
    have e7 := e5.trans x6
    refine wla rfl rfl (q_move (v := v4) rfl rfl) ?_
    refine wla rfl rfl (q_move (v := (u8 a1b)) rfl rfl) ?_
    refine wla rfl rfl (q_move (v := (u8 a0a)) rfl rfl) ?_
    obtain ⟨r8, hr8, H⟩ := Option.bind_eq_some_iff.1 H
    refine wls rfl rfl (stp_call (vs := [v4, (u8 a1b), (u8 a0a)]) Try.func38 rfl rfl rfl (ar3 rfl rfl rfl) (field_Mul_calls r4 a1b a0a v4 r8 _ (i4_0.lift (Lift.sub (fun _ _ => trivial))) hr8) ?_)
    rintro _ w8 ⟨rfl, x8⟩
    refine ⟨_, rfl, ?_⟩
    replace i4_0 := i4_0.lift (Lift.ext x8 _)
    have e9 := e7.trans x8
    refine wla rfl rfl (q_ne8 rfl rfl rfl) ?_
    refine wlb rfl rfl (q_move (v := (.bool ((!decide (r6 = r8))))) rfl rfl) (fun hb10 => ?_) (fun hb10 => ?_)
    · replace H := (if_neg (ndec_t hb10)).symm.trans H
      refine wlk rfl rfl ?_
      refine wlk rfl rfl ?_
      refine wlk rfl rfl ?_
      refine wlk rfl rfl ?_
      refine wlk rfl rfl ?_
      refine wlk rfl rfl ?_
      refine wlk rfl rfl ?_
      refine wlk rfl rfl ?_
      refine wlk rfl rfl ?_
      refine wlk rfl rfl ?_
      refine wlk rfl rfl ?_
      refine wlk rfl rfl ?_
      refine wlk rfl rfl ?_
      refine wlk rfl rfl ?_
      refine wlk rfl rfl ?_
      refine wla rfl rfl (q_pick_t (v := (.bool true)) rfl rfl rfl) ?_
      refine wla rfl rfl (q_move (v := (.bool true)) rfl rfl) ?_
      refine wlk rfl rfl ?_
      refine wlk rfl rfl ?_
      refine wlk rfl rfl ?_
      refine wlk rfl rfl ?_
      refine wlk rfl rfl ?_
      refine wlk rfl rfl ?_
      refine wlk rfl rfl ?_
      refine wlk rfl rfl ?_
      refine wlk rfl rfl ?_
      refine wlk rfl rfl ?_
      refine wlk rfl rfl ?_
      refine wlk rfl rfl ?_
      refine wlk rfl rfl ?_
      refine wlk rfl rfl ?_
      refine wlk rfl rfl ?_
      refine wlk rfl rfl ?_
      refine wla rfl rfl (q_pick_t (v := (.bool true)) rfl rfl rfl) ?_
      refine wl_nil ?_
      refine W_th ?_
      refine W_cond true rfl rfl (fun _ => ?_) (fun hb => by cases hb)
      refine W_seq ?_
      refine W_reg (by kernel_rfl) ?_
      refine wla rfl rfl (q_assign (v := (.bool false)) rfl rfl) ?_
      refine wl_nil ?_
      refine W_th ?_
      refine W_ret ?_
      refine th_r ?_
      obtain rfl := Option.some.inj H
      refine rt1 (.bool false) rfl rfl rfl ?_
      exact ⟨rfl, e9⟩
    · replace H := (if_pos (ndec_f hb10)).symm.trans H
      refine wla rfl rfl (q_move (v := v4) rfl rfl) ?_
      refine wla rfl rfl (q_move (v := v4) rfl rfl) ?_
      refine wla rfl rfl (q_move (v := (u8 a0a)) rfl rfl) ?_
      refine wla rfl rfl (q_move (v := (u8 a1b)) rfl rfl) ?_
      obtain ⟨r11, hr11, H⟩ := Option.bind_eq_some_iff.1 H
      refine wls rfl rfl (stp_call (vs := [v4, (u8 a0a), (u8 a1b)]) Try.func38 rfl rfl rfl (ar3 rfl rfl rfl) (field_Mul_calls r4 a0a a1b v4 r11 _ (i4_0.lift (Lift.sub (fun _ _ => trivial))) hr11) ?_)
      rintro _ w11 ⟨rfl, x11⟩
      refine ⟨_, rfl, ?_⟩
      replace i4_0 := i4_0.lift (Lift.ext x11 _)
      have e12 := e9.trans x11
      refine wla rfl rfl (q_move (v := (u8 a2c)) rfl rfl) ?_
      obtain ⟨r13, hr13, H⟩ := Option.bind_eq_some_iff.1 H
      refine wls rfl rfl (stp_call (vs := [v4, (u8 r11), (u8 a2c)]) Try.func38 rfl rfl rfl (ar3 rfl rfl rfl) (field_Mul_calls r4 r11 a2c v4 r13 _ (i4_0.lift (Lift.sub (fun _ _ => trivial))) hr13) ?_)
      rintro _ w13 ⟨rfl, x13⟩
      refine ⟨_, rfl, ?_⟩
      replace i4_0 := i4_0.lift (Lift.ext x13 _)
      have e14 := e12.trans x13
      refine wla rfl rfl (q_move (v := v4) rfl rfl) ?_
      refine wla rfl rfl (q_move (v := (u8 a0a)) rfl rfl) ?_
      refine wla rfl rfl (q_move (v := v4) rfl rfl) ?_
      refine wla rfl rfl (q_move (v := (u8 a1b)) rfl rfl) ?_
      refine wla rfl rfl (q_move (v := (u8 a2c)) rfl rfl) ?_
      obtain ⟨r15, hr15, H⟩ := Option.bind_eq_some_iff.1 H
      refine wls rfl rfl (stp_call (vs := [v4, (u8 a1b), (u8 a2c)]) Try.func38 rfl rfl rfl (ar3 rfl rfl rfl) (field_Mul_calls r4 a1b a2c v4 r15 _ (i4_0.lift (Lift.sub (fun _ _ => trivial))) hr15) ?_)
      rintro _ w15 ⟨rfl, x15⟩
      refine ⟨_, rfl, ?_⟩
      replace i4_0 := i4_0.lift (Lift.ext x15 _)
      have e16 := e14.trans x15
      obtain ⟨r17, hr17, H⟩ := Option.bind_eq_some_iff.1 H
      refine wls rfl rfl (stp_call (vs := [v4, (u8 a0a), (u8 r15)]) Try.func38 rfl rfl rfl (ar3 rfl rfl rfl) (field_Mul_calls r4 a0a r15 v4 r17 _ (i4_0.lift (Lift.sub (fun _ _ => trivial))) hr17) ?_)
      rintro _ w17 ⟨rfl, x17⟩
      refine ⟨_, rfl, ?_⟩
      replace i4_0 := i4_0.lift (Lift.ext x17 _)
      have e18 := e16.trans x17
      refine wla rfl rfl (q_ne8 rfl rfl rfl) ?_
      refine wla rfl rfl (q_pick_f (v := (.bool ((!decide (r13 = r17))))) rfl rfl rfl) ?_
      refine wlb rfl rfl (q_move (v := (.bool ((!decide (r13 = r17))))) rfl rfl) (fun hb19 => ?_) (fun hb19 => ?_)
      · replace H := (if_neg (ndec_t hb19)).symm.trans H
        refine wlk rfl rfl ?_
        refine wlk rfl rfl ?_
        refine wlk rfl rfl ?_
        refine wlk rfl rfl ?_
        refine wlk rfl rfl ?_
        refine wlk rfl rfl ?_
        refine wlk rfl rfl ?_
        refine wlk rfl rfl ?_
        refine wlk rfl rfl ?_
        refine wlk rfl rfl ?_
        refine wlk rfl rfl ?_
        refine wlk rfl rfl ?_
        refine wlk rfl rfl ?_
        refine wlk rfl rfl ?_
        refine wlk rfl rfl ?_
        refine wlk rfl rfl ?_
        refine wla rfl rfl (q_pick_t (v := (.bool true)) rfl rfl rfl) ?_
        refine wl_nil ?_
        refine W_th ?_
        refine W_cond true rfl rfl (fun _ => ?_) (fun hb => by cases hb)
        refine W_seq ?_
        refine W_reg (by kernel_rfl) ?_
        refine wla rfl rfl (q_assign (v := (.bool false)) rfl rfl) ?_
        refine wl_nil ?_
        refine W_th ?_
        refine W_ret ?_
        refine th_r ?_
        obtain rfl := Option.some.inj H
        refine rt1 (.bool false) rfl rfl rfl ?_
        exact ⟨rfl, e18⟩
      · replace H := (if_pos (ndec_f hb19)).symm.trans H
        refine wla rfl rfl (q_move (v := v4) rfl rfl) ?_
        refine wla rfl rfl (q_move (v := (u8 a0a)) rfl rfl) ?_
        refine wla rfl rfl (q_move (v := (u8 a1b)) rfl rfl) ?_
        refine wla rfl rfl (q_move (v := (u8 a2c)) rfl rfl) ?_
        obtain ⟨r20, hr20, H⟩ := Option.bind_eq_some_iff.1 H
        refine wls rfl rfl (stp_call (vs := [(u8 a1b), (u8 a2c)]) Try.func39 rfl rfl rfl (ar2 rfl rfl) (field_Add_calls a1b a2c  r20 _  hr20) ?_)
        rintro _ w20 ⟨rfl, x20⟩
        refine ⟨_, rfl, ?_⟩
        replace i4_0 := i4_0.lift (Lift.ext x20 _)
        have e21 := e18.trans x20
        obtain ⟨r22, hr22, H⟩ := Option.bind_eq_some_iff.1 H
        refine wls rfl rfl (stp_call (vs := [v4, (u8 a0a), (u8 r20)]) Try.func38 rfl rfl rfl (ar3 rfl rfl rfl) (field_Mul_calls r4 a0a r20 v4 r22 _ (i4_0.lift (Lift.sub (fun _ _ => trivial))) hr22) ?_)
        rintro _ w22 ⟨rfl, x22⟩
        refine ⟨_, rfl, ?_⟩
        replace i4_0 := i4_0.lift (Lift.ext x22 _)
        have e23 := e21.trans x22
        refine wla rfl rfl (q_move (v := v4) rfl rfl) ?_
        refine wla rfl rfl (q_move (v := (u8 a0a)) rfl rfl) ?_
        refine wla rfl rfl (q_move (v := (u8 a1b)) rfl rfl) ?_
        obtain ⟨r24, hr24, H⟩ := Option.bind_eq_some_iff.1 H
        refine wls rfl rfl (stp_call (vs := [v4, (u8 a0a), (u8 a1b)]) Try.func38 rfl rfl rfl (ar3 rfl rfl rfl) (field_Mul_calls r4 a0a a1b v4 r24 _ (i4_0.lift (Lift.sub (fun _ _ => trivial))) hr24) ?_)
        rintro _ w24 ⟨rfl, x24⟩
        refine ⟨_, rfl, ?_⟩
        replace i4_0 := i4_0.lift (Lift.ext x24 _)
        have e25 := e23.trans x24
        refine wla rfl rfl (q_move (v := v4) rfl rfl) ?_
        refine wla rfl rfl (q_move (v := (u8 a0a)) rfl rfl) ?_
        refine wla rfl rfl (q_move (v := (u8 a2c)) rfl rfl) ?_
        obtain ⟨r26, hr26, H⟩ := Option.bind_eq_some_iff.1 H
        refine wls rfl rfl (stp_call (vs := [v4, (u8 a0a), (u8 a2c)]) Try.func38 rfl rfl rfl (ar3 rfl rfl rfl) (field_Mul_calls r4 a0a a2c v4 r26 _ (i4_0.lift (Lift.sub (fun _ _ => trivial))) hr26) ?_)
        rintro _ w26 ⟨rfl, x26⟩
        refine ⟨_, rfl, ?_⟩
        replace i4_0 := i4_0.lift (Lift.ext x26 _)
        have e27 := e25.trans x26
        obtain ⟨r28, hr28, H⟩ := Option.bind_eq_some_iff.1 H
        refine wls rfl rfl (stp_call (vs := [(u8 r24), (u8 r26)]) Try.func39 rfl rfl rfl (ar2 rfl rfl) (field_Add_calls r24 r26  r28 _  hr28) ?_)
        rintro _ w28 ⟨rfl, x28⟩
        refine ⟨_, rfl, ?_⟩
        replace i4_0 := i4_0.lift (Lift.ext x28 _)
        have e29 := e27.trans x28
        refine wla rfl rfl (q_ne8 rfl rfl rfl) ?_
        refine wla rfl rfl (q_pick_f (v := (.bool ((!decide (r22 = r28))))) rfl rfl rfl) ?_
        refine wl_nil ?_
        refine W_th ?_
        refine W_cond _ rfl rfl (fun hb30 => ?_) (fun hb30 => ?_)
        · replace H := (if_neg (ndec_t hb30)).symm.trans H
          refine W_seq ?_
          refine W_reg (by kernel_rfl) ?_
          refine wla rfl rfl (q_assign (v := (.bool false)) rfl rfl) ?_
          refine wl_nil ?_
          refine W_th ?_
          refine W_ret ?_
          refine th_r ?_
          obtain rfl := Option.some.inj H
          refine rt1 (.bool false) rfl rfl rfl ?_
          exact ⟨rfl, e29⟩
        · replace H := (if_pos (ndec_f hb30)).symm.trans H
          refine W_skip ?_
          refine W_th ?_
          refine W_seq ?_
          refine W_seq ?_
          refine W_reg (by kernel_rfl) ?_
          refine wla rfl rfl (q_move (v := v4) rfl rfl) ?_
          refine wla rfl rfl (q_move (v := (u8 a0a)) rfl rfl) ?_
          obtain ⟨r31, hr31, H⟩ := Option.bind_eq_some_iff.1 H
          refine wls rfl rfl (stp_call (vs := [v4, (u8 a0a), (u8 1)]) Try.func38 rfl rfl rfl (ar3 rfl rfl (cst8 (1 : UInt8) rfl)) (field_Mul_calls r4 a0a (1 : UInt8) v4 r31 _ (i4_0.lift (Lift.sub (fun _ _ => trivial))) hr31) ?_)
          rintro _ w31 ⟨rfl, x31⟩
          refine ⟨_, rfl, ?_⟩
          replace i4_0 := i4_0.lift (Lift.ext x31 _)
          have e32 := e29.trans x31
          refine wla rfl rfl (q_move (v := (u8 a0a)) rfl rfl) ?_
          refine wla rfl rfl (q_ne8 rfl rfl rfl) ?_
          refine wlb rfl rfl (q_move (v := (.bool ((!decide (r31 = a0a))))) rfl rfl) (fun hb33 => ?_) (fun hb33 => ?_)
          · replace H := (if_neg (ndec_t hb33)).symm.trans H
            refine wlk rfl rfl ?_
            refine wlk rfl rfl ?_
            refine wlk rfl rfl ?_
            refine wlk rfl rfl ?_
            refine wla rfl rfl (q_pick_t (v := (.bool true)) rfl rfl rfl) ?_
            refine wla rfl rfl (q_move (v := (.bool true)) rfl rfl) ?_
            refine wlk rfl rfl ?_
            refine wlk rfl rfl ?_
            refine wlk rfl rfl ?_
            refine wlk rfl rfl ?_
            refine wla rfl rfl (q_pick_t (v := (.bool true)) rfl rfl rfl) ?_
            refine wl_nil ?_
            refine W_th ?_
            refine W_cond true rfl rfl (fun _ => ?_) (fun hb => by cases hb)
            refine W_seq ?_
            refine W_reg (by kernel_rfl) ?_
            refine wla rfl rfl (q_assign (v := (.bool false)) rfl rfl) ?_
            refine wl_nil ?_
            refine W_th ?_
            refine W_ret ?_
            refine th_r ?_
            obtain rfl := Option.some.inj H
            refine rt1 (.bool false) rfl rfl rfl ?_
            exact ⟨rfl, e32⟩
          · replace H := (if_pos (ndec_f hb33)).symm.trans H
            refine wla rfl rfl (q_move (v := v4) rfl rfl) ?_
            refine wla rfl rfl (q_move (v := (u8 a0a)) rfl rfl) ?_
            obtain ⟨r34, hr34, H⟩ := Option.bind_eq_some_iff.1 H
            refine wls rfl rfl (stp_call (vs := [v4, (u8 a0a), (u8 0)]) Try.func38 rfl rfl rfl (ar3 rfl rfl (cst8 (0 : UInt8) rfl)) (field_Mul_calls r4 a0a (0 : UInt8) v4 r34 _ (i4_0.lift (Lift.sub (fun _ _ => trivial))) hr34) ?_)
            rintro _ w34 ⟨rfl, x34⟩
            refine ⟨_, rfl, ?_⟩
            replace i4_0 := i4_0.lift (Lift.ext x34 _)
            have e35 := e32.trans x34
            refine wla rfl rfl (q_ne8 rfl rfl (cst8 (0 : UInt8) rfl)) ?_
            refine wla rfl rfl (q_pick_f (v := (.bool ((!decide (r34 = (0 : UInt8)))))) rfl rfl rfl) ?_
            refine wlb rfl rfl (q_move (v := (.bool ((!decide (r34 = (0 : UInt8)))))) rfl rfl) (fun hb36 => ?_) (fun hb36 => ?_)
            · replace H := (if_neg (ndec_t hb36)).symm.trans H
              refine wlk rfl rfl ?_
              refine wlk rfl rfl ?_
              refine wlk rfl rfl ?_
              refine wlk rfl rfl ?_
              refine wla rfl rfl (q_pick_t (v := (.bool true)) rfl rfl rfl) ?_
              refine wl_nil ?_
              refine W_th ?_
              refine W_cond true rfl rfl (fun _ => ?_) (fun hb => by cases hb)
              refine W_seq ?_
              refine W_reg (by kernel_rfl) ?_
              refine wla rfl rfl (q_assign (v := (.bool false)) rfl rfl) ?_
              refine wl_nil ?_
              refine W_th ?_
              refine W_ret ?_
              refine th_r ?_
              obtain rfl := Option.some.inj H
              refine rt1 (.bool false) rfl rfl rfl ?_
              exact ⟨rfl, e35⟩
            · replace H := (if_pos (ndec_f hb36)).symm.trans H
              refine wla rfl rfl (q_move (v := (u8 a0a)) rfl rfl) ?_
              refine wla rfl rfl (q_move (v := (u8 a0a)) rfl rfl) ?_
              obtain ⟨r37, hr37, H⟩ := Option.bind_eq_some_iff.1 H
              refine wls rfl rfl (stp_call (vs := [(u8 a0a), (u8 a0a)]) Try.func39 rfl rfl rfl (ar2 rfl rfl) (field_Add_calls a0a a0a  r37 _  hr37) ?_)
              rintro _ w37 ⟨rfl, x37⟩
              refine ⟨_, rfl, ?_⟩
              replace i4_0 := i4_0.lift (Lift.ext x37 _)
              have e38 := e35.trans x37
              refine wla rfl rfl (q_ne8 rfl rfl (cst8 (0 : UInt8) rfl)) ?_
              refine wla rfl rfl (q_pick_f (v := (.bool ((!decide (r37 = (0 : UInt8)))))) rfl rfl rfl) ?_
              refine wl_nil ?_
              refine W_th ?_
              refine W_cond _ rfl rfl (fun hb39 => ?_) (fun hb39 => ?_)
              · replace H := (if_neg (ndec_t hb39)).symm.trans H
                refine W_seq ?_
                refine W_reg (by kernel_rfl) ?_
                refine wla rfl rfl (q_assign (v := (.bool false)) rfl rfl) ?_
                refine wl_nil ?_
                refine W_th ?_
                refine W_ret ?_
                refine th_r ?_
                obtain rfl := Option.some.inj H
                refine rt1 (.bool false) rfl rfl rfl ?_
                exact ⟨rfl, e38⟩
              · replace H := (if_pos (ndec_f hb39)).symm.trans H
                refine W_skip ?_
                refine W_th ?_
                refine W_seq ?_
                refine W_reg (by kernel_rfl) ?_
                refine wla rfl rfl (q_move (v := v4) rfl rfl) ?_
                refine wla rfl rfl (q_move (v := (u8 a0a)) rfl rfl) ?_
                obtain ⟨r40, hr40, H⟩ := Option.bind_eq_some_iff.1 H
                refine wls rfl rfl (stp_call (vs := [v4, (u8 a0a)]) Try.func40 rfl rfl rfl (ar2 rfl rfl) (field_Inv_calls r4 a0a v4 r40 _ (i4_0.lift (Lift.sub (fun _ _ => trivial))) hr40) ?_)
                rintro _ w40 ⟨rfl, x40⟩
                refine ⟨_, rfl, ?_⟩
                replace i4_0 := i4_0.lift (Lift.ext x40 _)
                have e41 := e38.trans x40
                refine wla rfl rfl (q_move (v := (.tuple #[(u8 r40.1), (i64 r40.2)])) rfl rfl) ?_
                refine wla rfl rfl (q_extract rfl rfl rfl) ?_
                refine wla rfl rfl (q_extract rfl rfl rfl) ?_
                refine wla rfl rfl (q_assign (v := (u8 r40.1)) rfl rfl) ?_
                refine wla rfl rfl (q_assign (v := (i64 r40.2)) rfl rfl) ?_
                refine wl_nil ?_
                refine W_th ?_
                refine W_seq ?_
                refine W_reg (by kernel_rfl) ?_
                refine wla rfl rfl (q_move (v := (i64 r40.2)) rfl rfl) ?_
                refine wla rfl rfl (q_eqI rfl rfl rfl) ?_
                refine wla rfl rfl (q_move (v := (u8 a0a)) rfl rfl) ?_
                refine wla rfl rfl (q_ne8 rfl rfl (cst8 (0 : UInt8) rfl)) ?_
                refine wla rfl rfl (q_eqB rfl (by kernel_rfl) rfl rfl) ?_
                refine wlb rfl rfl (q_move (v := (.bool ((((decide (r40.2 = 0))) == ((!decide (a0a = (0 : UInt8)))))))) rfl rfl) (fun hb42 => ?_) (fun hb42 => ?_)
                · replace H := (if_pos hb42).symm.trans H
                  refine wla rfl rfl (q_move (v := (u8 a0a)) rfl rfl) ?_
                  refine wla rfl rfl (q_eq8 rfl rfl (cst8 (0 : UInt8) rfl)) ?_
                  refine wlb rfl rfl (q_move (v := (.bool ((decide (a0a = (0 : UInt8)))))) rfl rfl) (fun hb43 => ?_) (fun hb43 => ?_)
                  · replace H := (if_pos (of_decide_eq_true hb43)).symm.trans H
                    refine wlk rfl rfl ?_
                    refine wlk rfl rfl ?_
                    refine wlk rfl rfl ?_
                    refine wlk rfl rfl ?_
                    refine wlk rfl rfl ?_
                    refine wla rfl rfl (q_pick_t (v := (.bool true)) rfl rfl rfl) ?_
                    refine wla rfl rfl (q_pick_t (v := (.bool true)) rfl rfl rfl) ?_
                    refine wla rfl rfl (q_assign (v := (.bool true)) rfl rfl) ?_
                    refine wl_nil ?_
                    refine W_th ?_
                    refine W_ret ?_
                    obtain rfl := Option.some.inj H
                    refine rt1 (.bool true) rfl rfl rfl ?_
                    exact ⟨rfl, e41⟩
                  · replace H := (if_neg (of_decide_eq_false hb43)).symm.trans H
                    refine wla rfl rfl (q_move (v := v4) rfl rfl) ?_
                    refine wla rfl rfl (q_move (v := (u8 a0a)) rfl rfl) ?_
                    refine wla rfl rfl (q_move (v := (u8 r40.1)) rfl rfl) ?_
                    obtain ⟨r44, hr44, H⟩ := Option.bind_eq_some_iff.1 H
                    refine wls rfl rfl (stp_call (vs := [v4, (u8 a0a), (u8 r40.1)]) Try.func38 rfl rfl rfl (ar3 rfl rfl rfl) (field_Mul_calls r4 a0a r40.1 v4 r44 _ (i4_0.lift (Lift.sub (fun _ _ => trivial))) hr44) ?_)
                    rintro _ w44 ⟨rfl, x44⟩
                    refine ⟨_, rfl, ?_⟩
                    replace i4_0 := i4_0.lift (Lift.ext x44 _)
                    have e45 := e41.trans x44
                    refine wla rfl rfl (q_eq8 rfl rfl (cst8 (1 : UInt8) rfl)) ?_
                    refine wla rfl rfl (q_pick_f (v := (.bool ((decide (r44 = (1 : UInt8)))))) rfl rfl rfl) ?_
                    refine wla rfl rfl (q_pick_t (v := (.bool ((decide (r44 = (1 : UInt8)))))) rfl rfl rfl) ?_
                    refine wla rfl rfl (q_assign (v := (.bool ((decide (r44 = (1 : UInt8)))))) rfl rfl) ?_
                    refine wl_nil ?_
                    refine W_th ?_
                    refine W_ret ?_
                    obtain rfl := Option.some.inj H
                    refine rt1 (.bool ((decide (r44 = (1 : UInt8))))) rfl rfl rfl ?_
                    exact ⟨rfl, e45⟩
                · replace H := (if_neg (ne_true_of_eq_false hb42)).symm.trans H
                  refine wlk rfl rfl ?_
                  refine wlk rfl rfl ?_
                  refine wlk rfl rfl ?_
                  refine wlk rfl rfl ?_
                  refine wlk rfl rfl ?_
                  refine wlk rfl rfl ?_
                  refine wlk rfl rfl ?_
                  refine wlk rfl rfl ?_
                  refine wlk rfl rfl ?_
                  refine wla rfl rfl (q_pick_f (v := (.bool false)) rfl rfl rfl) ?_
                  refine wla rfl rfl (q_assign (v := (.bool false)) rfl rfl) ?_
                  refine wl_nil ?_
                  refine W_th ?_
                  refine W_ret ?_
                  obtain rfl := Option.some.inj H
                  refine rt1 (.bool false) rfl rfl rfl ?_
                  exact ⟨rfl, e41⟩

/-! largesse/largesselaw02.FieldOrders -/
noncomputable def law02_FieldOrders (a0a : UInt8) (a1b : UInt8) : Option Bool :=
((law02_lives ).bind fun r1 =>
(if (!r1) = true then
some false
else
((field_New ).bind fun r4 =>
((field_Add a0a a1b).bind fun r6 =>
((field_Add a0a a1b).bind fun r8 =>
((field_Mul r4 r6 r8).bind fun r10 =>
((field_Mul r4 a0a a0a).bind fun r12 =>
((field_Mul r4 a1b a1b).bind fun r14 =>
((field_Add r12 r14).bind fun r16 =>
(if r10 = r16 then
((field_Pow r4 a0a 2).bind fun r19 =>
((field_Mul r4 a0a a0a).bind fun r21 =>
(if r19 = r21 then
(if a0a = (0 : UInt8) then
((field_Pow r4 (0 : UInt8) 255).bind fun r25 =>
some (decide (r25 = (0 : UInt8))))
else
(if a1b = (0 : UInt8) then
((field_Pow r4 (0 : UInt8) 255).bind fun r28 =>
some (decide (r28 = (0 : UInt8))))
else
((field_Log r4 a0a).bind fun r30 =>
((field_Log r4 a1b).bind fun r32 =>
((field_Mul r4 a0a a1b).bind fun r34 =>
((field_Log r4 r34).bind fun r36 =>
((field_Pow r4 a0a 255).bind fun r38 =>
(if r38 = (1 : UInt8) then
(if r30.2 = 0 then
(if r32.2 = 0 then
(if r36.2 = 0 then
((remI ((wI (r30.1 + r32.1))) 255).bind fun c44 =>
some (decide (r36.1 = c44)))
else
some false)
else
some false)
else
some false)
else
some false))))))))
else
some false)))
else
some false))))))))))
set_option maxRecDepth 100000 in
set_option maxHeartbeats 8000000 in
theorem law02_FieldOrders_calls (a0a : UInt8) (a1b : UInt8) (r : Bool) (w0 : World) (H : law02_FieldOrders a0a a1b = some r) :
    Calls Try.prog 6 [(u8 a0a), (u8 a1b)].toArray w0 (fun e w' => e = .returned (.bool r) ∧ Ext w0 w') := by
  have hE : Ext w0 w0 := Ext.refl w0
  unfold law02_FieldOrders at H
  refine calls_W (n := 97) Try.func6 rfl rfl rfl ?_
  refine W_seq ?_
  refine W_reg (by kernel_rfl) ?_
  refine wla rfl rfl (q_assign (v := (.bool false)) rfl rfl) ?_
  refine wl_nil ?_
  refine W_th ?_
  refine W_seq ?_
  refine W_seq ?_
  refine W_reg (by kernel_rfl) ?_
  obtain ⟨r1, hr1, H⟩ := Option.bind_eq_some_iff.1 H
  refine wls rfl rfl (stp_call (vs := []) Try.func36 rfl rfl rfl (ar0 ) (law02_lives_calls   r1 _  hr1) ?_)
  rintro _ w1 ⟨rfl, x1⟩
  refine ⟨_, rfl, ?_⟩
  have e2 := hE.trans x1
  refine wla rfl rfl (q_not rfl rfl) ?_
  refine wl_nil ?_
  refine W_th ?_
  refine W_cond _ rfl rfl (fun hb3 => ?_) (fun hb3 => ?_)
  · replace H := (if_pos hb3).symm.trans H
    refine W_seq ?_
    refine W_reg (by kernel_rfl) ?_
    refine wla rfl rfl (q_assign (v := (.bool false)) rfl rfl) ?_
    refine wl_nil ?_
    refine W_th ?_
    refine W_ret ?_
    refine th_r ?_
    obtain rfl := Option.some.inj H
    refine rt1 (.bool false) rfl rfl rfl ?_
    exact ⟨rfl, e2⟩
  · replace H := (if_neg (ne_true_of_eq_false hb3)).symm.trans H
    refine W_skip ?_
    refine W_th ?_
    refine W_seq ?_
    refine W_reg (by kernel_rfl) ?_
    obtain ⟨r4, hr4, H⟩ := Option.bind_eq_some_iff.1 H
    refine wls rfl rfl (stp_call (vs := []) Try.func37 rfl rfl rfl (ar0 ) (field_New_calls   r4 _ [] (Old.nil _)  hr4) ?_)
    rintro _ w4 ⟨v4, rfl, x4, i4_0⟩
    refine ⟨_, rfl, ?_⟩
    have e5 := e2.trans x4
    refine wla rfl rfl (q_assign (v := v4) rfl rfl) ?_
    refine wl_nil ?_
    refine W_th ?_
    refine W_seq ?_
    refine W_seq ?_
    refine W_reg (by kernel_rfl) ?_
    refine wla rfl rfl (q_move (v := v4) rfl rfl) ?_
    refine wla rfl rfl (q_move (v := (u8 a0a)) rfl rfl) ?_
    refine wla rfl rfl (q_move (v := (u8 a1b)) rfl rfl) ?_
    obtain ⟨r6, hr6, H⟩ := Option.bind_eq_some_iff.1 H
    refine wls rfl rfl (stp_call (vs := [(u8 a0a), (u8 a1b)]) Try.func39 rfl rfl rfl (ar2 rfl rfl) (field_Add_calls a0a a1b  r6 _  hr6) ?_)
    rintro _ w6 ⟨rfl, x6⟩
    refine ⟨_, rfl, ?_⟩
    replace i4_0 := i4_0.lift (Lift.ext x6 _)
    have e7 := e5.trans x6
    refine wla rfl rfl (q_move (v := (u8 a0a)) rfl rfl) ?_
    refine wla rfl rfl (q_move (v := (u8 a1b)) rfl rfl) ?_
    obtain ⟨r8, hr8, H⟩ := Option.bind_eq_some_iff.1 H
    refine wls rfl rfl (stp_call (vs := [(u8 a0a), (u8 a1b)]) Try.func39 rfl rfl rfl (ar2 rfl rfl) (field_Add_calls a0a a1b  r8 _  hr8) ?_)
    rintro _ w8 ⟨rfl, x8⟩
    refine ⟨_, rfl, ?_⟩
    replace i4_0 := i4_0.lift (Lift.ext x8 _)
    have e9 := e7.trans x8
    obtain ⟨r10, hr10, H⟩ := Option.bind_eq_some_iff.1 H
    refine wls rfl rfl (stp_call (vs := [v4, (u8 r6), (u8 r8)]) Try.func38 rfl rfl rfl (ar3 rfl rfl rfl) (field_Mul_calls r4 r6 r8 v4 r10 _ (i4_0.lift (Lift.sub (fun _ _ => trivial))) hr10) ?_)
    rintro _ w10 ⟨rfl, x10⟩
    refine ⟨_, rfl, ?_⟩
    replace i4_0 := i4_0.lift (Lift.ext x10 _)
    have e11 := e9.trans x10
    refine wla rfl rfl (q_move (v := v4) rfl rfl) ?_
    refine wla rfl rfl (q_move (v := (u8 a0a)) rfl rfl) ?_
    refine wla rfl rfl (q_move (v := (u8 a0a)) rfl rfl) ?_
    obtain ⟨r12, hr12, H⟩ := Option.bind_eq_some_iff.1 H
    refine wls rfl rfl (stp_call (vs := [v4, (u8 a0a), (u8 a0a)]) Try.func38 rfl rfl rfl (ar3 rfl rfl rfl) (field_Mul_calls r4 a0a a0a v4 r12 _ (i4_0.lift (Lift.sub (fun _ _ => trivial))) hr12) ?_)
    rintro _ w12 ⟨rfl, x12⟩
    refine ⟨_, rfl, ?_⟩
    replace i4_0 := i4_0.lift (Lift.ext x12 _)
    have e13 := e11.trans x12
    refine wla rfl rfl (q_move (v := v4) rfl rfl) ?_
    refine wla rfl rfl (q_move (v := (u8 a1b)) rfl rfl) ?_
    refine wla rfl rfl (q_move (v := (u8 a1b)) rfl rfl) ?_
    obtain ⟨r14, hr14, H⟩ := Option.bind_eq_some_iff.1 H
    refine wls rfl rfl (stp_call (vs := [v4, (u8 a1b), (u8 a1b)]) Try.func38 rfl rfl rfl (ar3 rfl rfl rfl) (field_Mul_calls r4 a1b a1b v4 r14 _ (i4_0.lift (Lift.sub (fun _ _ => trivial))) hr14) ?_)
    rintro _ w14 ⟨rfl, x14⟩
    refine ⟨_, rfl, ?_⟩
    replace i4_0 := i4_0.lift (Lift.ext x14 _)
    have e15 := e13.trans x14
    obtain ⟨r16, hr16, H⟩ := Option.bind_eq_some_iff.1 H
    refine wls rfl rfl (stp_call (vs := [(u8 r12), (u8 r14)]) Try.func39 rfl rfl rfl (ar2 rfl rfl) (field_Add_calls r12 r14  r16 _  hr16) ?_)
    rintro _ w16 ⟨rfl, x16⟩
    refine ⟨_, rfl, ?_⟩
    replace i4_0 := i4_0.lift (Lift.ext x16 _)
    have e17 := e15.trans x16
    refine wla rfl rfl (q_ne8 rfl rfl rfl) ?_
    refine wlb rfl rfl (q_move (v := (.bool ((!decide (r10 = r16))))) rfl rfl) (fun hb18 => ?_) (fun hb18 => ?_)
    · replace H := (if_neg (ndec_t hb18)).symm.trans H
      refine wlk rfl rfl ?_
      refine wlk rfl rfl ?_
      refine wlk rfl rfl ?_
      refine wlk rfl rfl ?_
      refine wlk rfl rfl ?_
      refine wlk rfl rfl ?_
      refine wlk rfl rfl ?_
      refine wlk rfl rfl ?_
      refine wla rfl rfl (q_pick_t (v := (.bool true)) rfl rfl rfl) ?_
      refine wl_nil ?_
      refine W_th ?_
      refine W_cond true rfl rfl (fun _ => ?_) (fun hb => by cases hb)
      refine W_seq ?_
      refine W_reg (by kernel_rfl) ?_
      refine wla rfl rfl (q_assign (v := (.bool false)) rfl rfl) ?_
      refine wl_nil ?_
      refine W_th ?_
      refine W_ret ?_
      refine th_r ?_
      obtain rfl := Option.some.inj H
      refine rt1 (.bool false) rfl rfl rfl ?_
      exact ⟨rfl, e17⟩
    · replace H := (if_pos (ndec_f hb18)).symm.trans H
      refine wla rfl rfl (q_move (v := v4) rfl rfl) ?_
      refine wla rfl rfl (q_move (v := (u8 a0a)) rfl rfl) ?_
      obtain ⟨r19, hr19, H⟩ := Option.bind_eq_some_iff.1 H
      refine wls rfl rfl (stp_call (vs := [v4, (u8 a0a), (i64 2)]) Try.func45 rfl rfl rfl (ar3 rfl rfl rfl) (field_Pow_calls r4 a0a 2 v4 r19 _ (i4_0.lift (Lift.sub (fun _ _ => trivial))) hr19) ?_)
      rintro _ w19 ⟨rfl, x19⟩
      refine ⟨_, rfl, ?_⟩
      replace i4_0 := i4_0.lift (Lift.ext x19 _)
      have e20 := e17.trans x19
      refine wla rfl rfl (q_move (v := v4) rfl rfl) ?_
      refine wla rfl rfl (q_move (v := (u8 a0a)) rfl rfl) ?_
      refine wla rfl rfl (q_move (v := (u8 a0a)) rfl rfl) ?_
      obtain ⟨r21, hr21, H⟩ := Option.bind_eq_some_iff.1 H
      refine wls rfl rfl (stp_call (vs := [v4, (u8 a0a), (u8 a0a)]) Try.func38 rfl rfl rfl (ar3 rfl rfl rfl) (field_Mul_calls r4 a0a a0a v4 r21 _ (i4_0.lift (Lift.sub (fun _ _ => trivial))) hr21) ?_)
      rintro _ w21 ⟨rfl, x21⟩
      refine ⟨_, rfl, ?_⟩
      replace i4_0 := i4_0.lift (Lift.ext x21 _)
      have e22 := e20.trans x21
      refine wla rfl rfl (q_ne8 rfl rfl rfl) ?_
      refine wla rfl rfl (q_pick_f (v := (.bool ((!decide (r19 = r21))))) rfl rfl rfl) ?_
      refine wl_nil ?_
      refine W_th ?_
      refine W_cond _ rfl rfl (fun hb23 => ?_) (fun hb23 => ?_)
      · replace H := (if_neg (ndec_t hb23)).symm.trans H
        refine W_seq ?_
        refine W_reg (by kernel_rfl) ?_
        refine wla rfl rfl (q_assign (v := (.bool false)) rfl rfl) ?_
        refine wl_nil ?_
        refine W_th ?_
        refine W_ret ?_
        refine th_r ?_
        obtain rfl := Option.some.inj H
        refine rt1 (.bool false) rfl rfl rfl ?_
        exact ⟨rfl, e22⟩
      · replace H := (if_pos (ndec_f hb23)).symm.trans H
        refine W_skip ?_
        refine W_th ?_
        refine W_seq ?_
        refine W_seq ?_
        refine W_reg (by kernel_rfl) ?_
        refine wla rfl rfl (q_move (v := (u8 a0a)) rfl rfl) ?_
        refine wla rfl rfl (q_eq8 rfl rfl (cst8 (0 : UInt8) rfl)) ?_
        refine wlb rfl rfl (q_move (v := (.bool ((decide (a0a = (0 : UInt8)))))) rfl rfl) (fun hb24 => ?_) (fun hb24 => ?_)
        · replace H := (if_pos (of_decide_eq_true hb24)).symm.trans H
          refine wlk rfl rfl ?_
          refine wlk rfl rfl ?_
          refine wla rfl rfl (q_pick_t (v := (.bool true)) rfl rfl rfl) ?_
          refine wl_nil ?_
          refine W_th ?_
          refine W_cond true rfl rfl (fun _ => ?_) (fun hb => by cases hb)
          refine W_seq ?_
          refine W_reg (by kernel_rfl) ?_
          refine wla rfl rfl (q_move (v := v4) rfl rfl) ?_
          obtain ⟨r25, hr25, H⟩ := Option.bind_eq_some_iff.1 H
          refine wls rfl rfl (stp_call (vs := [v4, (u8 0), (i64 255)]) Try.func45 rfl rfl rfl (ar3 rfl (cst8 (0 : UInt8) rfl) rfl) (field_Pow_calls r4 (0 : UInt8) 255 v4 r25 _ (i4_0.lift (Lift.sub (fun _ _ => trivial))) hr25) ?_)
          rintro _ w25 ⟨rfl, x25⟩
          refine ⟨_, rfl, ?_⟩
          replace i4_0 := i4_0.lift (Lift.ext x25 _)
          have e26 := e22.trans x25
          refine wla rfl rfl (q_eq8 rfl rfl (cst8 (0 : UInt8) rfl)) ?_
          refine wla rfl rfl (q_assign (v := (.bool ((decide (r25 = (0 : UInt8)))))) rfl rfl) ?_
          refine wl_nil ?_
          refine W_th ?_
          refine W_ret ?_
          refine th_r ?_
          obtain rfl := Option.some.inj H
          refine rt1 (.bool ((decide (r25 = (0 : UInt8))))) rfl rfl rfl ?_
          exact ⟨rfl, e26⟩
        · replace H := (if_neg (of_decide_eq_false hb24)).symm.trans H
          refine wla rfl rfl (q_move (v := (u8 a1b)) rfl rfl) ?_
          refine wla rfl rfl (q_eq8 rfl rfl (cst8 (0 : UInt8) rfl)) ?_
          refine wla rfl rfl (q_pick_f (v := (.bool ((decide (a1b = (0 : UInt8)))))) rfl rfl rfl) ?_
          refine wl_nil ?_
          refine W_th ?_
          refine W_cond _ rfl rfl (fun hb27 => ?_) (fun hb27 => ?_)
          · replace H := (if_pos (of_decide_eq_true hb27)).symm.trans H
            refine W_seq ?_
            refine W_reg (by kernel_rfl) ?_
            refine wla rfl rfl (q_move (v := v4) rfl rfl) ?_
            obtain ⟨r28, hr28, H⟩ := Option.bind_eq_some_iff.1 H
            refine wls rfl rfl (stp_call (vs := [v4, (u8 0), (i64 255)]) Try.func45 rfl rfl rfl (ar3 rfl (cst8 (0 : UInt8) rfl) rfl) (field_Pow_calls r4 (0 : UInt8) 255 v4 r28 _ (i4_0.lift (Lift.sub (fun _ _ => trivial))) hr28) ?_)
            rintro _ w28 ⟨rfl, x28⟩
            refine ⟨_, rfl, ?_⟩
            replace i4_0 := i4_0.lift (Lift.ext x28 _)
            have e29 := e22.trans x28
            refine wla rfl rfl (q_eq8 rfl rfl (cst8 (0 : UInt8) rfl)) ?_
            refine wla rfl rfl (q_assign (v := (.bool ((decide (r28 = (0 : UInt8)))))) rfl rfl) ?_
            refine wl_nil ?_
            refine W_th ?_
            refine W_ret ?_
            refine th_r ?_
            obtain rfl := Option.some.inj H
            refine rt1 (.bool ((decide (r28 = (0 : UInt8))))) rfl rfl rfl ?_
            exact ⟨rfl, e29⟩
          · replace H := (if_neg (of_decide_eq_false hb27)).symm.trans H
            refine W_skip ?_
            refine W_th ?_
            refine W_seq ?_
            refine W_reg (by kernel_rfl) ?_
            refine wla rfl rfl (q_move (v := v4) rfl rfl) ?_
            refine wla rfl rfl (q_move (v := (u8 a0a)) rfl rfl) ?_
            obtain ⟨r30, hr30, H⟩ := Option.bind_eq_some_iff.1 H
            refine wls rfl rfl (stp_call (vs := [v4, (u8 a0a)]) Try.func47 rfl rfl rfl (ar2 rfl rfl) (field_Log_calls r4 a0a v4 r30 _ (i4_0.lift (Lift.sub (fun _ _ => trivial))) hr30) ?_)
            rintro _ w30 ⟨rfl, x30⟩
            refine ⟨_, rfl, ?_⟩
            replace i4_0 := i4_0.lift (Lift.ext x30 _)
            have e31 := e22.trans x30
            refine wla rfl rfl (q_move (v := (.tuple #[(i64 r30.1), (i64 r30.2)])) rfl rfl) ?_
            refine wla rfl rfl (q_extract rfl rfl rfl) ?_
            refine wla rfl rfl (q_extract rfl rfl rfl) ?_
            refine wla rfl rfl (q_assign (v := (i64 r30.1)) rfl rfl) ?_
            refine wla rfl rfl (q_assign (v := (i64 r30.2)) rfl rfl) ?_
            refine wl_nil ?_
            refine W_th ?_
            refine W_seq ?_
            refine W_reg (by kernel_rfl) ?_
            refine wla rfl rfl (q_move (v := v4) rfl rfl) ?_
            refine wla rfl rfl (q_move (v := (u8 a1b)) rfl rfl) ?_
            obtain ⟨r32, hr32, H⟩ := Option.bind_eq_some_iff.1 H
            refine wls rfl rfl (stp_call (vs := [v4, (u8 a1b)]) Try.func47 rfl rfl rfl (ar2 rfl rfl) (field_Log_calls r4 a1b v4 r32 _ (i4_0.lift (Lift.sub (fun _ _ => trivial))) hr32) ?_)
            rintro _ w32 ⟨rfl, x32⟩
            refine ⟨_, rfl, ?_⟩
            replace i4_0 := i4_0.lift (Lift.ext x32 _)
            have e33 := e31.trans x32
            refine wla rfl rfl (q_move (v := (.tuple #[(i64 r32.1), (i64 r32.2)])) rfl rfl) ?_
            refine wla rfl rfl (q_extract rfl rfl rfl) ?_
            refine wla rfl rfl (q_extract rfl rfl rfl) ?_
            refine wla rfl rfl (q_assign (v := (i64 r32.1)) rfl rfl) ?_
            refine wla rfl rfl (q_assign (v := (i64 r32.2)) rfl rfl) ?_
            refine wl_nil ?_
            refine W_th ?_
            refine W_seq ?_
            refine W_reg (by kernel_rfl) ?_
            refine wla rfl rfl (q_move (v := v4) rfl rfl) ?_
            refine wla rfl rfl (q_move (v := v4) rfl rfl) ?_
            refine wla rfl rfl (q_move (v := (u8 a0a)) rfl rfl) ?_
            refine wla rfl rfl (q_move (v := (u8 a1b)) rfl rfl) ?_
            obtain ⟨r34, hr34, H⟩ := Option.bind_eq_some_iff.1 H
            refine wls rfl rfl (stp_call (vs := [v4, (u8 a0a), (u8 a1b)]) Try.func38 rfl rfl rfl (ar3 rfl rfl rfl) (field_Mul_calls r4 a0a a1b v4 r34 _ (i4_0.lift (Lift.sub (fun _ _ => trivial))) hr34) ?_)
            rintro _ w34 ⟨rfl, x34⟩
            refine ⟨_, rfl, ?_⟩
            replace i4_0 := i4_0.lift (Lift.ext x34 _)
            have e35 := e33.trans x34
            obtain ⟨r36, hr36, H⟩ := Option.bind_eq_some_iff.1 H
            refine wls rfl rfl (stp_call (vs := [v4, (u8 r34)]) Try.func47 rfl rfl rfl (ar2 rfl rfl) (field_Log_calls r4 r34 v4 r36 _ (i4_0.lift (Lift.sub (fun _ _ => trivial))) hr36) ?_)
            rintro _ w36 ⟨rfl, x36⟩
            refine ⟨_, rfl, ?_⟩
            replace i4_0 := i4_0.lift (Lift.ext x36 _)
            have e37 := e35.trans x36
            refine wla rfl rfl (q_move (v := (.tuple #[(i64 r36.1), (i64 r36.2)])) rfl rfl) ?_
            refine wla rfl rfl (q_extract rfl rfl rfl) ?_
            refine wla rfl rfl (q_extract rfl rfl rfl) ?_
            refine wla rfl rfl (q_assign (v := (i64 r36.1)) rfl rfl) ?_
            refine wla rfl rfl (q_assign (v := (i64 r36.2)) rfl rfl) ?_
            refine wl_nil ?_
            refine W_th ?_
            refine W_seq ?_
            refine W_reg (by kernel_rfl) ?_
            refine wla rfl rfl (q_move (v := v4) rfl rfl) ?_
            refine wla rfl rfl (q_move (v := (u8 a0a)) rfl rfl) ?_
            obtain ⟨r38, hr38, H⟩ := Option.bind_eq_some_iff.1 H
            refine wls rfl rfl (stp_call (vs := [v4, (u8 a0a), (i64 255)]) Try.func45 rfl rfl rfl (ar3 rfl rfl rfl) (field_Pow_calls r4 a0a 255 v4 r38 _ (i4_0.lift (Lift.sub (fun _ _ => trivial))) hr38) ?_)
            rintro _ w38 ⟨rfl, x38⟩
            refine ⟨_, rfl, ?_⟩
            replace i4_0 := i4_0.lift (Lift.ext x38 _)
            have e39 := e37.trans x38
            refine wla rfl rfl (q_eq8 rfl rfl (cst8 (1 : UInt8) rfl)) ?_
            refine wlb rfl rfl (q_move (v := (.bool ((decide (r38 = (1 : UInt8)))))) rfl rfl) (fun hb40 => ?_) (fun hb40 => ?_)
            · replace H := (if_pos (of_decide_eq_true hb40)).symm.trans H
              refine wla rfl rfl (q_move (v := (i64 r30.2)) rfl rfl) ?_
              refine wla rfl rfl (q_eqI rfl rfl rfl) ?_
              refine wla rfl rfl (q_pick_t (v := (.bool ((decide (r30.2 = 0))))) rfl rfl rfl) ?_
              refine wlb rfl rfl (q_move (v := (.bool ((decide (r30.2 = 0))))) rfl rfl) (fun hb41 => ?_) (fun hb41 => ?_)
              · replace H := (if_pos (of_decide_eq_true hb41)).symm.trans H
                refine wla rfl rfl (q_move (v := (i64 r32.2)) rfl rfl) ?_
                refine wla rfl rfl (q_eqI rfl rfl rfl) ?_
                refine wla rfl rfl (q_pick_t (v := (.bool ((decide (r32.2 = 0))))) rfl rfl rfl) ?_
                refine wlb rfl rfl (q_move (v := (.bool ((decide (r32.2 = 0))))) rfl rfl) (fun hb42 => ?_) (fun hb42 => ?_)
                · replace H := (if_pos (of_decide_eq_true hb42)).symm.trans H
                  refine wla rfl rfl (q_move (v := (i64 r36.2)) rfl rfl) ?_
                  refine wla rfl rfl (q_eqI rfl rfl rfl) ?_
                  refine wla rfl rfl (q_pick_t (v := (.bool ((decide (r36.2 = 0))))) rfl rfl rfl) ?_
                  refine wlb rfl rfl (q_move (v := (.bool ((decide (r36.2 = 0))))) rfl rfl) (fun hb43 => ?_) (fun hb43 => ?_)
                  · replace H := (if_pos (of_decide_eq_true hb43)).symm.trans H
                    refine wla rfl rfl (q_move (v := (i64 r36.1)) rfl rfl) ?_
                    refine wla rfl rfl (q_move (v := (i64 r30.1)) rfl rfl) ?_
                    refine wla rfl rfl (q_move (v := (i64 r32.1)) rfl rfl) ?_
                    refine wla rfl rfl (q_addI rfl rfl rfl) ?_
                    obtain ⟨c44, hc44, H⟩ := Option.bind_eq_some_iff.1 H
                    refine wla rfl rfl (q_remI rfl rfl rfl hc44) ?_
                    refine wla rfl rfl (q_eqI rfl rfl rfl) ?_
                    refine wla rfl rfl (q_pick_t (v := (.bool ((decide (r36.1 = c44))))) rfl rfl rfl) ?_
                    refine wla rfl rfl (q_assign (v := (.bool ((decide (r36.1 = c44))))) rfl rfl) ?_
                    refine wl_nil ?_
                    refine W_th ?_
                    refine W_ret ?_
                    obtain rfl := Option.some.inj H
                    refine rt1 (.bool ((decide (r36.1 = c44)))) rfl rfl rfl ?_
                    exact ⟨rfl, e39⟩
                  · replace H := (if_neg (of_decide_eq_false hb43)).symm.trans H
                    refine wlk rfl rfl ?_
                    refine wlk rfl rfl ?_
                    refine wlk rfl rfl ?_
                    refine wlk rfl rfl ?_
                    refine wlk rfl rfl ?_
                    refine wlk rfl rfl ?_
                    refine wla rfl rfl (q_pick_f (v := (.bool false)) rfl rfl rfl) ?_
                    refine wla rfl rfl (q_assign (v := (.bool false)) rfl rfl) ?_
                    refine wl_nil ?_
                    refine W_th ?_
                    refine W_ret ?_
                    obtain rfl := Option.some.inj H
                    refine rt1 (.bool false) rfl rfl rfl ?_
                    exact ⟨rfl, e39⟩
                · replace H := (if_neg (of_decide_eq_false hb42)).symm.trans H
                  refine wlk rfl rfl ?_
                  refine wlk rfl rfl ?_
                  refine wla rfl rfl (q_pick_f (v := (.bool false)) rfl rfl rfl) ?_
                  refine wla rfl rfl (q_move (v := (.bool false)) rfl rfl) ?_
                  refine wlk rfl rfl ?_
                  refine wlk rfl rfl ?_
                  refine wlk rfl rfl ?_
                  refine wlk rfl rfl ?_
                  refine wlk rfl rfl ?_
                  refine wlk rfl rfl ?_
                  refine wla rfl rfl (q_pick_f (v := (.bool false)) rfl rfl rfl) ?_
                  refine wla rfl rfl (q_assign (v := (.bool false)) rfl rfl) ?_
                  refine wl_nil ?_
                  refine W_th ?_
                  refine W_ret ?_
                  obtain rfl := Option.some.inj H
                  refine rt1 (.bool false) rfl rfl rfl ?_
                  exact ⟨rfl, e39⟩
              · replace H := (if_neg (of_decide_eq_false hb41)).symm.trans H
                refine wlk rfl rfl ?_
                refine wlk rfl rfl ?_
                refine wla rfl rfl (q_pick_f (v := (.bool false)) rfl rfl rfl) ?_
                refine wla rfl rfl (q_move (v := (.bool false)) rfl rfl) ?_
                refine wlk rfl rfl ?_
                refine wlk rfl rfl ?_
                refine wla rfl rfl (q_pick_f (v := (.bool false)) rfl rfl rfl) ?_
                refine wla rfl rfl (q_move (v := (.bool false)) rfl rfl) ?_
                refine wlk rfl rfl ?_
                refine wlk rfl rfl ?_
                refine wlk rfl rfl ?_
                refine wlk rfl rfl ?_
                refine wlk rfl rfl ?_
                refine wlk rfl rfl ?_
                refine wla rfl rfl (q_pick_f (v := (.bool false)) rfl rfl rfl) ?_
                refine wla rfl rfl (q_assign (v := (.bool false)) rfl rfl) ?_
                refine wl_nil ?_
                refine W_th ?_
                refine W_ret ?_
                obtain rfl := Option.some.inj H
                refine rt1 (.bool false) rfl rfl rfl ?_
                exact ⟨rfl, e39⟩
            · replace H := (if_neg (of_decide_eq_false hb40)).symm.trans H
              refine wlk rfl rfl ?_
              refine wlk rfl rfl ?_
              refine wla rfl rfl (q_pick_f (v := (.bool false)) rfl rfl rfl) ?_
              refine wla rfl rfl (q_move (v := (.bool false)) rfl rfl) ?_
              refine wlk rfl rfl ?_
              refine wlk rfl rfl ?_
              refine wla rfl rfl (q_pick_f (v := (.bool false)) rfl rfl rfl) ?_
              refine wla rfl rfl (q_move (v := (.bool false)) rfl rfl) ?_
              refine wlk rfl rfl ?_
              refine wlk rfl rfl ?_
              refine wla rfl rfl (q_pick_f (v := (.bool false)) rfl rfl rfl) ?_
              refine wla rfl rfl (q_move (v := (.bool false)) rfl rfl) ?_
              refine wlk rfl rfl ?_
              refine wlk rfl rfl ?_
              refine wlk rfl rfl ?_
              refine wlk rfl rfl ?_
              refine wlk rfl rfl ?_
              refine wlk rfl rfl ?_
              refine wla rfl rfl (q_pick_f (v := (.bool false)) rfl rfl rfl) ?_
              refine wla rfl rfl (q_assign (v := (.bool false)) rfl rfl) ?_
              refine wl_nil ?_
              refine W_th ?_
              refine W_ret ?_
              obtain rfl := Option.some.inj H
              refine rt1 (.bool false) rfl rfl rfl ?_
              exact ⟨rfl, e39⟩

/-! largesse/largesselaw02.FieldRows -/
noncomputable def law02_FieldRows (a0a : List UInt8) (a1b : List UInt8) (a2c : UInt8) : Option Bool :=
((law02_lives ).bind fun r1 =>
(if (!r1) = true then
((law02_lives ).bind fun r4 =>
some r4)
else
(if 200 < (a0a.length : Int) then
((law02_lives ).bind fun r7 =>
some r7)
else
(if 200 < (a1b.length : Int) then
((law02_lives ).bind fun r10 =>
some r10)
else
((field_New ).bind fun r12 =>
((appL (([] : List UInt8)) a0a).bind fun c17 =>
((field_Scale r12 a2c a1b).bind fun r20 =>
((field_Sum r12 c17 a2c a1b).bind fun r22 =>
(if (r20.length : Int) = (a1b.length : Int) then
(if (r22.length : Int) = (a0a.length : Int) then
(if c17 = a0a then
((iterC (fun s27 : Int =>
(if s27 < (a1b.length : Int) then
((idx r20 s27).bind fun c32 =>
((idx a1b s27).bind fun c33 =>
((field_Mul r12 a2c c33).bind fun r34 =>
(if c32 = r34 then
some (.inl (wI (s27 + 1)))
else
some (.inr (.inr false))))))
else
some (.inr (.inl ())))) 0).bind (Sum.elim (fun y27 =>
((iterC (fun s39 : Int =>
(if s39 < (a0a.length : Int) then
((idx a0a s39).bind fun c42 =>
(if s39 < (a1b.length : Int) then
((idx a1b s39).bind fun c44 =>
((field_Mul r12 a2c c44).bind fun r45 =>
((field_Add c42 r45).bind fun r47 =>
((idx r22 s39).bind fun c49 =>
(if c49 = r47 then
some (.inl (wI (s39 + 1)))
else
some (.inr (.inr false)))))))
else
((idx r22 s39).bind fun c51 =>
(if c51 = c42 then
some (.inl (wI (s39 + 1)))
else
some (.inr (.inr false))))))
else
some (.inr (.inl ())))) 0).bind (Sum.elim (fun y39 =>
((field_Inv false (1 : UInt8)).bind fun r55 =>
((field_Div false (1 : UInt8) (1 : UInt8)).bind fun r57 =>
((field_Log false (1 : UInt8)).bind fun r59 =>
(if r55.2 = 1 then
(if r57.2 = 1 then
(if r59.2 = 1 then
((field_Mul false (1 : UInt8) (1 : UInt8)).bind fun r64 =>
(if r64 = (0 : UInt8) then
((field_Pow false (1 : UInt8) 1).bind fun r67 =>
(if r67 = (0 : UInt8) then
((field_Scale false (1 : UInt8) a1b).bind fun r70 =>
((field_Sum false a0a (1 : UInt8) a1b).bind fun r72 =>
some (decide ((wI ((r70.length : Int) + (r72.length : Int))) = 0))))
else
some false))
else
some false))
else
some false)
else
some false)
else
some false))))) (fun q39 => some q39)))) (fun q27 => some q27)))
else
some false)
else
some false)
else
some false)))))))))
set_option maxRecDepth 100000 in
set_option maxHeartbeats 8000000 in
theorem law02_FieldRows_calls (a0a : List UInt8) (a1b : List UInt8) (a2c : UInt8) (p0 : Value) (p1 : Value) (r : Bool) (w0 : World) (hp0 : By w0 [] p0 a0a) (hp1 : By w0 [] p1 a1b) (H : law02_FieldRows a0a a1b a2c = some r) :
    Calls Try.prog 7 [p0, p1, (u8 a2c)].toArray w0 (fun e w' => e = .returned (.bool r) ∧ Ext w0 w') := by
  have hE : Ext w0 w0 := Ext.refl w0
  unfold law02_FieldRows at H
  refine calls_W (n := 161) Try.func7 rfl rfl rfl ?_
  refine W_seq ?_
  refine W_reg (by kernel_rfl) ?_
  refine wla rfl rfl (q_assign (v := (.bool false)) rfl rfl) ?_
  refine wl_nil ?_
  refine W_th ?_
  refine W_seq ?_
  refine W_seq ?_
  refine W_reg (by kernel_rfl) ?_
  obtain ⟨r1, hr1, H⟩ := Option.bind_eq_some_iff.1 H
  refine wls rfl rfl (stp_call (vs := []) Try.func36 rfl rfl rfl (ar0 ) (law02_lives_calls   r1 _  hr1) ?_)
  rintro _ w1 ⟨rfl, x1⟩
  refine ⟨_, rfl, ?_⟩
  have e2 := hE.trans x1
  refine wla rfl rfl (q_not rfl rfl) ?_
  refine wlb rfl rfl (q_move (v := (.bool ((!r1)))) rfl rfl) (fun hb3 => ?_) (fun hb3 => ?_)
  · replace H := (if_pos hb3).symm.trans H
    refine wlk rfl rfl ?_
    refine wlk rfl rfl ?_
    refine wlk rfl rfl ?_
    refine wla rfl rfl (q_pick_t (v := (.bool true)) rfl rfl rfl) ?_
    refine wla rfl rfl (q_move (v := (.bool true)) rfl rfl) ?_
    refine wlk rfl rfl ?_
    refine wlk rfl rfl ?_
    refine wlk rfl rfl ?_
    refine wla rfl rfl (q_pick_t (v := (.bool true)) rfl rfl rfl) ?_
    refine wl_nil ?_
    refine W_th ?_
    refine W_cond true rfl rfl (fun _ => ?_) (fun hb => by cases hb)
    refine W_seq ?_
    refine W_reg (by kernel_rfl) ?_
    obtain ⟨r4, hr4, H⟩ := Option.bind_eq_some_iff.1 H
    refine wls rfl rfl (stp_call (vs := []) Try.func36 rfl rfl rfl (ar0 ) (law02_lives_calls   r4 _  hr4) ?_)
    rintro _ w4 ⟨rfl, x4⟩
    refine ⟨_, rfl, ?_⟩
    have e5 := e2.trans x4
    refine wla rfl rfl (q_assign (v := (.bool r4)) rfl rfl) ?_
    refine wl_nil ?_
    refine W_th ?_
    refine W_ret ?_
    refine th_r ?_
    obtain rfl := Option.some.inj H
    refine rt1 (.bool r4) rfl rfl rfl ?_
    exact ⟨rfl, e5⟩
  · replace H := (if_neg (ne_true_of_eq_false hb3)).symm.trans H
    refine wla rfl rfl (q_move (v := p0) rfl rfl) ?_
    refine wla rfl rfl (q_len rfl T37.sl rfl (hp0.lift (Lift.ext e2 _))) ?_
    refine wla rfl rfl (q_gtI rfl rfl rfl) ?_
    refine wla rfl rfl (q_pick_f (v := (.bool ((decide (200 < (a0a.length : Int)))))) rfl rfl rfl) ?_
    refine wlb rfl rfl (q_move (v := (.bool ((decide (200 < (a0a.length : Int)))))) rfl rfl) (fun hb6 => ?_) (fun hb6 => ?_)
    · replace H := (if_pos (of_decide_eq_true hb6)).symm.trans H
      refine wlk rfl rfl ?_
      refine wlk rfl rfl ?_
      refine wlk rfl rfl ?_
      refine wla rfl rfl (q_pick_t (v := (.bool true)) rfl rfl rfl) ?_
      refine wl_nil ?_
      refine W_th ?_
      refine W_cond true rfl rfl (fun _ => ?_) (fun hb => by cases hb)
      refine W_seq ?_
      refine W_reg (by kernel_rfl) ?_
      obtain ⟨r7, hr7, H⟩ := Option.bind_eq_some_iff.1 H
      refine wls rfl rfl (stp_call (vs := []) Try.func36 rfl rfl rfl (ar0 ) (law02_lives_calls   r7 _  hr7) ?_)
      rintro _ w7 ⟨rfl, x7⟩
      refine ⟨_, rfl, ?_⟩
      have e8 := e2.trans x7
      refine wla rfl rfl (q_assign (v := (.bool r7)) rfl rfl) ?_
      refine wl_nil ?_
      refine W_th ?_
      refine W_ret ?_
      refine th_r ?_
      obtain rfl := Option.some.inj H
      refine rt1 (.bool r7) rfl rfl rfl ?_
      exact ⟨rfl, e8⟩
    · replace H := (if_neg (of_decide_eq_false hb6)).symm.trans H
      refine wla rfl rfl (q_move (v := p1) rfl rfl) ?_
      refine wla rfl rfl (q_len rfl T37.sl rfl (hp1.lift (Lift.ext e2 _))) ?_
      refine wla rfl rfl (q_gtI rfl rfl rfl) ?_
      refine wla rfl rfl (q_pick_f (v := (.bool ((decide (200 < (a1b.length : Int)))))) rfl rfl rfl) ?_
      refine wl_nil ?_
      refine W_th ?_
      refine W_cond _ rfl rfl (fun hb9 => ?_) (fun hb9 => ?_)
      · replace H := (if_pos (of_decide_eq_true hb9)).symm.trans H
        refine W_seq ?_
        refine W_reg (by kernel_rfl) ?_
        obtain ⟨r10, hr10, H⟩ := Option.bind_eq_some_iff.1 H
        refine wls rfl rfl (stp_call (vs := []) Try.func36 rfl rfl rfl (ar0 ) (law02_lives_calls   r10 _  hr10) ?_)
        rintro _ w10 ⟨rfl, x10⟩
        refine ⟨_, rfl, ?_⟩
        have e11 := e2.trans x10
        refine wla rfl rfl (q_assign (v := (.bool r10)) rfl rfl) ?_
        refine wl_nil ?_
        refine W_th ?_
        refine W_ret ?_
        refine th_r ?_
        obtain rfl := Option.some.inj H
        refine rt1 (.bool r10) rfl rfl rfl ?_
        exact ⟨rfl, e11⟩
      · replace H := (if_neg (of_decide_eq_false hb9)).symm.trans H
        refine W_skip ?_
        refine W_th ?_
        refine W_seq ?_
        refine W_reg (by kernel_rfl) ?_
        obtain ⟨r12, hr12, H⟩ := Option.bind_eq_some_iff.1 H
        refine wls rfl rfl (stp_call (vs := []) Try.func37 rfl rfl rfl (ar0 ) (field_New_calls   r12 _ [] (Old.nil _)  hr12) ?_)
        rintro _ w12 ⟨v12, rfl, x12, i12_0⟩
        refine ⟨_, rfl, ?_⟩
        have e13 := e2.trans x12
        refine wla rfl rfl (q_assign (v := v12) rfl rfl) ?_
        refine wl_nil ?_
        refine W_th ?_
        refine W_seq ?_
        refine W_reg (by kernel_rfl) ?_
        refine wls rfl rfl (stp_lit (L := []) (R := (Sc u8)) [] ([] : List UInt8) rfl T37 rfl (by exact trivial) rfl (litC u8 (oneC_u8) (us := []) (l := ([] : List UInt8)) rfl) rfl (litS u8 (us := []) (l := ([] : List UInt8)) rfl) ?_)
        intro v14 w14 o14 n14 g14 l14
        have x14 := grown_ext g14
        replace i12_0 := i12_0.lift (Lift.call _ x14 n14)
        have n16 := Nw.ext e13 n14
        have e15 := e13.trans x14
        refine wla rfl rfl (q_move (v := p0) rfl rfl) ?_
        obtain ⟨c17, hc17, H⟩ := Option.bind_eq_some_iff.1 H
        refine wls rfl rfl (stp_append (R := (Sc u8)) (v := v14) (u := p0) (Sc.stab _) [] [] rfl T37 rfl rfl o14 (hp0.lift (Lift.ext e15 _)) (fun _ _ h => h) hc17 oc_u8 ?_)
        intro v17 w17 o17 g17 nx17 l17
        replace i12_0 := i12_0.lift l17
        have e18 := e15.grown g17 n16
        have n19 := Nw.nxt e15 n16 nx17
        refine wla rfl rfl (q_assign (v := v17) rfl rfl) ?_
        refine wl_nil ?_
        refine W_th ?_
        refine W_seq ?_
        refine W_reg (by kernel_rfl) ?_
        refine wla rfl rfl (q_move (v := v12) rfl rfl) ?_
        refine wla rfl rfl (q_move (v := (u8 a2c)) rfl rfl) ?_
        refine wla rfl rfl (q_move (v := p1) rfl rfl) ?_
        obtain ⟨r20, hr20, H⟩ := Option.bind_eq_some_iff.1 H
        refine wls rfl rfl (stp_call (vs := [v12, (u8 a2c), p1]) Try.func48 rfl rfl rfl (ar3 rfl rfl rfl) (field_Scale_calls r12 a2c a1b v12 p1 r20 _ (i12_0.lift (Lift.sub (fun _ _ => trivial))) (hp1.lift (Lift.ext e18 _)) hr20) ?_)
        rintro _ w20 ⟨v20, rfl, x20, n20_0, o20_0⟩
        refine ⟨_, rfl, ?_⟩
        have i20_0 : By w20 [v17] v20 r20 := OwK.slk (Sc.stab _) _ (OwK.scal o20_0 (v20 :: [v17])) (fun k hk => (Old.cons (Old.nil _) o17.lt) k (n20_0 k hk)) (fun _ h => h.2)
        replace i12_0 := i12_0.lift (Lift.ext x20 _)
        replace o17 := o17.extL (Sc.stab _) x20 (Lift.ext x20 _)
        have e21 := e18.trans x20
        refine wla rfl rfl (q_move (v := v12) rfl rfl) ?_
        refine wla rfl rfl (q_move (v := v17) rfl rfl) ?_
        refine wla rfl rfl (q_move (v := (u8 a2c)) rfl rfl) ?_
        refine wla rfl rfl (q_move (v := p1) rfl rfl) ?_
        obtain ⟨r22, hr22, H⟩ := Option.bind_eq_some_iff.1 H
        refine wls rfl rfl (stp_call (vs := [v12, v17, (u8 a2c), p1]) Try.func49 rfl rfl rfl (ar4 rfl rfl rfl rfl) (field_Sum_calls r12 c17 a2c a1b v12 v17 p1 r22 _ (i12_0.lift (Lift.sub (fun _ _ => trivial))) (o17.rd (Sc.stab _)) (hp1.lift (Lift.ext e21 _)) hr22) ?_)
        rintro _ w22 ⟨v22, rfl, x22, n22_0, o22_0⟩
        refine ⟨_, rfl, ?_⟩
        have i22_0 : By w22 [v17] v22 r22 := OwK.slk (Sc.stab _) _ (OwK.scal o22_0 (v22 :: [v17])) (fun k hk => (Old.cons (Old.nil _) o17.lt) k (n22_0 k hk)) (fun _ h => h.2)
        replace i12_0 := i12_0.lift (Lift.ext x22 _)
        replace i20_0 := i20_0.lift (Lift.ext x22 _)
        replace o17 := o17.extL (Sc.stab _) x22 (Lift.ext x22 _)
        have e23 := e21.trans x22
        refine wla rfl rfl (q_assign (v := v20) rfl rfl) ?_
        refine wla rfl rfl (q_assign (v := v22) rfl rfl) ?_
        refine wl_nil ?_
        refine W_th ?_
        refine W_seq ?_
        refine W_seq ?_
        refine W_reg (by kernel_rfl) ?_
        refine wla rfl rfl (q_move (v := v20) rfl rfl) ?_
        refine wla rfl rfl (q_len rfl T37.sl rfl i20_0) ?_
        refine wla rfl rfl (q_move (v := p1) rfl rfl) ?_
        refine wla rfl rfl (q_len rfl T37.sl rfl (hp1.lift (Lift.ext e23 _))) ?_
        refine wla rfl rfl (q_neI rfl rfl rfl) ?_
        refine wlb rfl rfl (q_move (v := (.bool ((!decide ((r20.length : Int) = (a1b.length : Int)))))) rfl rfl) (fun hb24 => ?_) (fun hb24 => ?_)
        · replace H := (if_neg (ndec_t hb24)).symm.trans H
          refine wlk rfl rfl ?_
          refine wlk rfl rfl ?_
          refine wlk rfl rfl ?_
          refine wlk rfl rfl ?_
          refine wlk rfl rfl ?_
          refine wla rfl rfl (q_pick_t (v := (.bool true)) rfl rfl rfl) ?_
          refine wla rfl rfl (q_move (v := (.bool true)) rfl rfl) ?_
          refine wlk rfl rfl ?_
          refine wlk rfl rfl ?_
          refine wlk rfl rfl ?_
          refine wlk rfl rfl ?_
          refine wlk rfl rfl ?_
          refine wla rfl rfl (q_pick_t (v := (.bool true)) rfl rfl rfl) ?_
          refine wl_nil ?_
          refine W_th ?_
          refine W_cond true rfl rfl (fun _ => ?_) (fun hb => by cases hb)
          refine W_seq ?_
          refine W_reg (by kernel_rfl) ?_
          refine wla rfl rfl (q_assign (v := (.bool false)) rfl rfl) ?_
          refine wl_nil ?_
          refine W_th ?_
          refine W_ret ?_
          refine th_r ?_
          obtain rfl := Option.some.inj H
          refine rt1 (.bool false) rfl rfl rfl ?_
          exact ⟨rfl, e23⟩
        · replace H := (if_pos (ndec_f hb24)).symm.trans H
          refine wla rfl rfl (q_move (v := v22) rfl rfl) ?_
          refine wla rfl rfl (q_len rfl T37.sl rfl i22_0) ?_
          refine wla rfl rfl (q_move (v := p0) rfl rfl) ?_
          refine wla rfl rfl (q_len rfl T37.sl rfl (hp0.lift (Lift.ext e23 _))) ?_
          refine wla rfl rfl (q_neI rfl rfl rfl) ?_
          refine wla rfl rfl (q_pick_f (v := (.bool ((!decide ((r22.length : Int) = (a0a.length : Int)))))) rfl rfl rfl) ?_
          refine wlb rfl rfl (q_move (v := (.bool ((!decide ((r22.length : Int) = (a0a.length : Int)))))) rfl rfl) (fun hb25 => ?_) (fun hb25 => ?_)
          · replace H := (if_neg (ndec_t hb25)).symm.trans H
            refine wlk rfl rfl ?_
            refine wlk rfl rfl ?_
            refine wlk rfl rfl ?_
            refine wlk rfl rfl ?_
            refine wlk rfl rfl ?_
            refine wla rfl rfl (q_pick_t (v := (.bool true)) rfl rfl rfl) ?_
            refine wl_nil ?_
            refine W_th ?_
            refine W_cond true rfl rfl (fun _ => ?_) (fun hb => by cases hb)
            refine W_seq ?_
            refine W_reg (by kernel_rfl) ?_
            refine wla rfl rfl (q_assign (v := (.bool false)) rfl rfl) ?_
            refine wl_nil ?_
            refine W_th ?_
            refine W_ret ?_
            refine th_r ?_
            obtain rfl := Option.some.inj H
            refine rt1 (.bool false) rfl rfl rfl ?_
            exact ⟨rfl, e23⟩
          · replace H := (if_pos (ndec_f hb25)).symm.trans H
            refine wla rfl rfl (q_move (v := v17) rfl rfl) ?_
            refine wlq rfl rfl (q_str rfl T37 rfl rfl rfl (o17.rd (Sc.stab _))) ?_
            refine wla rfl rfl (q_move (v := p0) rfl rfl) ?_
            refine wlq rfl rfl (q_str rfl T37 rfl rfl rfl (hp0.lift (Lift.ext e23 _))) ?_
            refine wla rfl rfl (q_neS rfl rfl rfl) ?_
            refine wla rfl rfl (q_pick_f (v := (.bool ((!decide (c17 = a0a))))) rfl rfl rfl) ?_
            refine wl_nil ?_
            refine W_th ?_
            refine W_cond _ rfl rfl (fun hb26 => ?_) (fun hb26 => ?_)
            · replace H := (if_neg (ndec_t hb26)).symm.trans H
              refine W_seq ?_
              refine W_reg (by kernel_rfl) ?_
              refine wla rfl rfl (q_assign (v := (.bool false)) rfl rfl) ?_
              refine wl_nil ?_
              refine W_th ?_
              refine W_ret ?_
              refine th_r ?_
              obtain rfl := Option.some.inj H
              refine rt1 (.bool false) rfl rfl rfl ?_
              exact ⟨rfl, e23⟩
            · replace H := (if_pos (ndec_f hb26)).symm.trans H
              refine W_skip ?_
              refine W_th ?_
              refine W_seq ?_
              refine W_seq ?_
              refine W_reg (by kernel_rfl) ?_
              refine wla rfl rfl (q_move (v := p1) rfl rfl) ?_
              refine wla rfl rfl (q_len rfl T37.sl rfl (hp1.lift (Lift.ext e23 _))) ?_
              refine wla rfl rfl (q_move (v := (i64 0)) rfl rfl) ?_
              refine wl_nil ?_
              refine W_th ?_
              obtain ⟨x27, G27, H⟩ := Option.bind_eq_some_iff.1 H
              refine W_mid (fun f w => ∃ y27, x27 = .inl y27 ∧ f 0 = p0 ∧ f 1 = p1 ∧ f 2 = (u8 a2c) ∧ f 7 = v12 ∧ f 10 = v22 ∧ Ext w0 w ∧ Fd w [] v12 r12 ∧ By w [] v22 r22) ?_ ?_
              · refine W_block ?_
                refine W_loop (fun s27 f w => f 0 = p0 ∧ f 1 = p1 ∧ f 2 = (u8 a2c) ∧ f 7 = v12 ∧ f 9 = v20 ∧ f 10 = v22 ∧ f 67 = (i64 ((a1b.length : Int))) ∧ f 68 = (i64 s27) ∧ Ext w0 w ∧ Fd w [] v12 r12 ∧ By w [] v20 r20 ∧ By w [] v22 r22) G27 ?_ ?_
                · exact ⟨rfl, rfl, rfl, rfl, rfl, rfl, rfl, rfl, e23, (i12_0.lift (Lift.sub (fun _ h => trivial))), (i20_0.lift (Lift.sub (fun _ h => trivial))), (i22_0.lift (Lift.sub (fun _ h => trivial)))⟩
                · rintro s27 _ _ w28 ⟨s0_28, s1_28, s2_28, s7_28, s9_28, s10_28, s67_28, s68_28, hE28, i0_28, i1_28, i2_28⟩ H27 hr27
                  refine W_seq ?_
                  refine W_reg (by kernel_rfl) ?_
                  refine wla rfl rfl (q_ltI rfl s68_28 s67_28) ?_
                  refine wl_nil ?_
                  refine W_th ?_
                  refine W_seq ?_
                  refine W_cond _ rfl rfl (fun hb29 => ?_) (fun hb29 => ?_)
                  · replace H27 := (if_pos (of_decide_eq_true hb29)).symm.trans H27
                    refine W_skip ?_
                    refine W_th ?_
                    refine W_seq ?_
                    refine W_block ?_
                    refine W_seq ?_
                    refine W_reg (by kernel_rfl) ?_
                    refine wla rfl rfl (q_move (v := (i64 s27)) rfl s68_28) ?_
                    refine wla rfl rfl (q_assign (v := (i64 s27)) rfl rfl) ?_
                    refine wl_nil ?_
                    refine W_th ?_
                    refine W_seq ?_
                    refine W_draw [3, 9] [(0, 0), (1, 0), (2, 0), (3, 1), (4, 0), (5, 0), (6, 0), (7, 0), (8, 0), (9, 1), (10, 2), (11, 0)] mixed (by kernel_rfl) (by kernel_rfl) (by kernel_rfl) (by kernel_rfl) ?_
                    have x30 := Ext.drew w28
                    replace i0_28 := i0_28.lift (Lift.ext x30 _)
                    replace i1_28 := i1_28.lift (Lift.ext x30 _)
                    replace i2_28 := i2_28.lift (Lift.ext x30 _)
                    have e31 := hE28.trans x30
                    refine wsa rfl rfl rfl (q_move (v := v20) rfl s9_28) ?_
                    refine wsa rfl rfl rfl (q_move (v := (i64 s27)) rfl rfl) ?_
                    obtain ⟨c32, hc32, H27⟩ := Option.bind_eq_some_iff.1 H27
                    refine wsa rfl rfl rfl (q_adr rfl T37 rfl rfl i1_28 hc32) ?_
                    refine wsq rfl rfl rfl (q_loadS rfl T37 rfl i1_28 hc32) ?_
                    refine wsa rfl rfl rfl (q_move (v := v12) rfl s7_28) ?_
                    refine wsa rfl rfl rfl (q_move (v := (u8 a2c)) rfl s2_28) ?_
                    refine wsa rfl rfl rfl (q_move (v := p1) rfl s1_28) ?_
                    refine wsa rfl rfl rfl (q_move (v := (i64 s27)) rfl rfl) ?_
                    obtain ⟨c33, hc33, H27⟩ := Option.bind_eq_some_iff.1 H27
                    refine wsa rfl rfl rfl (q_adr rfl T37 rfl rfl (hp1.lift (Lift.ext e31 _)) hc33) ?_
                    refine wsq rfl rfl rfl (q_loadS rfl T37 rfl (hp1.lift (Lift.ext e31 _)) hc33) ?_
                    obtain ⟨r34, hr34, H27⟩ := Option.bind_eq_some_iff.1 H27
                    refine wss rfl rfl rfl (stp_call (vs := [v12, (u8 a2c), (u8 c33)]) Try.func38 rfl rfl rfl (ar3 rfl rfl rfl) (field_Mul_calls r12 a2c c33 v12 r34 _ (i0_28.lift (Lift.sub (fun _ _ => trivial))) hr34) ?_)
                    rintro _ w34 ⟨rfl, x34⟩
                    refine ⟨_, rfl, x34, ?_⟩
                    replace i0_28 := i0_28.lift (Lift.ext x34 _)
                    replace i1_28 := i1_28.lift (Lift.ext x34 _)
                    replace i2_28 := i2_28.lift (Lift.ext x34 _)
                    have e35 := e31.trans x34
                    refine wsa rfl rfl rfl (q_ne8 rfl rfl rfl) ?_
                    refine ws_nil ?_
                    refine W_th ?_
                    refine W_cond _ rfl rfl (fun hb36 => ?_) (fun hb36 => ?_)
                    · replace H27 := (if_neg (ndec_t hb36)).symm.trans H27
                      refine W_seq ?_
                      refine W_reg (by kernel_rfl) ?_
                      refine wla rfl rfl (q_assign (v := (.bool false)) rfl rfl) ?_
                      refine wl_nil ?_
                      refine W_th ?_
                      refine W_ret ?_
                      refine bk_r ?_
                      refine th_r ?_
                      obtain rfl := Option.some.inj H27
                      obtain rfl := hr27 _ rfl
                      simp only [Sum.elim_inr] at H
                      refine th_r ?_
                      refine bk_r ?_
                      refine th_r ?_
                      refine th_r ?_
                      obtain rfl := Option.some.inj H
                      refine rt1 (.bool false) rfl rfl rfl ?_
                      exact ⟨rfl, e35⟩
                    · replace H27 := (if_pos (ndec_f hb36)).symm.trans H27
                      refine W_skip ?_
                      refine bk_n ?_
                      refine W_th ?_
                      refine W_reg (by kernel_rfl) ?_
                      refine wla rfl rfl (q_addI rfl s68_28 rfl) ?_
                      refine wla rfl rfl (q_move (v := (i64 ((wI (s27 + 1))))) rfl rfl) ?_
                      refine wl_nil ?_
                      obtain rfl := Option.some.inj H27
                      exact ⟨_, rfl, s0_28, s1_28, s2_28, s7_28, s9_28, s10_28, s67_28, rfl, e35, i0_28, i1_28, i2_28⟩
                  · replace H27 := (if_neg (of_decide_eq_false hb29)).symm.trans H27
                    refine W_exit ?_
                    refine th_x ?_
                    obtain rfl := Option.some.inj H27
                    obtain rfl := hr27 _ rfl
                    refine th_x ?_
                    refine bk_x ?_
                    exact ⟨_, rfl, s0_28, s1_28, s2_28, s7_28, s10_28, hE28, i0_28, i2_28⟩
              · rintro _ w38 ⟨y27, rfl, s0_38, s1_38, s2_38, s7_38, s10_38, hE38, i0_38, i1_38⟩
                simp only [Sum.elim_inl] at H
                refine W_th ?_
                refine W_seq ?_
                refine W_seq ?_
                refine W_reg (by kernel_rfl) ?_
                refine wla rfl rfl (q_move (v := p0) rfl s0_38) ?_
                refine wla rfl rfl (q_len rfl T37.sl rfl (hp0.lift (Lift.ext hE38 _))) ?_
                refine wla rfl rfl (q_move (v := (i64 0)) rfl rfl) ?_
                refine wl_nil ?_
                refine W_th ?_
                obtain ⟨x39, G39, H⟩ := Option.bind_eq_some_iff.1 H
                refine W_mid (fun f w => ∃ y39, x39 = .inl y39 ∧ f 0 = p0 ∧ f 1 = p1 ∧ Ext w0 w) ?_ ?_
                · refine W_block ?_
                  refine W_loop (fun s39 f w => f 0 = p0 ∧ f 1 = p1 ∧ f 2 = (u8 a2c) ∧ f 7 = v12 ∧ f 10 = v22 ∧ f 85 = (i64 ((a0a.length : Int))) ∧ f 86 = (i64 s39) ∧ Ext w0 w ∧ Fd w [] v12 r12 ∧ By w [] v22 r22) G39 ?_ ?_
                  · exact ⟨s0_38, s1_38, s2_38, s7_38, s10_38, rfl, rfl, hE38, i0_38, i1_38⟩
                  · rintro s39 _ _ w40 ⟨s0_40, s1_40, s2_40, s7_40, s10_40, s85_40, s86_40, hE40, i0_40, i1_40⟩ H39 hr39
                    refine W_seq ?_
                    refine W_reg (by kernel_rfl) ?_
                    refine wla rfl rfl (q_ltI rfl s86_40 s85_40) ?_
                    refine wl_nil ?_
                    refine W_th ?_
                    refine W_seq ?_
                    refine W_cond _ rfl rfl (fun hb41 => ?_) (fun hb41 => ?_)
                    · replace H39 := (if_pos (of_decide_eq_true hb41)).symm.trans H39
                      refine W_skip ?_
                      refine W_th ?_
                      refine W_seq ?_
                      refine W_block ?_
                      refine W_seq ?_
                      refine W_reg (by kernel_rfl) ?_
                      refine wla rfl rfl (q_move (v := (i64 s39)) rfl s86_40) ?_
                      refine wla rfl rfl (q_assign (v := (i64 s39)) rfl rfl) ?_
                      refine wl_nil ?_
                      refine W_th ?_
                      refine W_seq ?_
                      refine W_reg (by kernel_rfl) ?_
                      refine wla rfl rfl (q_move (v := p0) rfl s0_40) ?_
                      refine wla rfl rfl (q_move (v := (i64 s39)) rfl rfl) ?_
                      obtain ⟨c42, hc42, H39⟩ := Option.bind_eq_some_iff.1 H39
                      refine wla rfl rfl (q_adr rfl T37 rfl rfl (hp0.lift (Lift.ext hE40 _)) hc42) ?_
                      refine wlq rfl rfl (q_loadS rfl T37 rfl (hp0.lift (Lift.ext hE40 _)) hc42) ?_
                      refine wla rfl rfl (q_assign (v := (u8 c42)) rfl rfl) ?_
                      refine wl_nil ?_
                      refine W_th ?_
                      refine W_seq ?_
                      refine W_seq ?_
                      refine W_reg (by kernel_rfl) ?_
                      refine wla rfl rfl (q_move (v := (i64 s39)) rfl rfl) ?_
                      refine wla rfl rfl (q_move (v := p1) rfl s1_40) ?_
                      refine wla rfl rfl (q_len rfl T37.sl rfl (hp1.lift (Lift.ext hE40 _))) ?_
                      refine wla rfl rfl (q_ltI rfl rfl rfl) ?_
                      refine wl_nil ?_
                      refine W_th ?_
                      refine W_cond _ rfl rfl (fun hb43 => ?_) (fun hb43 => ?_)
                      · replace H39 := (if_pos (of_decide_eq_true hb43)).symm.trans H39
                        refine W_reg (by kernel_rfl) ?_
                        refine wla rfl rfl (q_move (v := (u8 c42)) rfl rfl) ?_
                        refine wla rfl rfl (q_move (v := v12) rfl s7_40) ?_
                        refine wla rfl rfl (q_move (v := (u8 a2c)) rfl s2_40) ?_
                        refine wla rfl rfl (q_move (v := p1) rfl s1_40) ?_
                        refine wla rfl rfl (q_move (v := (i64 s39)) rfl rfl) ?_
                        obtain ⟨c44, hc44, H39⟩ := Option.bind_eq_some_iff.1 H39
                        refine wla rfl rfl (q_adr rfl T37 rfl rfl (hp1.lift (Lift.ext hE40 _)) hc44) ?_
                        refine wlq rfl rfl (q_loadS rfl T37 rfl (hp1.lift (Lift.ext hE40 _)) hc44) ?_
                        obtain ⟨r45, hr45, H39⟩ := Option.bind_eq_some_iff.1 H39
                        refine wls rfl rfl (stp_call (vs := [v12, (u8 a2c), (u8 c44)]) Try.func38 rfl rfl rfl (ar3 rfl rfl rfl) (field_Mul_calls r12 a2c c44 v12 r45 _ (i0_40.lift (Lift.sub (fun _ _ => trivial))) hr45) ?_)
                        rintro _ w45 ⟨rfl, x45⟩
                        refine ⟨_, rfl, ?_⟩
                        replace i0_40 := i0_40.lift (Lift.ext x45 _)
                        replace i1_40 := i1_40.lift (Lift.ext x45 _)
                        have e46 := hE40.trans x45
                        obtain ⟨r47, hr47, H39⟩ := Option.bind_eq_some_iff.1 H39
                        refine wls rfl rfl (stp_call (vs := [(u8 c42), (u8 r45)]) Try.func39 rfl rfl rfl (ar2 rfl rfl) (field_Add_calls c42 r45  r47 _  hr47) ?_)
                        rintro _ w47 ⟨rfl, x47⟩
                        refine ⟨_, rfl, ?_⟩
                        replace i0_40 := i0_40.lift (Lift.ext x47 _)
                        replace i1_40 := i1_40.lift (Lift.ext x47 _)
                        have e48 := e46.trans x47
                        refine wla rfl rfl (q_assign (v := (u8 r47)) rfl rfl) ?_
                        refine wl_nil ?_
                        refine W_th ?_
                        refine W_seq ?_
                        refine W_reg (by kernel_rfl) ?_
                        refine wla rfl rfl (q_move (v := v22) rfl s10_40) ?_
                        refine wla rfl rfl (q_move (v := (i64 s39)) rfl rfl) ?_
                        obtain ⟨c49, hc49, H39⟩ := Option.bind_eq_some_iff.1 H39
                        refine wla rfl rfl (q_adr rfl T37 rfl rfl i1_40 hc49) ?_
                        refine wlq rfl rfl (q_loadS rfl T37 rfl i1_40 hc49) ?_
                        refine wla rfl rfl (q_move (v := (u8 r47)) rfl rfl) ?_
                        refine wla rfl rfl (q_ne8 rfl rfl rfl) ?_
                        refine wl_nil ?_
                        refine W_th ?_
                        refine W_cond _ rfl rfl (fun hb50 => ?_) (fun hb50 => ?_)
                        · replace H39 := (if_neg (ndec_t hb50)).symm.trans H39
                          refine W_seq ?_
                          refine W_reg (by kernel_rfl) ?_
                          refine wla rfl rfl (q_assign (v := (.bool false)) rfl rfl) ?_
                          refine wl_nil ?_
                          refine W_th ?_
                          refine W_ret ?_
                          refine bk_r ?_
                          refine th_r ?_
                          obtain rfl := Option.some.inj H39
                          obtain rfl := hr39 _ rfl
                          simp only [Sum.elim_inr] at H
                          refine th_r ?_
                          refine bk_r ?_
                          refine th_r ?_
                          refine th_r ?_
                          obtain rfl := Option.some.inj H
                          refine rt1 (.bool false) rfl rfl rfl ?_
                          exact ⟨rfl, e48⟩
                        · replace H39 := (if_pos (ndec_f hb50)).symm.trans H39
                          refine W_skip ?_
                          refine bk_n ?_
                          refine W_th ?_
                          refine W_reg (by kernel_rfl) ?_
                          refine wla rfl rfl (q_addI rfl s86_40 rfl) ?_
                          refine wla rfl rfl (q_move (v := (i64 ((wI (s39 + 1))))) rfl rfl) ?_
                          refine wl_nil ?_
                          obtain rfl := Option.some.inj H39
                          exact ⟨_, rfl, s0_40, s1_40, s2_40, s7_40, s10_40, s85_40, rfl, e48, i0_40, i1_40⟩
                      · replace H39 := (if_neg (of_decide_eq_false hb43)).symm.trans H39
                        refine W_skip ?_
                        refine W_th ?_
                        refine W_seq ?_
                        refine W_reg (by kernel_rfl) ?_
                        refine wla rfl rfl (q_move (v := v22) rfl s10_40) ?_
                        refine wla rfl rfl (q_move (v := (i64 s39)) rfl rfl) ?_
                        obtain ⟨c51, hc51, H39⟩ := Option.bind_eq_some_iff.1 H39
                        refine wla rfl rfl (q_adr rfl T37 rfl rfl i1_40 hc51) ?_
                        refine wlq rfl rfl (q_loadS rfl T37 rfl i1_40 hc51) ?_
                        refine wla rfl rfl (q_move (v := (u8 c42)) rfl rfl) ?_
                        refine wla rfl rfl (q_ne8 rfl rfl rfl) ?_
                        refine wl_nil ?_
                        refine W_th ?_
                        refine W_cond _ rfl rfl (fun hb52 => ?_) (fun hb52 => ?_)
                        · replace H39 := (if_neg (ndec_t hb52)).symm.trans H39
                          refine W_seq ?_
                          refine W_reg (by kernel_rfl) ?_
                          refine wla rfl rfl (q_assign (v := (.bool false)) rfl rfl) ?_
                          refine wl_nil ?_
                          refine W_th ?_
                          refine W_ret ?_
                          refine bk_r ?_
                          refine th_r ?_
                          obtain rfl := Option.some.inj H39
                          obtain rfl := hr39 _ rfl
                          simp only [Sum.elim_inr] at H
                          refine th_r ?_
                          refine bk_r ?_
                          refine th_r ?_
                          refine th_r ?_
                          obtain rfl := Option.some.inj H
                          refine rt1 (.bool false) rfl rfl rfl ?_
                          exact ⟨rfl, hE40⟩
                        · replace H39 := (if_pos (ndec_f hb52)).symm.trans H39
                          refine W_skip ?_
                          refine bk_n ?_
                          refine W_th ?_
                          refine W_reg (by kernel_rfl) ?_
                          refine wla rfl rfl (q_addI rfl s86_40 rfl) ?_
                          refine wla rfl rfl (q_move (v := (i64 ((wI (s39 + 1))))) rfl rfl) ?_
                          refine wl_nil ?_
                          obtain rfl := Option.some.inj H39
                          exact ⟨_, rfl, s0_40, s1_40, s2_40, s7_40, s10_40, s85_40, rfl, hE40, i0_40, i1_40⟩
                    · replace H39 := (if_neg (of_decide_eq_false hb41)).symm.trans H39
                      refine W_exit ?_
                      refine th_x ?_
                      obtain rfl := Option.some.inj H39
                      obtain rfl := hr39 _ rfl
                      refine th_x ?_
                      refine bk_x ?_
                      exact ⟨_, rfl, s0_40, s1_40, hE40⟩
                · rintro _ w59 ⟨y39, rfl, s0_54, s1_54, hE54⟩
                  simp only [Sum.elim_inl] at H
                  refine W_th ?_
                  refine W_seq ?_
                  refine W_reg (by kernel_rfl) ?_
                  refine wla rfl rfl (q_assign (v := (.pointer none)) rfl rfl) ?_
                  refine wl_nil ?_
                  refine W_th ?_
                  refine W_seq ?_
                  refine W_reg (by kernel_rfl) ?_
                  refine wla rfl rfl (q_move (v := (.pointer none)) rfl rfl) ?_
                  obtain ⟨r55, hr55, H⟩ := Option.bind_eq_some_iff.1 H
                  refine wls rfl rfl (stp_call (vs := [(.pointer none), (u8 1)]) Try.func40 rfl rfl rfl (ar2 rfl (cst8 (1 : UInt8) rfl)) (field_Inv_calls false (1 : UInt8) (.pointer none) r55 _ (Fd.nil _ _) hr55) ?_)
                  rintro _ w55 ⟨rfl, x55⟩
                  refine ⟨_, rfl, ?_⟩
                  have e56 := hE54.trans x55
                  refine wla rfl rfl (q_move (v := (.tuple #[(u8 r55.1), (i64 r55.2)])) rfl rfl) ?_
                  refine wla rfl rfl (q_extract rfl rfl rfl) ?_
                  refine wla rfl rfl (q_extract rfl rfl rfl) ?_
                  refine wla rfl rfl (q_assign (v := (u8 r55.1)) rfl rfl) ?_
                  refine wla rfl rfl (q_assign (v := (i64 r55.2)) rfl rfl) ?_
                  refine wl_nil ?_
                  refine W_th ?_
                  refine W_seq ?_
                  refine W_reg (by kernel_rfl) ?_
                  refine wla rfl rfl (q_move (v := (.pointer none)) rfl rfl) ?_
                  obtain ⟨r57, hr57, H⟩ := Option.bind_eq_some_iff.1 H
                  refine wls rfl rfl (stp_call (vs := [(.pointer none), (u8 1), (u8 1)]) Try.func43 rfl rfl rfl (ar3 rfl (cst8 (1 : UInt8) rfl) (cst8 (1 : UInt8) rfl)) (field_Div_calls false (1 : UInt8) (1 : UInt8) (.pointer none) r57 _ (Fd.nil _ _) hr57) ?_)
                  rintro _ w57 ⟨rfl, x57⟩
                  refine ⟨_, rfl, ?_⟩
                  have e58 := e56.trans x57
                  refine wla rfl rfl (q_move (v := (.tuple #[(u8 r57.1), (i64 r57.2)])) rfl rfl) ?_
                  refine wla rfl rfl (q_extract rfl rfl rfl) ?_
                  refine wla rfl rfl (q_extract rfl rfl rfl) ?_
                  refine wla rfl rfl (q_assign (v := (u8 r57.1)) rfl rfl) ?_
                  refine wla rfl rfl (q_assign (v := (i64 r57.2)) rfl rfl) ?_
                  refine wl_nil ?_
                  refine W_th ?_
                  refine W_seq ?_
                  refine W_reg (by kernel_rfl) ?_
                  refine wla rfl rfl (q_move (v := (.pointer none)) rfl rfl) ?_
                  obtain ⟨r59, hr59, H⟩ := Option.bind_eq_some_iff.1 H
                  refine wls rfl rfl (stp_call (vs := [(.pointer none), (u8 1)]) Try.func47 rfl rfl rfl (ar2 rfl (cst8 (1 : UInt8) rfl)) (field_Log_calls false (1 : UInt8) (.pointer none) r59 _ (Fd.nil _ _) hr59) ?_)
                  rintro _ w59 ⟨rfl, x59⟩
                  refine ⟨_, rfl, ?_⟩
                  have e60 := e58.trans x59
                  refine wla rfl rfl (q_move (v := (.tuple #[(i64 r59.1), (i64 r59.2)])) rfl rfl) ?_
                  refine wla rfl rfl (q_extract rfl rfl rfl) ?_
                  refine wla rfl rfl (q_extract rfl rfl rfl) ?_
                  refine wla rfl rfl (q_assign (v := (i64 r59.1)) rfl rfl) ?_
                  refine wla rfl rfl (q_assign (v := (i64 r59.2)) rfl rfl) ?_
                  refine wl_nil ?_
                  refine W_th ?_
                  refine W_seq ?_
                  refine W_reg (by kernel_rfl) ?_
                  refine wla rfl rfl (q_move (v := (i64 r55.2)) rfl rfl) ?_
                  refine wla rfl rfl (q_eqI rfl rfl rfl) ?_
                  refine wlb rfl rfl (q_move (v := (.bool ((decide (r55.2 = 1))))) rfl rfl) (fun hb61 => ?_) (fun hb61 => ?_)
                  · replace H := (if_pos (of_decide_eq_true hb61)).symm.trans H
                    refine wla rfl rfl (q_move (v := (i64 r57.2)) rfl rfl) ?_
                    refine wla rfl rfl (q_eqI rfl rfl rfl) ?_
                    refine wla rfl rfl (q_pick_t (v := (.bool ((decide (r57.2 = 1))))) rfl rfl rfl) ?_
                    refine wlb rfl rfl (q_move (v := (.bool ((decide (r57.2 = 1))))) rfl rfl) (fun hb62 => ?_) (fun hb62 => ?_)
                    · replace H := (if_pos (of_decide_eq_true hb62)).symm.trans H
                      refine wla rfl rfl (q_move (v := (i64 r59.2)) rfl rfl) ?_
                      refine wla rfl rfl (q_eqI rfl rfl rfl) ?_
                      refine wla rfl rfl (q_pick_t (v := (.bool ((decide (r59.2 = 1))))) rfl rfl rfl) ?_
                      refine wlb rfl rfl (q_move (v := (.bool ((decide (r59.2 = 1))))) rfl rfl) (fun hb63 => ?_) (fun hb63 => ?_)
                      · replace H := (if_pos (of_decide_eq_true hb63)).symm.trans H
                        refine wla rfl rfl (q_move (v := (.pointer none)) rfl rfl) ?_
                        obtain ⟨r64, hr64, H⟩ := Option.bind_eq_some_iff.1 H
                        refine wls rfl rfl (stp_call (vs := [(.pointer none), (u8 1), (u8 1)]) Try.func38 rfl rfl rfl (ar3 rfl (cst8 (1 : UInt8) rfl) (cst8 (1 : UInt8) rfl)) (field_Mul_calls false (1 : UInt8) (1 : UInt8) (.pointer none) r64 _ (Fd.nil _ _) hr64) ?_)
                        rintro _ w64 ⟨rfl, x64⟩
                        refine ⟨_, rfl, ?_⟩
                        have e65 := e60.trans x64
                        refine wla rfl rfl (q_eq8 rfl rfl (cst8 (0 : UInt8) rfl)) ?_
                        refine wla rfl rfl (q_pick_t (v := (.bool ((decide (r64 = (0 : UInt8)))))) rfl rfl rfl) ?_
                        refine wlb rfl rfl (q_move (v := (.bool ((decide (r64 = (0 : UInt8)))))) rfl rfl) (fun hb66 => ?_) (fun hb66 => ?_)
                        · replace H := (if_pos (of_decide_eq_true hb66)).symm.trans H
                          refine wla rfl rfl (q_move (v := (.pointer none)) rfl rfl) ?_
                          obtain ⟨r67, hr67, H⟩ := Option.bind_eq_some_iff.1 H
                          refine wls rfl rfl (stp_call (vs := [(.pointer none), (u8 1), (i64 1)]) Try.func45 rfl rfl rfl (ar3 rfl (cst8 (1 : UInt8) rfl) rfl) (field_Pow_calls false (1 : UInt8) 1 (.pointer none) r67 _ (Fd.nil _ _) hr67) ?_)
                          rintro _ w67 ⟨rfl, x67⟩
                          refine ⟨_, rfl, ?_⟩
                          have e68 := e65.trans x67
                          refine wla rfl rfl (q_eq8 rfl rfl (cst8 (0 : UInt8) rfl)) ?_
                          refine wla rfl rfl (q_pick_t (v := (.bool ((decide (r67 = (0 : UInt8)))))) rfl rfl rfl) ?_
                          refine wlb rfl rfl (q_move (v := (.bool ((decide (r67 = (0 : UInt8)))))) rfl rfl) (fun hb69 => ?_) (fun hb69 => ?_)
                          · replace H := (if_pos (of_decide_eq_true hb69)).symm.trans H
                            refine wla rfl rfl (q_move (v := (.pointer none)) rfl rfl) ?_
                            refine wla rfl rfl (q_move (v := p1) rfl s1_54) ?_
                            obtain ⟨r70, hr70, H⟩ := Option.bind_eq_some_iff.1 H
                            refine wls rfl rfl (stp_call (vs := [(.pointer none), (u8 1), p1]) Try.func48 rfl rfl rfl (ar3 rfl (cst8 (1 : UInt8) rfl) rfl) (field_Scale_calls false (1 : UInt8) a1b (.pointer none) p1 r70 _ (Fd.nil _ _) (hp1.lift (Lift.ext e68 _)) hr70) ?_)
                            rintro _ w70 ⟨v70, rfl, x70, n70_0, o70_0⟩
                            refine ⟨_, rfl, ?_⟩
                            have i70_0 : By w70 [] v70 r70 := OwK.slk (Sc.stab _) _ (OwK.scal o70_0 (v70 :: [])) (fun k hk => (Old.nil _) k (n70_0 k hk)) (fun _ h => h.2)
                            have e71 := e68.trans x70
                            refine wla rfl rfl (q_len rfl T37.sl rfl i70_0) ?_
                            refine wla rfl rfl (q_move (v := (.pointer none)) rfl rfl) ?_
                            refine wla rfl rfl (q_move (v := p0) rfl s0_54) ?_
                            refine wla rfl rfl (q_move (v := p1) rfl s1_54) ?_
                            obtain ⟨r72, hr72, H⟩ := Option.bind_eq_some_iff.1 H
                            refine wls rfl rfl (stp_call (vs := [(.pointer none), p0, (u8 1), p1]) Try.func49 rfl rfl rfl (ar4 rfl rfl (cst8 (1 : UInt8) rfl) rfl) (field_Sum_calls false a0a (1 : UInt8) a1b (.pointer none) p0 p1 r72 _ (Fd.nil _ _) (hp0.lift (Lift.ext e71 _)) (hp1.lift (Lift.ext e71 _)) hr72) ?_)
                            rintro _ w72 ⟨v72, rfl, x72, n72_0, o72_0⟩
                            refine ⟨_, rfl, ?_⟩
                            have i72_0 : By w72 [] v72 r72 := OwK.slk (Sc.stab _) _ (OwK.scal o72_0 (v72 :: [])) (fun k hk => (Old.nil _) k (n72_0 k hk)) (fun _ h => h.2)
                            replace i70_0 := i70_0.lift (Lift.ext x72 _)
                            have e73 := e71.trans x72
                            refine wla rfl rfl (q_len rfl T37.sl rfl i72_0) ?_
                            refine wla rfl rfl (q_addI rfl rfl rfl) ?_
                            refine wla rfl rfl (q_eqI rfl rfl rfl) ?_
                            refine wla rfl rfl (q_pick_t (v := (.bool ((decide ((wI ((r70.length : Int) + (r72.length : Int))) = 0))))) rfl rfl rfl) ?_
                            refine wla rfl rfl (q_assign (v := (.bool ((decide ((wI ((r70.length : Int) + (r72.length : Int))) = 0))))) rfl rfl) ?_
                            refine wl_nil ?_
                            refine W_th ?_
                            refine W_ret ?_
                            obtain rfl := Option.some.inj H
                            refine rt1 (.bool ((decide ((wI ((r70.length : Int) + (r72.length : Int))) = 0)))) rfl rfl rfl ?_
                            exact ⟨rfl, e73⟩
                          · replace H := (if_neg (of_decide_eq_false hb69)).symm.trans H
                            refine wlk rfl rfl ?_
                            refine wlk rfl rfl ?_
                            refine wlk rfl rfl ?_
                            refine wlk rfl rfl ?_
                            refine wlk rfl rfl ?_
                            refine wlk rfl rfl ?_
                            refine wlk rfl rfl ?_
                            refine wlk rfl rfl ?_
                            refine wlk rfl rfl ?_
                            refine wlk rfl rfl ?_
                            refine wlk rfl rfl ?_
                            refine wla rfl rfl (q_pick_f (v := (.bool false)) rfl rfl rfl) ?_
                            refine wla rfl rfl (q_assign (v := (.bool false)) rfl rfl) ?_
                            refine wl_nil ?_
                            refine W_th ?_
                            refine W_ret ?_
                            obtain rfl := Option.some.inj H
                            refine rt1 (.bool false) rfl rfl rfl ?_
                            exact ⟨rfl, e68⟩
                        · replace H := (if_neg (of_decide_eq_false hb66)).symm.trans H
                          refine wlk rfl rfl ?_
                          refine wlk rfl rfl ?_
                          refine wlk rfl rfl ?_
                          refine wla rfl rfl (q_pick_f (v := (.bool false)) rfl rfl rfl) ?_
                          refine wla rfl rfl (q_move (v := (.bool false)) rfl rfl) ?_
                          refine wlk rfl rfl ?_
                          refine wlk rfl rfl ?_
                          refine wlk rfl rfl ?_
                          refine wlk rfl rfl ?_
                          refine wlk rfl rfl ?_
                          refine wlk rfl rfl ?_
                          refine wlk rfl rfl ?_
                          refine wlk rfl rfl ?_
                          refine wlk rfl rfl ?_
                          refine wlk rfl rfl ?_
                          refine wlk rfl rfl ?_
                          refine wla rfl rfl (q_pick_f (v := (.bool false)) rfl rfl rfl) ?_
                          refine wla rfl rfl (q_assign (v := (.bool false)) rfl rfl) ?_
                          refine wl_nil ?_
                          refine W_th ?_
                          refine W_ret ?_
                          obtain rfl := Option.some.inj H
                          refine rt1 (.bool false) rfl rfl rfl ?_
                          exact ⟨rfl, e65⟩
                      · replace H := (if_neg (of_decide_eq_false hb63)).symm.trans H
                        refine wlk rfl rfl ?_
                        refine wlk rfl rfl ?_
                        refine wlk rfl rfl ?_
                        refine wla rfl rfl (q_pick_f (v := (.bool false)) rfl rfl rfl) ?_
                        refine wla rfl rfl (q_move (v := (.bool false)) rfl rfl) ?_
                        refine wlk rfl rfl ?_
                        refine wlk rfl rfl ?_
                        refine wlk rfl rfl ?_
                        refine wla rfl rfl (q_pick_f (v := (.bool false)) rfl rfl rfl) ?_
                        refine wla rfl rfl (q_move (v := (.bool false)) rfl rfl) ?_
                        refine wlk rfl rfl ?_
                        refine wlk rfl rfl ?_
                        refine wlk rfl rfl ?_
                        refine wlk rfl rfl ?_
                        refine wlk rfl rfl ?_
                        refine wlk rfl rfl ?_
                        refine wlk rfl rfl ?_
                        refine wlk rfl rfl ?_
                        refine wlk rfl rfl ?_
                        refine wlk rfl rfl ?_
                        refine wlk rfl rfl ?_
                        refine wla rfl rfl (q_pick_f (v := (.bool false)) rfl rfl rfl) ?_
                        refine wla rfl rfl (q_assign (v := (.bool false)) rfl rfl) ?_
                        refine wl_nil ?_
                        refine W_th ?_
                        refine W_ret ?_
                        obtain rfl := Option.some.inj H
                        refine rt1 (.bool false) rfl rfl rfl ?_
                        exact ⟨rfl, e60⟩
                    · replace H := (if_neg (of_decide_eq_false hb62)).symm.trans H
                      refine wlk rfl rfl ?_
                      refine wlk rfl rfl ?_
                      refine wla rfl rfl (q_pick_f (v := (.bool false)) rfl rfl rfl) ?_
                      refine wla rfl rfl (q_move (v := (.bool false)) rfl rfl) ?_
                      refine wlk rfl rfl ?_
                      refine wlk rfl rfl ?_
                      refine wlk rfl rfl ?_
                      refine wla rfl rfl (q_pick_f (v := (.bool false)) rfl rfl rfl) ?_
                      refine wla rfl rfl (q_move (v := (.bool false)) rfl rfl) ?_
                      refine wlk rfl rfl ?_
                      refine wlk rfl rfl ?_
                      refine wlk rfl rfl ?_
                      refine wla rfl rfl (q_pick_f (v := (.bool false)) rfl rfl rfl) ?_
                      refine wla rfl rfl (q_move (v := (.bool false)) rfl rfl) ?_
                      refine wlk rfl rfl ?_
                      refine wlk rfl rfl ?_
                      refine wlk rfl rfl ?_
                      refine wlk rfl rfl ?_
                      refine wlk rfl rfl ?_
                      refine wlk rfl rfl ?_
                      refine wlk rfl rfl ?_
                      refine wlk rfl rfl ?_
                      refine wlk rfl rfl ?_
                      refine wlk rfl rfl ?_
                      refine wlk rfl rfl ?_
                      refine wla rfl rfl (q_pick_f (v := (.bool false)) rfl rfl rfl) ?_
                      refine wla rfl rfl (q_assign (v := (.bool false)) rfl rfl) ?_
                      refine wl_nil ?_
                      refine W_th ?_
                      refine W_ret ?_
                      obtain rfl := Option.some.inj H
                      refine rt1 (.bool false) rfl rfl rfl ?_
                      exact ⟨rfl, e60⟩
                  · replace H := (if_neg (of_decide_eq_false hb61)).symm.trans H
                    refine wlk rfl rfl ?_
                    refine wlk rfl rfl ?_
                    refine wla rfl rfl (q_pick_f (v := (.bool false)) rfl rfl rfl) ?_
                    refine wla rfl rfl (q_move (v := (.bool false)) rfl rfl) ?_
                    refine wlk rfl rfl ?_
                    refine wlk rfl rfl ?_
                    refine wla rfl rfl (q_pick_f (v := (.bool false)) rfl rfl rfl) ?_
                    refine wla rfl rfl (q_move (v := (.bool false)) rfl rfl) ?_
                    refine wlk rfl rfl ?_
                    refine wlk rfl rfl ?_
                    refine wlk rfl rfl ?_
                    refine wla rfl rfl (q_pick_f (v := (.bool false)) rfl rfl rfl) ?_
                    refine wla rfl rfl (q_move (v := (.bool false)) rfl rfl) ?_
                    refine wlk rfl rfl ?_
                    refine wlk rfl rfl ?_
                    refine wlk rfl rfl ?_
                    refine wla rfl rfl (q_pick_f (v := (.bool false)) rfl rfl rfl) ?_
                    refine wla rfl rfl (q_move (v := (.bool false)) rfl rfl) ?_
                    refine wlk rfl rfl ?_
                    refine wlk rfl rfl ?_
                    refine wlk rfl rfl ?_
                    refine wlk rfl rfl ?_
                    refine wlk rfl rfl ?_
                    refine wlk rfl rfl ?_
                    refine wlk rfl rfl ?_
                    refine wlk rfl rfl ?_
                    refine wlk rfl rfl ?_
                    refine wlk rfl rfl ?_
                    refine wlk rfl rfl ?_
                    refine wla rfl rfl (q_pick_f (v := (.bool false)) rfl rfl rfl) ?_
                    refine wla rfl rfl (q_assign (v := (.bool false)) rfl rfl) ?_
                    refine wl_nil ?_
                    refine W_th ?_
                    refine W_ret ?_
                    obtain rfl := Option.some.inj H
                    refine rt1 (.bool false) rfl rfl rfl ?_
                    exact ⟨rfl, e60⟩

end Gk

/- Printed by gen.py: for each Go function a pure function, and that the Go code comes to it. No condition beside the equation that says what the pure function gives. -/
import Derived.Test.YtabcmfkmddlaaaaF5
import Derived.Test.YtabcmfkmddlaaaaFf
set_option linter.unusedVariables false
set_option linter.unusedSimpArgs false
namespace Gk
open Go Go.Proofs

/-! slices.Index[[]byte,byte] -/
noncomputable def slices_Index_sbytebyte (a0s : List UInt8) (a1v : UInt8) : Option Int :=
((iterC (fun s1 : Int =>
(if s1 < (a0s.length : Int) then
((idx a0s s1).bind fun c4 =>
(if a1v = c4 then some (.inr (.inr s1))
else some (.inl (wI (s1 + 1)))))
else some (.inr (.inl ())))) 0).bind (Sum.elim (fun y1 => some (-1)) (fun q1 => some q1)))
set_option maxRecDepth 100000 in
set_option maxHeartbeats 8000000 in
theorem slices_Index_sbytebyte_calls (a0s : List UInt8) (a1v : UInt8) (p0 : Value) (r : Int) (w0 : World) (hp0 : By w0 [] p0 a0s) (H : slices_Index_sbytebyte a0s a1v = some r) :
    Calls Try.prog 70 [p0, (u8 a1v)].toArray w0 (fun e w' => e = .returned (i64 r) ∧ Ext w0 w') := by
  have hE : Ext w0 w0 := Ext.refl w0
  unfold slices_Index_sbytebyte at H
  refine calls_W (n := 19) Try.func70 rfl rfl rfl ?_
  refine W_seq ?_
  refine W_reg (by kernel_rfl) ?_
  refine wla rfl rfl (q_assign (v := (i64 0)) rfl rfl) ?_
  refine wl_nil ?_
  refine W_th ?_
  refine W_seq ?_
  refine W_seq ?_
  refine W_reg (by kernel_rfl) ?_
  refine wla rfl rfl (q_move (v := p0) rfl rfl) ?_
  refine wla rfl rfl (q_len rfl T22.sl rfl (hp0.lift (Lift.ext hE _))) ?_
  refine wla rfl rfl (q_move (v := (i64 0)) rfl rfl) ?_
  refine wl_nil ?_
  refine W_th ?_
  obtain ⟨x1, G1, H⟩ := Option.bind_eq_some_iff.1 H
  refine W_mid (fun f w => ∃ y1, x1 = .inl y1 ∧ f 19 = undef ∧ Ext w0 w) ?_ ?_
  · refine W_block ?_
    refine W_loop (fun s1 f w => f 0 = p0 ∧ f 1 = (u8 a1v) ∧ f 7 = (i64 ((a0s.length : Int))) ∧ f 8 = (i64 s1) ∧ f 19 = undef ∧ Ext w0 w) G1 ?_ ?_
    · exact ⟨rfl, rfl, rfl, rfl, rfl, hE⟩
    · rintro s1 _ _ w2 ⟨s0_2, s1_2, s7_2, s8_2, s19_2, hE2⟩ H1 hr1
      refine W_seq ?_
      refine W_reg (by kernel_rfl) ?_
      refine wla rfl rfl (q_ltI rfl s8_2 s7_2) ?_
      refine wl_nil ?_
      refine W_th ?_
      refine W_seq ?_
      refine W_cond _ rfl rfl (fun hb3 => ?_) (fun hb3 => ?_)
      · replace H1 := (if_pos (of_decide_eq_true hb3)).symm.trans H1
        refine W_skip ?_
        refine W_th ?_
        refine W_seq ?_
        refine W_block ?_
        refine W_seq ?_
        refine W_reg (by kernel_rfl) ?_
        refine wla rfl rfl (q_move (v := (i64 s1)) rfl s8_2) ?_
        refine wla rfl rfl (q_assign (v := (i64 s1)) rfl rfl) ?_
        refine wl_nil ?_
        refine W_th ?_
        refine W_seq ?_
        refine W_reg (by kernel_rfl) ?_
        refine wla rfl rfl (q_move (v := (u8 a1v)) rfl s1_2) ?_
        refine wla rfl rfl (q_move (v := p0) rfl s0_2) ?_
        refine wla rfl rfl (q_move (v := (i64 s1)) rfl rfl) ?_
        obtain ⟨c4, hc4, H1⟩ := Option.bind_eq_some_iff.1 H1
        refine wla rfl rfl (q_adr rfl T22 rfl rfl (hp0.lift (Lift.ext hE2 _)) hc4) ?_
        refine wlq rfl rfl (q_loadS rfl T22 rfl (hp0.lift (Lift.ext hE2 _)) hc4) ?_
        refine wla rfl rfl (q_eq8 rfl rfl rfl) ?_
        refine wl_nil ?_
        refine W_th ?_
        refine W_cond _ rfl rfl (fun hb5 => ?_) (fun hb5 => ?_)
        · replace H1 := (if_pos (of_decide_eq_true hb5)).symm.trans H1
          refine W_seq ?_
          refine W_reg (by kernel_rfl) ?_
          refine wla rfl rfl (q_move (v := (i64 s1)) rfl rfl) ?_
          refine wla rfl rfl (q_assign (v := (i64 s1)) rfl rfl) ?_
          refine wl_nil ?_
          refine W_th ?_
          refine W_ret ?_
          refine bk_r ?_
          refine th_r ?_
          obtain rfl := Option.some.inj H1
          obtain rfl := hr1 _ rfl
          simp only [Sum.elim_inr] at H
          refine th_r ?_
          refine bk_r ?_
          refine th_r ?_
          refine th_r ?_
          obtain rfl := Option.some.inj H
          refine rt1 (i64 s1) rfl rfl rfl s19_2 ?_
          exact ⟨rfl, hE2⟩
        · replace H1 := (if_neg (of_decide_eq_false hb5)).symm.trans H1
          refine W_skip ?_
          refine bk_n ?_
          refine W_th ?_
          refine W_reg (by kernel_rfl) ?_
          refine wla rfl rfl (q_addI rfl s8_2 rfl) ?_
          refine wla rfl rfl (q_move (v := (i64 ((wI (s1 + 1))))) rfl rfl) ?_
          refine wl_nil ?_
          obtain rfl := Option.some.inj H1
          exact ⟨_, rfl, s0_2, s1_2, s7_2, rfl, s19_2, hE2⟩
      · replace H1 := (if_neg (of_decide_eq_false hb3)).symm.trans H1
        refine W_exit ?_
        refine th_x ?_
        obtain rfl := Option.some.inj H1
        obtain rfl := hr1 _ rfl
        refine th_x ?_
        refine bk_x ?_
        exact ⟨_, rfl, s19_2, hE2⟩
  · rintro _ w7 ⟨y1, rfl, s19_7, hE7⟩
    simp only [Sum.elim_inl] at H
    refine W_th ?_
    refine W_seq ?_
    refine W_reg (by kernel_rfl) ?_
    refine wla rfl rfl (q_assign (v := (i64 (-1))) rfl rfl) ?_
    refine wl_nil ?_
    refine W_th ?_
    refine W_ret ?_
    obtain rfl := Option.some.inj H
    refine rt1 (i64 (-1)) rfl rfl rfl s19_7 ?_
    exact ⟨rfl, hE7⟩

/-! slices.Contains[[]byte,byte] -/
noncomputable def slices_Contains_sbytebyte (a0s : List UInt8) (a1v : UInt8) : Option Bool :=
((slices_Index_sbytebyte a0s a1v).bind fun r1 => some (decide (0 ≤ r1)))
set_option maxRecDepth 100000 in
set_option maxHeartbeats 8000000 in
theorem slices_Contains_sbytebyte_calls (a0s : List UInt8) (a1v : UInt8) (p0 : Value) (r : Bool) (w0 : World) (hp0 : By w0 [] p0 a0s) (H : slices_Contains_sbytebyte a0s a1v = some r) :
    Calls Try.prog 65 [p0, (u8 a1v)].toArray w0 (fun e w' => e = .returned (.bool r) ∧ Ext w0 w') := by
  have hE : Ext w0 w0 := Ext.refl w0
  unfold slices_Contains_sbytebyte at H
  refine calls_W (n := 9) Try.func65 rfl rfl rfl ?_
  refine W_seq ?_
  refine W_reg (by kernel_rfl) ?_
  refine wla rfl rfl (q_assign (v := (.bool false)) rfl rfl) ?_
  refine wl_nil ?_
  refine W_th ?_
  refine W_seq ?_
  refine W_reg (by kernel_rfl) ?_
  refine wla rfl rfl (q_move (v := p0) rfl rfl) ?_
  refine wla rfl rfl (q_move (v := (u8 a1v)) rfl rfl) ?_
  obtain ⟨r1, hr1, H⟩ := Option.bind_eq_some_iff.1 H
  refine wls rfl rfl (stp_call (vs := [p0, (u8 a1v)]) Try.func70 rfl rfl rfl (ar2 rfl rfl) (slices_Index_sbytebyte_calls a0s a1v p0 r1 _ (hp0.lift (Lift.ext hE _)) hr1) ?_)
  rintro _ w1 ⟨rfl, x1⟩
  refine ⟨_, rfl, ?_⟩
  have e2 := hE.trans x1
  refine wla rfl rfl (q_geI rfl rfl rfl) ?_
  refine wla rfl rfl (q_assign (v := (.bool ((decide (0 ≤ r1))))) rfl rfl) ?_
  refine wl_nil ?_
  refine W_th ?_
  refine W_ret ?_
  obtain rfl := Option.some.inj H
  refine rt1 (.bool ((decide (0 ≤ r1)))) rfl rfl rfl rfl ?_
  exact ⟨rfl, e2⟩

/-! largesse/shamir.threshold -/
noncomputable def shamir_threshold (a0t : Int) : Option Bool :=
(if 1 ≤ a0t then some (decide (a0t ≤ 255))
else some false)
set_option maxRecDepth 100000 in
set_option maxHeartbeats 8000000 in
theorem shamir_threshold_calls (a0t : Int) (r : Bool) (w0 : World) (H : shamir_threshold a0t = some r) :
    Calls Try.prog 48 [(i64 a0t)].toArray w0 (fun e w' => e = .returned (.bool r) ∧ Ext w0 w') := by
  have hE : Ext w0 w0 := Ext.refl w0
  unfold shamir_threshold at H
  refine calls_W (n := 9) Try.func48 rfl rfl rfl ?_
  refine W_seq ?_
  refine W_reg (by kernel_rfl) ?_
  refine wla rfl rfl (q_assign (v := (.bool false)) rfl rfl) ?_
  refine wl_nil ?_
  refine W_th ?_
  refine W_seq ?_
  refine W_reg (by kernel_rfl) ?_
  refine wla rfl rfl (q_move (v := (i64 a0t)) rfl rfl) ?_
  refine wla rfl rfl (q_geI rfl rfl rfl) ?_
  refine wlb rfl rfl (q_move (v := (.bool ((decide (1 ≤ a0t))))) rfl rfl) (fun hb1 => ?_) (fun hb1 => ?_)
  · replace H := (if_pos (of_decide_eq_true hb1)).symm.trans H
    refine wla rfl rfl (q_move (v := (i64 a0t)) rfl rfl) ?_
    refine wla rfl rfl (q_leI rfl rfl rfl) ?_
    refine wla rfl rfl (q_pick_t (v := (.bool ((decide (a0t ≤ 255))))) rfl rfl rfl) ?_
    refine wla rfl rfl (q_assign (v := (.bool ((decide (a0t ≤ 255))))) rfl rfl) ?_
    refine wl_nil ?_
    refine W_th ?_
    refine W_ret ?_
    obtain rfl := Option.some.inj H
    refine rt1 (.bool ((decide (a0t ≤ 255)))) rfl rfl rfl rfl ?_
    exact ⟨rfl, hE⟩
  · replace H := (if_neg (of_decide_eq_false hb1)).symm.trans H
    refine wlk rfl rfl ?_
    refine wlk rfl rfl ?_
    refine wla rfl rfl (q_pick_f (v := (.bool false)) rfl rfl rfl) ?_
    refine wla rfl rfl (q_assign (v := (.bool false)) rfl rfl) ?_
    refine wl_nil ?_
    refine W_th ?_
    refine W_ret ?_
    obtain rfl := Option.some.inj H
    refine rt1 (.bool false) rfl rfl rfl rfl ?_
    exact ⟨rfl, hE⟩

/-! largesse/shamir.MaskSize -/
noncomputable def shamir_MaskSize (a0t : Int) (a1size : Int) : Option Int :=
((shamir_threshold a0t).bind fun r1 =>
(if (!r1) = true then some 0
else
(if a1size < 0 then some 0
else some (wI ((wI (a0t - 1)) * a1size)))))
set_option maxRecDepth 100000 in
set_option maxHeartbeats 8000000 in
theorem shamir_MaskSize_calls (a0t : Int) (a1size : Int) (r : Int) (w0 : World) (H : shamir_MaskSize a0t a1size = some r) :
    Calls Try.prog 20 [(i64 a0t), (i64 a1size)].toArray w0 (fun e w' => e = .returned (i64 r) ∧ Ext w0 w') := by
  have hE : Ext w0 w0 := Ext.refl w0
  unfold shamir_MaskSize at H
  refine calls_W (n := 16) Try.func20 rfl rfl rfl ?_
  refine W_seq ?_
  refine W_reg (by kernel_rfl) ?_
  refine wla rfl rfl (q_assign (v := (i64 0)) rfl rfl) ?_
  refine wl_nil ?_
  refine W_th ?_
  refine W_seq ?_
  refine W_seq ?_
  refine W_reg (by kernel_rfl) ?_
  refine wla rfl rfl (q_move (v := (i64 a0t)) rfl rfl) ?_
  obtain ⟨r1, hr1, H⟩ := Option.bind_eq_some_iff.1 H
  refine wls rfl rfl (stp_call (vs := [(i64 a0t)]) Try.func48 rfl rfl rfl (ar1 rfl) (shamir_threshold_calls a0t  r1 _  hr1) ?_)
  rintro _ w1 ⟨rfl, x1⟩
  refine ⟨_, rfl, ?_⟩
  have e2 := hE.trans x1
  refine wla rfl rfl (q_not rfl rfl) ?_
  refine wlb rfl rfl (q_move (v := (.bool ((!r1)))) rfl rfl) (fun hb3 => ?_) (fun hb3 => ?_)
  · replace H := (if_pos hb3).symm.trans H
    refine wlk rfl rfl ?_
    refine wlk rfl rfl ?_
    refine wla rfl rfl (q_pick_t (v := (.bool true)) rfl rfl rfl) ?_
    refine wl_nil ?_
    refine W_th ?_
    refine W_cond true rfl rfl (fun _ => ?_) (fun hb => by cases hb)
    refine W_seq ?_
    refine W_reg (by kernel_rfl) ?_
    refine wla rfl rfl (q_assign (v := (i64 0)) rfl rfl) ?_
    refine wl_nil ?_
    refine W_th ?_
    refine W_ret ?_
    refine th_r ?_
    obtain rfl := Option.some.inj H
    refine rt1 (i64 0) rfl rfl rfl rfl ?_
    exact ⟨rfl, e2⟩
  · replace H := (if_neg (ne_true_of_eq_false hb3)).symm.trans H
    refine wla rfl rfl (q_move (v := (i64 a1size)) rfl rfl) ?_
    refine wla rfl rfl (q_ltI rfl rfl rfl) ?_
    refine wla rfl rfl (q_pick_f (v := (.bool ((decide (a1size < 0))))) rfl rfl rfl) ?_
    refine wl_nil ?_
    refine W_th ?_
    refine W_cond _ rfl rfl (fun hb4 => ?_) (fun hb4 => ?_)
    · replace H := (if_pos (of_decide_eq_true hb4)).symm.trans H
      refine W_seq ?_
      refine W_reg (by kernel_rfl) ?_
      refine wla rfl rfl (q_assign (v := (i64 0)) rfl rfl) ?_
      refine wl_nil ?_
      refine W_th ?_
      refine W_ret ?_
      refine th_r ?_
      obtain rfl := Option.some.inj H
      refine rt1 (i64 0) rfl rfl rfl rfl ?_
      exact ⟨rfl, e2⟩
    · replace H := (if_neg (of_decide_eq_false hb4)).symm.trans H
      refine W_skip ?_
      refine W_th ?_
      refine W_seq ?_
      refine W_reg (by kernel_rfl) ?_
      refine wla rfl rfl (q_move (v := (i64 a0t)) rfl rfl) ?_
      refine wla rfl rfl (q_subI rfl rfl rfl) ?_
      refine wla rfl rfl (q_move (v := (i64 a1size)) rfl rfl) ?_
      refine wla rfl rfl (q_mulI rfl rfl rfl) ?_
      refine wla rfl rfl (q_assign (v := (i64 ((wI ((wI (a0t - 1)) * a1size))))) rfl rfl) ?_
      refine wl_nil ?_
      refine W_th ?_
      refine W_ret ?_
      obtain rfl := Option.some.inj H
      refine rt1 (i64 ((wI ((wI (a0t - 1)) * a1size)))) rfl rfl rfl rfl ?_
      exact ⟨rfl, e2⟩

/-! largesse/shamir.check -/
noncomputable def shamir_check (a0f : Bool) (a1t : Int) (a2secret : List UInt8) (a3mask : List UInt8) (a4xs : List UInt8) : Option Int :=
(if (!a0f) = true then some 1
else
((shamir_threshold a1t).bind fun r2 =>
(if (!r2) = true then some 2
else
((slices_Contains_sbytebyte a4xs (0 : UInt8)).bind fun r5 =>
(if r5 = true then some 2
else
((shamir_MaskSize a1t (a2secret.length : Int)).bind fun r8 =>
(if (a3mask.length : Int) = r8 then some 0
else some 3)))))))
set_option maxRecDepth 100000 in
set_option maxHeartbeats 8000000 in
theorem shamir_check_calls (a0f : Bool) (a1t : Int) (a2secret : List UInt8) (a3mask : List UInt8) (a4xs : List UInt8) (p0 : Value) (p2 : Value) (p3 : Value) (p4 : Value) (r : Int) (w0 : World) (hp0 : Fd w0 [] p0 a0f) (hp2 : By w0 [] p2 a2secret) (hp3 : By w0 [] p3 a3mask) (hp4 : By w0 [] p4 a4xs) (H : shamir_check a0f a1t a2secret a3mask a4xs = some r) :
    Calls Try.prog 46 [p0, (i64 a1t), p2, p3, p4].toArray w0 (fun e w' => e = .returned (i64 r) ∧ Ext w0 w') := by
  have hE : Ext w0 w0 := Ext.refl w0
  unfold shamir_check at H
  refine calls_W (n := 30) Try.func46 rfl rfl rfl ?_
  refine W_seq ?_
  refine W_reg (by kernel_rfl) ?_
  refine wla rfl rfl (q_assign (v := (i64 0)) rfl rfl) ?_
  refine wl_nil ?_
  refine W_th ?_
  refine W_seq ?_
  refine W_block ?_
  refine W_seq ?_
  refine W_reg (by kernel_rfl) ?_
  refine wla rfl rfl (q_move (v := p0) rfl rfl) ?_
  refine wla rfl rfl (q_eqF rfl rfl rfl rfl (hp0.lift (Lift.ext hE _))) ?_
  refine wla rfl rfl (q_assign (v := (.bool ((!a0f)))) rfl rfl) ?_
  refine wl_nil ?_
  refine W_th ?_
  refine W_cond _ rfl rfl (fun hb1 => ?_) (fun hb1 => ?_)
  · replace H := (if_pos hb1).symm.trans H
    refine W_seq ?_
    refine W_reg (by kernel_rfl) ?_
    refine wla rfl rfl (q_assign (v := (i64 1)) rfl rfl) ?_
    refine wl_nil ?_
    refine W_th ?_
    refine W_ret ?_
    refine bk_r ?_
    refine th_r ?_
    obtain rfl := Option.some.inj H
    refine rt1 (i64 1) rfl rfl rfl rfl ?_
    exact ⟨rfl, hE⟩
  · replace H := (if_neg (ne_true_of_eq_false hb1)).symm.trans H
    refine W_seq ?_
    refine W_reg (by kernel_rfl) ?_
    refine wla rfl rfl (q_move (v := (i64 a1t)) rfl rfl) ?_
    obtain ⟨r2, hr2, H⟩ := Option.bind_eq_some_iff.1 H
    refine wls rfl rfl (stp_call (vs := [(i64 a1t)]) Try.func48 rfl rfl rfl (ar1 rfl) (shamir_threshold_calls a1t  r2 _  hr2) ?_)
    rintro _ w2 ⟨rfl, x2⟩
    refine ⟨_, rfl, ?_⟩
    have e3 := hE.trans x2
    refine wla rfl rfl (q_not rfl rfl) ?_
    refine wlb rfl rfl (q_move (v := (.bool ((!r2)))) rfl rfl) (fun hb4 => ?_) (fun hb4 => ?_)
    · replace H := (if_pos hb4).symm.trans H
      refine wlk rfl rfl ?_
      refine wlk rfl rfl ?_
      refine wla rfl rfl (q_pick_t (v := (.bool true)) rfl rfl rfl) ?_
      refine wla rfl rfl (q_assign (v := (.bool true)) rfl rfl) ?_
      refine wl_nil ?_
      refine W_th ?_
      refine W_cond true rfl rfl (fun _ => ?_) (fun hb => by cases hb)
      refine W_seq ?_
      refine W_reg (by kernel_rfl) ?_
      refine wla rfl rfl (q_assign (v := (i64 2)) rfl rfl) ?_
      refine wl_nil ?_
      refine W_th ?_
      refine W_ret ?_
      refine bk_r ?_
      refine th_r ?_
      obtain rfl := Option.some.inj H
      refine rt1 (i64 2) rfl rfl rfl rfl ?_
      exact ⟨rfl, e3⟩
    · replace H := (if_neg (ne_true_of_eq_false hb4)).symm.trans H
      refine wla rfl rfl (q_move (v := p4) rfl rfl) ?_
      obtain ⟨r5, hr5, H⟩ := Option.bind_eq_some_iff.1 H
      refine wls rfl rfl (stp_call (vs := [p4, (u8 0)]) Try.func65 rfl rfl rfl (ar2 rfl (cst8 (0 : UInt8) rfl)) (slices_Contains_sbytebyte_calls a4xs (0 : UInt8) p4 r5 _ (hp4.lift (Lift.ext e3 _)) hr5) ?_)
      rintro _ w5 ⟨rfl, x5⟩
      refine ⟨_, rfl, ?_⟩
      have e6 := e3.trans x5
      refine wla rfl rfl (q_pick_f (v := (.bool r5)) rfl rfl rfl) ?_
      refine wla rfl rfl (q_assign (v := (.bool r5)) rfl rfl) ?_
      refine wl_nil ?_
      refine W_th ?_
      refine W_cond _ rfl rfl (fun hb7 => ?_) (fun hb7 => ?_)
      · replace H := (if_pos hb7).symm.trans H
        refine W_seq ?_
        refine W_reg (by kernel_rfl) ?_
        refine wla rfl rfl (q_assign (v := (i64 2)) rfl rfl) ?_
        refine wl_nil ?_
        refine W_th ?_
        refine W_ret ?_
        refine bk_r ?_
        refine th_r ?_
        obtain rfl := Option.some.inj H
        refine rt1 (i64 2) rfl rfl rfl rfl ?_
        exact ⟨rfl, e6⟩
      · replace H := (if_neg (ne_true_of_eq_false hb7)).symm.trans H
        refine W_seq ?_
        refine W_reg (by kernel_rfl) ?_
        refine wla rfl rfl (q_move (v := p3) rfl rfl) ?_
        refine wla rfl rfl (q_len rfl T22.sl rfl (hp3.lift (Lift.ext e6 _))) ?_
        refine wla rfl rfl (q_move (v := (i64 a1t)) rfl rfl) ?_
        refine wla rfl rfl (q_move (v := p2) rfl rfl) ?_
        refine wla rfl rfl (q_len rfl T22.sl rfl (hp2.lift (Lift.ext e6 _))) ?_
        obtain ⟨r8, hr8, H⟩ := Option.bind_eq_some_iff.1 H
        refine wls rfl rfl (stp_call (vs := [(i64 a1t), (i64 ((a2secret.length : Int)))]) Try.func20 rfl rfl rfl (ar2 rfl rfl) (shamir_MaskSize_calls a1t (a2secret.length : Int)  r8 _  hr8) ?_)
        rintro _ w8 ⟨rfl, x8⟩
        refine ⟨_, rfl, ?_⟩
        have e9 := e6.trans x8
        refine wla rfl rfl (q_neI rfl rfl rfl) ?_
        refine wla rfl rfl (q_assign (v := (.bool ((!decide ((a3mask.length : Int) = r8))))) rfl rfl) ?_
        refine wl_nil ?_
        refine W_th ?_
        refine W_cond _ rfl rfl (fun hb10 => ?_) (fun hb10 => ?_)
        · replace H := (if_neg (ndec_t hb10)).symm.trans H
          refine W_seq ?_
          refine W_reg (by kernel_rfl) ?_
          refine wla rfl rfl (q_assign (v := (i64 3)) rfl rfl) ?_
          refine wl_nil ?_
          refine W_th ?_
          refine W_ret ?_
          refine bk_r ?_
          refine th_r ?_
          obtain rfl := Option.some.inj H
          refine rt1 (i64 3) rfl rfl rfl rfl ?_
          exact ⟨rfl, e9⟩
        · replace H := (if_pos (ndec_f hb10)).symm.trans H
          refine W_skip ?_
          refine bk_n ?_
          refine W_th ?_
          refine W_seq ?_
          refine W_reg (by kernel_rfl) ?_
          refine wla rfl rfl (q_assign (v := (i64 0)) rfl rfl) ?_
          refine wl_nil ?_
          refine W_th ?_
          refine W_ret ?_
          obtain rfl := Option.some.inj H
          refine rt1 (i64 0) rfl rfl rfl rfl ?_
          exact ⟨rfl, e9⟩

/-! largesse/shamir.share -/
noncomputable def shamir_share (a0f : Bool) (a1secret : List UInt8) (a2mask : List UInt8) (a3x : UInt8) : Option (List UInt8) :=
((makeL ((a1secret.length : Int)) (0 : UInt8)).bind fun c1 =>
((iterC (fun s3 : List UInt8 × Int =>
(if 0 ≤ s3.2 then
(if 0 < (a1secret.length : Int) then
((subL a2mask s3.2 ((wI (s3.2 + (a1secret.length : Int))))).bind fun c7 =>
((field_Sum a0f c7 a3x s3.1).bind fun r8 => some (.inl (r8, (wI (s3.2 - (a1secret.length : Int)))))))
else some (.inr s3.1))
else some (.inr s3.1))) (c1, (wI ((a2mask.length : Int) - (a1secret.length : Int))))).bind fun x3 =>
((field_Sum a0f a1secret a3x x3).bind fun r12 => some r12)))
set_option maxRecDepth 100000 in
set_option maxHeartbeats 8000000 in
theorem shamir_share_calls (a0f : Bool) (a1secret : List UInt8) (a2mask : List UInt8) (a3x : UInt8) (p0 : Value) (p1 : Value) (p2 : Value) (r : List UInt8) (w0 : World) (hp0 : Fd w0 [] p0 a0f) (hp1 : By w0 [] p1 a1secret) (hp2 : By w0 [] p2 a2mask) (H : shamir_share a0f a1secret a2mask a3x = some r) :
    Calls Try.prog 47 [p0, p1, p2, (u8 a3x)].toArray w0 (fun e w' => ∃ u0 : Value, e = .returned u0 ∧ Ext w0 w' ∧ Nw w0 u0 ∧ OwK (Sc u8) w' [] 5 u0 r) := by
  have hE : Ext w0 w0 := Ext.refl w0
  unfold shamir_share at H
  refine calls_W (n := 44) Try.func47 rfl rfl rfl ?_
  refine W_seq ?_
  refine W_reg (by kernel_rfl) ?_
  refine wla rfl rfl (q_assign (v := (.slice none 0 0)) rfl rfl) ?_
  refine wl_nil ?_
  refine W_th ?_
  refine W_seq ?_
  refine W_reg (by kernel_rfl) ?_
  refine wla rfl rfl (q_move (v := p1) rfl rfl) ?_
  refine wla rfl rfl (q_len rfl T22.sl rfl (hp1.lift (Lift.ext hE _))) ?_
  refine wla rfl rfl (q_assign (v := (i64 ((a1secret.length : Int)))) rfl rfl) ?_
  refine wl_nil ?_
  refine W_th ?_
  refine W_seq ?_
  refine W_reg (by kernel_rfl) ?_
  refine wla rfl rfl (q_move (v := (i64 ((a1secret.length : Int)))) rfl rfl) ?_
  obtain ⟨c1, hc1, H⟩ := Option.bind_eq_some_iff.1 H
  refine wls rfl rfl (stp_make (L := []) (R := (Sc u8)) rfl T22 rfl rfl hc1 (fun _ _ => rfl) ?_)
  intro v1 w1 o1 n1 g1 l1
  have x1 := grown_ext g1
  have i1 : By w1 [] v1 c1 := OwK.slk (Sc.stab _) _ o1 (fun k hk => (Old.nil _) k (n1 k hk)) (fun _ h => h.2)
  have e2 := hE.trans x1
  refine wla rfl rfl (q_assign (v := v1) rfl rfl) ?_
  refine wl_nil ?_
  refine W_th ?_
  refine W_seq ?_
  refine W_seq ?_
  refine W_reg (by kernel_rfl) ?_
  refine wla rfl rfl (q_move (v := p2) rfl rfl) ?_
  refine wla rfl rfl (q_len rfl T22.sl rfl (hp2.lift (Lift.ext e2 _))) ?_
  refine wla rfl rfl (q_move (v := (i64 ((a1secret.length : Int)))) rfl rfl) ?_
  refine wla rfl rfl (q_subI rfl rfl rfl) ?_
  refine wla rfl rfl (q_assign (v := (i64 ((wI ((a2mask.length : Int) - (a1secret.length : Int)))))) rfl rfl) ?_
  refine wl_nil ?_
  refine W_th ?_
  obtain ⟨x3, G3, H⟩ := Option.bind_eq_some_iff.1 H
  refine W_mid (fun f w => ∃ v10_15 : Value, f 0 = p0 ∧ f 1 = p1 ∧ f 3 = (u8 a3x) ∧ f 10 = v10_15 ∧ f 44 = undef ∧ Ext w0 w ∧ By w [] v10_15 x3) ?_ ?_
  · refine W_block ?_
    refine W_loop (fun s3 f w => ∃ v10_10 : Value, f 0 = p0 ∧ f 1 = p1 ∧ f 2 = p2 ∧ f 3 = (u8 a3x) ∧ f 9 = (i64 ((a1secret.length : Int))) ∧ f 10 = v10_10 ∧ f 11 = (i64 s3.2) ∧ f 44 = undef ∧ Ext w0 w ∧ By w [] v10_10 s3.1) G3 ?_ ?_
    · exact ⟨v1, rfl, rfl, rfl, rfl, rfl, rfl, rfl, rfl, e2, i1⟩
    · rintro s3 _ _ w4 ⟨v10_4, s0_4, s1_4, s2_4, s3_4, s9_4, s10_4, s11_4, s44_4, hE4, i0_4⟩ H3 hr3
      refine W_seq ?_
      refine W_seq ?_
      refine W_reg (by kernel_rfl) ?_
      refine wla rfl rfl (q_move (v := (i64 s3.2)) rfl s11_4) ?_
      refine wla rfl rfl (q_geI rfl rfl rfl) ?_
      refine wlb rfl rfl (q_move (v := (.bool ((decide (0 ≤ s3.2))))) rfl rfl) (fun hb5 => ?_) (fun hb5 => ?_)
      · replace H3 := (if_pos (of_decide_eq_true hb5)).symm.trans H3
        refine wla rfl rfl (q_move (v := (i64 ((a1secret.length : Int)))) rfl s9_4) ?_
        refine wla rfl rfl (q_gtI rfl rfl rfl) ?_
        refine wla rfl rfl (q_pick_t (v := (.bool ((decide (0 < (a1secret.length : Int)))))) rfl rfl rfl) ?_
        refine wl_nil ?_
        refine W_th ?_
        refine W_cond _ rfl rfl (fun hb6 => ?_) (fun hb6 => ?_)
        · replace H3 := (if_pos (of_decide_eq_true hb6)).symm.trans H3
          refine W_skip ?_
          refine W_th ?_
          refine W_seq ?_
          refine W_block ?_
          refine W_reg (by kernel_rfl) ?_
          refine wla rfl rfl (q_move (v := p0) rfl s0_4) ?_
          refine wla rfl rfl (q_move (v := p2) rfl s2_4) ?_
          refine wla rfl rfl (q_move (v := (i64 s3.2)) rfl s11_4) ?_
          refine wla rfl rfl (q_move (v := (i64 s3.2)) rfl s11_4) ?_
          refine wla rfl rfl (q_move (v := (i64 ((a1secret.length : Int)))) rfl s9_4) ?_
          refine wla rfl rfl (q_addI rfl rfl rfl) ?_
          obtain ⟨c7, hc7, H3⟩ := Option.bind_eq_some_iff.1 H3
          refine wla rfl rfl (q_slice (a := s3.2) (b := (wI (s3.2 + (a1secret.length : Int)))) rfl T22 rfl (hp2.lift (Lift.ext hE4 _)) rfl rfl hc7) ?_
          refine wla rfl rfl (q_move (v := (u8 a3x)) rfl s3_4) ?_
          refine wla rfl rfl (q_move (v := v10_4) rfl s10_4) ?_
          obtain ⟨r8, hr8, H3⟩ := Option.bind_eq_some_iff.1 H3
          refine wls rfl rfl (stp_call (vs := [p0, (subV p2 (s3.2 : Int).toNat ((wI (s3.2 + (a1secret.length : Int))) : Int).toNat), (u8 a3x), v10_4]) Try.func43 rfl rfl rfl (ar4 rfl rfl rfl rfl) (field_Sum_calls a0f c7 a3x s3.1 p0 (subV p2 (s3.2 : Int).toNat ((wI (s3.2 + (a1secret.length : Int))) : Int).toNat) v10_4 r8 _ (hp0.lift (Lift.ext hE4 _)) (SlK.cut (hp2.lift (Lift.ext hE4 _)) hc7) (i0_4.lift (Lift.sub (fun _ _ => trivial))) hr8) ?_)
          rintro _ w8 ⟨v8, rfl, x8, n8_0, o8_0⟩
          refine ⟨_, rfl, ?_⟩
          have i8_0 : By w8 [] v8 r8 := OwK.slk (Sc.stab _) _ (OwK.scal o8_0 (v8 :: [])) (fun k hk => (Old.nil _) k (n8_0 k hk)) (fun _ h => h.2)
          replace i0_4 := i0_4.lift (Lift.ext x8 _)
          have e9 := hE4.trans x8
          refine wla rfl rfl (q_assign (v := v8) rfl rfl) ?_
          refine wl_nil ?_
          refine bk_n ?_
          refine W_th ?_
          refine W_reg (by kernel_rfl) ?_
          refine wla rfl rfl (q_move (v := (i64 s3.2)) rfl s11_4) ?_
          refine wla rfl rfl (q_move (v := (i64 ((a1secret.length : Int)))) rfl s9_4) ?_
          refine wla rfl rfl (q_subI rfl rfl rfl) ?_
          refine wla rfl rfl (q_assign (v := (i64 ((wI (s3.2 - (a1secret.length : Int)))))) rfl rfl) ?_
          refine wl_nil ?_
          obtain rfl := Option.some.inj H3
          exact ⟨_, rfl, v8, s0_4, s1_4, s2_4, s3_4, s9_4, rfl, rfl, s44_4, e9, i8_0⟩
        · replace H3 := (if_neg (of_decide_eq_false hb6)).symm.trans H3
          refine W_exit ?_
          refine th_x ?_
          obtain rfl := Option.some.inj H3
          obtain rfl := hr3 _ rfl
          refine th_x ?_
          refine bk_x ?_
          exact ⟨v10_4, s0_4, s1_4, s3_4, s10_4, s44_4, hE4, i0_4⟩
      · replace H3 := (if_neg (of_decide_eq_false hb5)).symm.trans H3
        refine wlk rfl rfl ?_
        refine wlk rfl rfl ?_
        refine wla rfl rfl (q_pick_f (v := (.bool false)) rfl rfl rfl) ?_
        refine wl_nil ?_
        refine W_th ?_
        refine W_cond false rfl rfl (fun hb => by cases hb) (fun _ => ?_)
        refine W_exit ?_
        refine th_x ?_
        obtain rfl := Option.some.inj H3
        obtain rfl := hr3 _ rfl
        refine th_x ?_
        refine bk_x ?_
        exact ⟨v10_4, s0_4, s1_4, s3_4, s10_4, s44_4, hE4, i0_4⟩
  · rintro _ w11 ⟨v10_11, s0_11, s1_11, s3_11, s10_11, s44_11, hE11, i0_11⟩
    refine W_th ?_
    refine W_seq ?_
    refine W_reg (by kernel_rfl) ?_
    refine wla rfl rfl (q_move (v := p0) rfl s0_11) ?_
    refine wla rfl rfl (q_move (v := p1) rfl s1_11) ?_
    refine wla rfl rfl (q_move (v := (u8 a3x)) rfl s3_11) ?_
    refine wla rfl rfl (q_move (v := v10_11) rfl s10_11) ?_
    obtain ⟨r12, hr12, H⟩ := Option.bind_eq_some_iff.1 H
    refine wls rfl rfl (stp_call (vs := [p0, p1, (u8 a3x), v10_11]) Try.func43 rfl rfl rfl (ar4 rfl rfl rfl rfl) (field_Sum_calls a0f a1secret a3x x3 p0 p1 v10_11 r12 _ (hp0.lift (Lift.ext hE11 _)) (hp1.lift (Lift.ext hE11 _)) (i0_11.lift (Lift.sub (fun _ _ => trivial))) hr12) ?_)
    rintro _ w12 ⟨v12, rfl, x12, n12_0, o12_0⟩
    refine ⟨_, rfl, ?_⟩
    have o12 : OwK (Sc u8) w12 (v12 :: []) 5 v12 r12 := OwK.scal o12_0 _
    replace i0_11 := i0_11.lift (Lift.call _ x12 n12_0)
    have n14 := Nw.ext hE11 n12_0
    have e13 := hE11.trans x12
    refine wla rfl rfl (q_assign (v := v12) rfl rfl) ?_
    refine wl_nil ?_
    refine W_th ?_
    refine W_ret ?_
    obtain rfl := Option.some.inj H
    refine rt1 v12 rfl rfl rfl s44_11 ?_
    exact ⟨v12, rfl, e13, n14, (o12.weak (Sc.stab _) (fun _ _ => trivial))⟩

/-! largesse/shamir.Share -/
noncomputable def shamir_Share (a0f : Bool) (a1t : Int) (a2secret : List UInt8) (a3mask : List UInt8) (a4x : UInt8) : Option (List UInt8 × Int) :=
((shamir_check a0f a1t a2secret a3mask ([a4x] : List UInt8)).bind fun r3 =>
(if r3 = 0 then
((shamir_share a0f a2secret a3mask a4x).bind fun r6 => some (r6, 0))
else some (([] : List UInt8), r3)))
set_option maxRecDepth 100000 in
set_option maxHeartbeats 8000000 in
theorem shamir_Share_calls (a0f : Bool) (a1t : Int) (a2secret : List UInt8) (a3mask : List UInt8) (a4x : UInt8) (p0 : Value) (p2 : Value) (p3 : Value) (r : List UInt8 × Int) (w0 : World) (hp0 : Fd w0 [] p0 a0f) (hp2 : By w0 [] p2 a2secret) (hp3 : By w0 [] p3 a3mask) (H : shamir_Share a0f a1t a2secret a3mask a4x = some r) :
    Calls Try.prog 21 [p0, (i64 a1t), p2, p3, (u8 a4x)].toArray w0 (fun e w' => ∃ u0 : Value, e = .returned (.tuple #[u0, (i64 r.2)]) ∧ Ext w0 w' ∧ Nw w0 u0 ∧ OwK (Sc u8) w' [] 5 u0 r.1) := by
  have hE : Ext w0 w0 := Ext.refl w0
  unfold shamir_Share at H
  refine calls_W (n := 28) Try.func21 rfl rfl rfl ?_
  refine W_seq ?_
  refine W_reg (by kernel_rfl) ?_
  refine wla rfl rfl (q_assign (v := (.slice none 0 0)) rfl rfl) ?_
  refine wla rfl rfl (q_assign (v := (i64 0)) rfl rfl) ?_
  refine wl_nil ?_
  refine W_th ?_
  refine W_seq ?_
  refine W_seq ?_
  refine W_reg (by kernel_rfl) ?_
  refine wla rfl rfl (q_move (v := p0) rfl rfl) ?_
  refine wla rfl rfl (q_move (v := (i64 a1t)) rfl rfl) ?_
  refine wla rfl rfl (q_move (v := p2) rfl rfl) ?_
  refine wla rfl rfl (q_move (v := p3) rfl rfl) ?_
  refine wla rfl rfl (q_move (v := (u8 a4x)) rfl rfl) ?_
  refine wls rfl rfl (stp_lit (L := []) (R := (Sc u8)) [(u8 a4x)] ([a4x] : List UInt8) rfl T22 rfl (by exact ⟨rfl, rfl, trivial⟩) rfl (litC u8 (oneC_u8) (us := [(u8 a4x)]) (l := ([a4x] : List UInt8)) rfl) rfl (litS u8 (us := [(u8 a4x)]) (l := ([a4x] : List UInt8)) rfl) ?_)
  intro v1 w1 o1 n1 g1 l1
  have x1 := grown_ext g1
  have i1 : By w1 [] v1 (([a4x] : List UInt8)) := OwK.slk (Sc.stab _) _ o1 (fun k hk => (Old.nil _) k (n1 k hk)) (fun _ h => h.2)
  have e2 := hE.trans x1
  obtain ⟨r3, hr3, H⟩ := Option.bind_eq_some_iff.1 H
  refine wls rfl rfl (stp_call (vs := [p0, (i64 a1t), p2, p3, v1]) Try.func46 rfl rfl rfl (ar5 rfl rfl rfl rfl rfl) (shamir_check_calls a0f a1t a2secret a3mask ([a4x] : List UInt8) p0 p2 p3 v1 r3 _ (hp0.lift (Lift.ext e2 _)) (hp2.lift (Lift.ext e2 _)) (hp3.lift (Lift.ext e2 _)) (i1.lift (Lift.sub (fun _ _ => trivial))) hr3) ?_)
  rintro _ w3 ⟨rfl, x3⟩
  refine ⟨_, rfl, ?_⟩
  replace i1 := i1.lift (Lift.ext x3 _)
  have e4 := e2.trans x3
  refine wla rfl rfl (q_assign (v := (i64 r3)) rfl rfl) ?_
  refine wl_nil ?_
  refine W_th ?_
  refine W_seq ?_
  refine W_reg (by kernel_rfl) ?_
  refine wla rfl rfl (q_move (v := (i64 r3)) rfl rfl) ?_
  refine wla rfl rfl (q_neI rfl rfl rfl) ?_
  refine wl_nil ?_
  refine W_th ?_
  refine W_cond _ rfl rfl (fun hb5 => ?_) (fun hb5 => ?_)
  · replace H := (if_neg (ndec_t hb5)).symm.trans H
    refine W_seq ?_
    refine W_reg (by kernel_rfl) ?_
    refine wla rfl rfl (q_move (v := (i64 r3)) rfl rfl) ?_
    refine wla rfl rfl (q_assign (v := (.slice none 0 0)) rfl rfl) ?_
    refine wla rfl rfl (q_assign (v := (i64 r3)) rfl rfl) ?_
    refine wl_nil ?_
    refine W_th ?_
    refine W_ret ?_
    refine th_r ?_
    obtain rfl := Option.some.inj H
    refine rt2 (.slice none 0 0) (i64 r3) rfl rfl rfl rfl rfl rfl ?_
    exact ⟨(.slice none 0 0), rfl, e4, Nw.nil _, (OwK.nil _ _ _ _)⟩
  · replace H := (if_pos (ndec_f hb5)).symm.trans H
    refine W_skip ?_
    refine W_th ?_
    refine W_seq ?_
    refine W_reg (by kernel_rfl) ?_
    refine wla rfl rfl (q_move (v := p0) rfl rfl) ?_
    refine wla rfl rfl (q_move (v := p2) rfl rfl) ?_
    refine wla rfl rfl (q_move (v := p3) rfl rfl) ?_
    refine wla rfl rfl (q_move (v := (u8 a4x)) rfl rfl) ?_
    obtain ⟨r6, hr6, H⟩ := Option.bind_eq_some_iff.1 H
    refine wls rfl rfl (stp_call (vs := [p0, p2, p3, (u8 a4x)]) Try.func47 rfl rfl rfl (ar4 rfl rfl rfl rfl) (shamir_share_calls a0f a2secret a3mask a4x p0 p2 p3 r6 _ (hp0.lift (Lift.ext e4 _)) (hp2.lift (Lift.ext e4 _)) (hp3.lift (Lift.ext e4 _)) hr6) ?_)
    rintro _ w6 ⟨v6, rfl, x6, n6_0, o6_0⟩
    refine ⟨_, rfl, ?_⟩
    have o6 : OwK (Sc u8) w6 (v6 :: []) 5 v6 r6 := OwK.scal o6_0 _
    replace i1 := i1.lift (Lift.call _ x6 n6_0)
    have n8 := Nw.ext e4 n6_0
    have e7 := e4.trans x6
    refine wla rfl rfl (q_assign (v := v6) rfl rfl) ?_
    refine wla rfl rfl (q_assign (v := (i64 0)) rfl rfl) ?_
    refine wl_nil ?_
    refine W_th ?_
    refine W_ret ?_
    obtain rfl := Option.some.inj H
    refine rt2 v6 (i64 0) rfl rfl rfl rfl rfl rfl ?_
    exact ⟨v6, rfl, e7, n8, (o6.weak (Sc.stab _) (fun _ _ => trivial))⟩

/-! largesse/shamir.Split -/
noncomputable def shamir_Split (a0f : Bool) (a1t : Int) (a2secret : List UInt8) (a3mask : List UInt8) (a4xs : List UInt8) : Option (List (List UInt8) × Int) :=
((shamir_check a0f a1t a2secret a3mask a4xs).bind fun r1 =>
(if r1 = 0 then
((iterC (fun s4 : List (List UInt8) × Int =>
(if s4.2 < (a4xs.length : Int) then
((idx a4xs s4.2).bind fun c7 =>
((shamir_share a0f a2secret a3mask c7).bind fun r8 =>
((appL s4.1 (([r8] : List (List UInt8)))).bind fun c12 => some (.inl (c12, (wI (s4.2 + 1)))))))
else some (.inr s4.1))) (([] : List (List UInt8)), 0)).bind fun x4 => some (x4, 0))
else some (([] : List (List UInt8)), r1)))
set_option maxRecDepth 100000 in
set_option maxHeartbeats 8000000 in
theorem shamir_Split_calls (a0f : Bool) (a1t : Int) (a2secret : List UInt8) (a3mask : List UInt8) (a4xs : List UInt8) (p0 : Value) (p2 : Value) (p3 : Value) (p4 : Value) (r : List (List UInt8) × Int) (w0 : World) (L0 : List Value) (hL0 : Old w0 L0) (hp0 : Fd w0 [] p0 a0f) (hp2 : By w0 [] p2 a2secret) (hp3 : By w0 [] p3 a3mask) (hp4 : By w0 [] p4 a4xs) (H : shamir_Split a0f a1t a2secret a3mask a4xs = some r) :
    Calls Try.prog 19 [p0, (i64 a1t), p2, p3, p4].toArray w0 (fun e w' => ∃ u0 : Value, e = .returned (.tuple #[u0, (i64 r.2)]) ∧ Ext w0 w' ∧ Nw w0 u0 ∧ OwK By w' (u0 :: L0) 22 u0 r.1) := by
  have hE : Ext w0 w0 := Ext.refl w0
  unfold shamir_Split at H
  refine calls_W (n := 41) Try.func19 rfl rfl rfl ?_
  refine W_seq ?_
  refine W_reg (by kernel_rfl) ?_
  refine wla rfl rfl (q_assign (v := (.slice none 0 0)) rfl rfl) ?_
  refine wla rfl rfl (q_assign (v := (i64 0)) rfl rfl) ?_
  refine wl_nil ?_
  refine W_th ?_
  refine W_seq ?_
  refine W_seq ?_
  refine W_reg (by kernel_rfl) ?_
  refine wla rfl rfl (q_move (v := p0) rfl rfl) ?_
  refine wla rfl rfl (q_move (v := (i64 a1t)) rfl rfl) ?_
  refine wla rfl rfl (q_move (v := p2) rfl rfl) ?_
  refine wla rfl rfl (q_move (v := p3) rfl rfl) ?_
  refine wla rfl rfl (q_move (v := p4) rfl rfl) ?_
  obtain ⟨r1, hr1, H⟩ := Option.bind_eq_some_iff.1 H
  refine wls rfl rfl (stp_call (vs := [p0, (i64 a1t), p2, p3, p4]) Try.func46 rfl rfl rfl (ar5 rfl rfl rfl rfl rfl) (shamir_check_calls a0f a1t a2secret a3mask a4xs p0 p2 p3 p4 r1 _ (hp0.lift (Lift.ext hE _)) (hp2.lift (Lift.ext hE _)) (hp3.lift (Lift.ext hE _)) (hp4.lift (Lift.ext hE _)) hr1) ?_)
  rintro _ w1 ⟨rfl, x1⟩
  refine ⟨_, rfl, ?_⟩
  have e2 := hE.trans x1
  refine wla rfl rfl (q_assign (v := (i64 r1)) rfl rfl) ?_
  refine wl_nil ?_
  refine W_th ?_
  refine W_seq ?_
  refine W_reg (by kernel_rfl) ?_
  refine wla rfl rfl (q_move (v := (i64 r1)) rfl rfl) ?_
  refine wla rfl rfl (q_neI rfl rfl rfl) ?_
  refine wl_nil ?_
  refine W_th ?_
  refine W_cond _ rfl rfl (fun hb3 => ?_) (fun hb3 => ?_)
  · replace H := (if_neg (ndec_t hb3)).symm.trans H
    refine W_seq ?_
    refine W_reg (by kernel_rfl) ?_
    refine wla rfl rfl (q_move (v := (i64 r1)) rfl rfl) ?_
    refine wla rfl rfl (q_assign (v := (.slice none 0 0)) rfl rfl) ?_
    refine wla rfl rfl (q_assign (v := (i64 r1)) rfl rfl) ?_
    refine wl_nil ?_
    refine W_th ?_
    refine W_ret ?_
    refine th_r ?_
    obtain rfl := Option.some.inj H
    refine rt2 (.slice none 0 0) (i64 r1) rfl rfl rfl rfl rfl rfl ?_
    exact ⟨(.slice none 0 0), rfl, e2, Nw.nil _, (OwK.nil _ _ _ _)⟩
  · replace H := (if_pos (ndec_f hb3)).symm.trans H
    refine W_skip ?_
    refine W_th ?_
    refine W_seq ?_
    refine W_reg (by kernel_rfl) ?_
    refine wla rfl rfl (q_assign (v := (.slice none 0 0)) rfl rfl) ?_
    refine wl_nil ?_
    refine W_th ?_
    refine W_seq ?_
    refine W_seq ?_
    refine W_reg (by kernel_rfl) ?_
    refine wla rfl rfl (q_move (v := p4) rfl rfl) ?_
    refine wla rfl rfl (q_len rfl T22.sl rfl (hp4.lift (Lift.ext e2 _))) ?_
    refine wla rfl rfl (q_move (v := (i64 0)) rfl rfl) ?_
    refine wl_nil ?_
    refine W_th ?_
    obtain ⟨x4, G4, H⟩ := Option.bind_eq_some_iff.1 H
    refine W_mid (fun f w => ∃ v13_17 : Value, f 13 = v13_17 ∧ f 41 = undef ∧ Ext w0 w ∧ OwK By w (v13_17 :: L0) 22 v13_17 x4 ∧ Nw w0 v13_17) ?_ ?_
    · refine W_block ?_
      refine W_loop (fun s4 f w => ∃ v13_15 : Value, f 0 = p0 ∧ f 2 = p2 ∧ f 3 = p3 ∧ f 13 = v13_15 ∧ f 25 = p4 ∧ f 26 = (i64 ((a4xs.length : Int))) ∧ f 27 = (i64 s4.2) ∧ f 41 = undef ∧ Ext w0 w ∧ OwK By w (v13_15 :: L0) 22 v13_15 s4.1 ∧ Nw w0 v13_15) G4 ?_ ?_
      · exact ⟨(.slice none 0 0), rfl, rfl, rfl, rfl, rfl, rfl, rfl, rfl, e2, (OwK.nil _ _ _ _), (Nw.nil _)⟩
      · rintro s4 _ _ w5 ⟨v13_5, s0_5, s2_5, s3_5, s13_5, s25_5, s26_5, s27_5, s41_5, hE5, o0_5, n0_5⟩ H4 hr4
        refine W_seq ?_
        refine W_reg (by kernel_rfl) ?_
        refine wla rfl rfl (q_ltI rfl s27_5 s26_5) ?_
        refine wl_nil ?_
        refine W_th ?_
        refine W_seq ?_
        refine W_cond _ rfl rfl (fun hb6 => ?_) (fun hb6 => ?_)
        · replace H4 := (if_pos (of_decide_eq_true hb6)).symm.trans H4
          refine W_skip ?_
          refine W_th ?_
          refine W_seq ?_
          refine W_block ?_
          refine W_seq ?_
          refine W_reg (by kernel_rfl) ?_
          obtain ⟨c7, hc7, H4⟩ := Option.bind_eq_some_iff.1 H4
          refine wla rfl rfl (q_adr rfl T22 s25_5 s27_5 (hp4.lift (Lift.ext hE5 _)) hc7) ?_
          refine wlq rfl rfl (q_loadS rfl T22 rfl (hp4.lift (Lift.ext hE5 _)) hc7) ?_
          refine wla rfl rfl (q_assign (v := (u8 c7)) rfl rfl) ?_
          refine wl_nil ?_
          refine W_th ?_
          refine W_reg (by kernel_rfl) ?_
          refine wla rfl rfl (q_move (v := v13_5) rfl s13_5) ?_
          refine wla rfl rfl (q_move (v := p0) rfl s0_5) ?_
          refine wla rfl rfl (q_move (v := p2) rfl s2_5) ?_
          refine wla rfl rfl (q_move (v := p3) rfl s3_5) ?_
          refine wla rfl rfl (q_move (v := (u8 c7)) rfl rfl) ?_
          obtain ⟨r8, hr8, H4⟩ := Option.bind_eq_some_iff.1 H4
          refine wls rfl rfl (stp_call (vs := [p0, p2, p3, (u8 c7)]) Try.func47 rfl rfl rfl (ar4 rfl rfl rfl rfl) (shamir_share_calls a0f a2secret a3mask c7 p0 p2 p3 r8 _ (hp0.lift (Lift.ext hE5 _)) (hp2.lift (Lift.ext hE5 _)) (hp3.lift (Lift.ext hE5 _)) hr8) ?_)
          rintro _ w8 ⟨v8, rfl, x8, n8_0, o8_0⟩
          refine ⟨_, rfl, ?_⟩
          have i8_0 : By w8 (v13_5 :: L0) v8 r8 := OwK.slk (Sc.stab _) _ (OwK.scal o8_0 (v8 :: (v13_5 :: L0))) (fun k hk => (Old.cons (hL0.ext hE5) o0_5.lt) k (n8_0 k hk)) (fun _ h => h.2)
          replace o0_5 := o0_5.extL (SlK.stab (Sc.stab _)) x8 (Lift.ext x8 _)
          have e9 := hE5.trans x8
          refine wls rfl rfl (stp_lit (L := (v13_5 :: L0)) (R := By) [v8] ([r8] : List (List UInt8)) rfl T23 rfl (by exact ⟨rfl, rfl, trivial⟩) rfl (LitR.cells (LitR.cons i8_0 LitR.nil) (fun u x h => cells_sl u x h)) rfl (LitR.all (SlK.stab (Sc.stab _)) (LitR.cons i8_0 LitR.nil)) ?_)
          intro v10 w10 o10 n10 g10 l10
          have x10 := grown_ext g10
          have i10 : Rw w10 (v13_5 :: L0) v10 (([r8] : List (List UInt8))) := OwK.slk (SlK.stab (Sc.stab _)) _ o10 (fun k hk => (Old.cons (hL0.ext e9) o0_5.lt) k (n10 k hk)) (fun _ h => h.2)
          replace i8_0 := i8_0.lift (Lift.ext x10 _)
          replace o0_5 := o0_5.extL (SlK.stab (Sc.stab _)) x10 (Lift.ext x10 _)
          have e11 := e9.trans x10
          obtain ⟨c12, hc12, H4⟩ := Option.bind_eq_some_iff.1 H4
          refine wls rfl rfl (stp_append (R := By) (v := v13_5) (u := v10) (SlK.stab (Sc.stab _)) [] (L0) rfl T23 rfl rfl o0_5 i10 (fun _ _ h => h) hc12 oc_sl ?_)
          intro v12 w12 o12 g12 nx12 l12
          replace i8_0 := i8_0.lift l12
          replace i10 := i10.lift l12
          have e13 := e11.grown g12 n0_5
          have n14 := Nw.nxt e11 n0_5 nx12
          refine wla rfl rfl (q_assign (v := v12) rfl rfl) ?_
          refine wl_nil ?_
          refine bk_n ?_
          refine W_th ?_
          refine W_reg (by kernel_rfl) ?_
          refine wla rfl rfl (q_addI rfl s27_5 rfl) ?_
          refine wla rfl rfl (q_move (v := (i64 ((wI (s4.2 + 1))))) rfl rfl) ?_
          refine wl_nil ?_
          obtain rfl := Option.some.inj H4
          exact ⟨_, rfl, v12, s0_5, s2_5, s3_5, rfl, s25_5, s26_5, rfl, s41_5, e13, o12, n14⟩
        · replace H4 := (if_neg (of_decide_eq_false hb6)).symm.trans H4
          refine W_exit ?_
          refine th_x ?_
          obtain rfl := Option.some.inj H4
          obtain rfl := hr4 _ rfl
          refine th_x ?_
          refine bk_x ?_
          exact ⟨v13_5, s13_5, s41_5, hE5, o0_5, n0_5⟩
    · rintro _ w16 ⟨v13_16, s13_16, s41_16, hE16, o0_16, n0_16⟩
      refine W_th ?_
      refine W_seq ?_
      refine W_reg (by kernel_rfl) ?_
      refine wla rfl rfl (q_move (v := v13_16) rfl s13_16) ?_
      refine wla rfl rfl (q_assign (v := v13_16) rfl rfl) ?_
      refine wla rfl rfl (q_assign (v := (i64 0)) rfl rfl) ?_
      refine wl_nil ?_
      refine W_th ?_
      refine W_ret ?_
      obtain rfl := Option.some.inj H
      refine rt2 v13_16 (i64 0) rfl rfl rfl rfl rfl s41_16 ?_
      exact ⟨v13_16, rfl, hE16, n0_16, (o0_16.weak (SlK.stab (Sc.stab _)) (fun _ h => ⟨h.1, h.2⟩))⟩

/-! largesse/shamir.Delta -/
noncomputable def shamir_Delta (a0f : Bool) (a1t : Int) (a2mask : List UInt8) (a3xs : List UInt8) (a4size : Int) : Option (List (List UInt8) × Int) :=
(if (!a0f) = true then some (([] : List (List UInt8)), 1)
else
(if a4size < 0 then some (([] : List (List UInt8)), 2)
else
(if 1048576 < a4size then some (([] : List (List UInt8)), 2)
else
((makeL a4size (0 : UInt8)).bind fun c4 =>
((shamir_Split a0f a1t c4 a2mask a3xs).bind fun r6 => some (r6.1, r6.2))))))
set_option maxRecDepth 100000 in
set_option maxHeartbeats 8000000 in
theorem shamir_Delta_calls (a0f : Bool) (a1t : Int) (a2mask : List UInt8) (a3xs : List UInt8) (a4size : Int) (p0 : Value) (p2 : Value) (p3 : Value) (r : List (List UInt8) × Int) (w0 : World) (L0 : List Value) (hL0 : Old w0 L0) (hp0 : Fd w0 [] p0 a0f) (hp2 : By w0 [] p2 a2mask) (hp3 : By w0 [] p3 a3xs) (H : shamir_Delta a0f a1t a2mask a3xs a4size = some r) :
    Calls Try.prog 25 [p0, (i64 a1t), p2, p3, (i64 a4size)].toArray w0 (fun e w' => ∃ u0 : Value, e = .returned (.tuple #[u0, (i64 r.2)]) ∧ Ext w0 w' ∧ Nw w0 u0 ∧ OwK By w' (u0 :: L0) 22 u0 r.1) := by
  have hE : Ext w0 w0 := Ext.refl w0
  unfold shamir_Delta at H
  refine calls_W (n := 29) Try.func25 rfl rfl rfl ?_
  refine W_seq ?_
  refine W_reg (by kernel_rfl) ?_
  refine wla rfl rfl (q_assign (v := (.slice none 0 0)) rfl rfl) ?_
  refine wla rfl rfl (q_assign (v := (i64 0)) rfl rfl) ?_
  refine wl_nil ?_
  refine W_th ?_
  refine W_seq ?_
  refine W_seq ?_
  refine W_reg (by kernel_rfl) ?_
  refine wla rfl rfl (q_move (v := p0) rfl rfl) ?_
  refine wla rfl rfl (q_eqF rfl rfl rfl rfl (hp0.lift (Lift.ext hE _))) ?_
  refine wl_nil ?_
  refine W_th ?_
  refine W_cond _ rfl rfl (fun hb1 => ?_) (fun hb1 => ?_)
  · replace H := (if_pos hb1).symm.trans H
    refine W_seq ?_
    refine W_reg (by kernel_rfl) ?_
    refine wla rfl rfl (q_assign (v := (.slice none 0 0)) rfl rfl) ?_
    refine wla rfl rfl (q_assign (v := (i64 1)) rfl rfl) ?_
    refine wl_nil ?_
    refine W_th ?_
    refine W_ret ?_
    refine th_r ?_
    obtain rfl := Option.some.inj H
    refine rt2 (.slice none 0 0) (i64 1) rfl rfl rfl rfl rfl rfl ?_
    exact ⟨(.slice none 0 0), rfl, hE, Nw.nil _, (OwK.nil _ _ _ _)⟩
  · replace H := (if_neg (ne_true_of_eq_false hb1)).symm.trans H
    refine W_skip ?_
    refine W_th ?_
    refine W_seq ?_
    refine W_seq ?_
    refine W_reg (by kernel_rfl) ?_
    refine wla rfl rfl (q_move (v := (i64 a4size)) rfl rfl) ?_
    refine wla rfl rfl (q_ltI rfl rfl rfl) ?_
    refine wlb rfl rfl (q_move (v := (.bool ((decide (a4size < 0))))) rfl rfl) (fun hb2 => ?_) (fun hb2 => ?_)
    · replace H := (if_pos (of_decide_eq_true hb2)).symm.trans H
      refine wlk rfl rfl ?_
      refine wlk rfl rfl ?_
      refine wla rfl rfl (q_pick_t (v := (.bool true)) rfl rfl rfl) ?_
      refine wl_nil ?_
      refine W_th ?_
      refine W_cond true rfl rfl (fun _ => ?_) (fun hb => by cases hb)
      refine W_seq ?_
      refine W_reg (by kernel_rfl) ?_
      refine wla rfl rfl (q_assign (v := (.slice none 0 0)) rfl rfl) ?_
      refine wla rfl rfl (q_assign (v := (i64 2)) rfl rfl) ?_
      refine wl_nil ?_
      refine W_th ?_
      refine W_ret ?_
      refine th_r ?_
      obtain rfl := Option.some.inj H
      refine rt2 (.slice none 0 0) (i64 2) rfl rfl rfl rfl rfl rfl ?_
      exact ⟨(.slice none 0 0), rfl, hE, Nw.nil _, (OwK.nil _ _ _ _)⟩
    · replace H := (if_neg (of_decide_eq_false hb2)).symm.trans H
      refine wla rfl rfl (q_move (v := (i64 a4size)) rfl rfl) ?_
      refine wla rfl rfl (q_gtI rfl rfl rfl) ?_
      refine wla rfl rfl (q_pick_f (v := (.bool ((decide (1048576 < a4size))))) rfl rfl rfl) ?_
      refine wl_nil ?_
      refine W_th ?_
      refine W_cond _ rfl rfl (fun hb3 => ?_) (fun hb3 => ?_)
      · replace H := (if_pos (of_decide_eq_true hb3)).symm.trans H
        refine W_seq ?_
        refine W_reg (by kernel_rfl) ?_
        refine wla rfl rfl (q_assign (v := (.slice none 0 0)) rfl rfl) ?_
        refine wla rfl rfl (q_assign (v := (i64 2)) rfl rfl) ?_
        refine wl_nil ?_
        refine W_th ?_
        refine W_ret ?_
        refine th_r ?_
        obtain rfl := Option.some.inj H
        refine rt2 (.slice none 0 0) (i64 2) rfl rfl rfl rfl rfl rfl ?_
        exact ⟨(.slice none 0 0), rfl, hE, Nw.nil _, (OwK.nil _ _ _ _)⟩
      · replace H := (if_neg (of_decide_eq_false hb3)).symm.trans H
        refine W_skip ?_
        refine W_th ?_
        refine W_seq ?_
        refine W_reg (by kernel_rfl) ?_
        refine wla rfl rfl (q_move (v := p0) rfl rfl) ?_
        refine wla rfl rfl (q_move (v := (i64 a1t)) rfl rfl) ?_
        refine wla rfl rfl (q_move (v := (i64 a4size)) rfl rfl) ?_
        obtain ⟨c4, hc4, H⟩ := Option.bind_eq_some_iff.1 H
        refine wls rfl rfl (stp_make (L := (L0)) (R := (Sc u8)) rfl T22 rfl rfl hc4 (fun _ _ => rfl) ?_)
        intro v4 w4 o4 n4 g4 l4
        have x4 := grown_ext g4
        have i4 : By w4 (L0) v4 c4 := OwK.slk (Sc.stab _) _ o4 (fun k hk => (hL0.ext hE) k (n4 k hk)) (fun _ h => h.2)
        have e5 := hE.trans x4
        refine wla rfl rfl (q_move (v := p2) rfl rfl) ?_
        refine wla rfl rfl (q_move (v := p3) rfl rfl) ?_
        obtain ⟨r6, hr6, H⟩ := Option.bind_eq_some_iff.1 H
        refine wls rfl rfl (stp_call (vs := [p0, (i64 a1t), v4, p2, p3]) Try.func19 rfl rfl rfl (ar5 rfl rfl rfl rfl rfl) (shamir_Split_calls a0f a1t c4 a2mask a3xs p0 v4 p2 p3 r6 _ (L0) (hL0.ext e5) (hp0.lift (Lift.ext e5 _)) (i4.lift (Lift.sub (fun _ _ => trivial))) (hp2.lift (Lift.ext e5 _)) (hp3.lift (Lift.ext e5 _)) hr6) ?_)
        rintro _ w6 ⟨v6_0, rfl, x6, n6_0, o6_0⟩
        refine ⟨_, rfl, ?_⟩
        have o6 : OwK By w6 (v6_0 :: (L0)) 22 v6_0 r6.1 := o6_0
        replace i4 := i4.lift (Lift.call _ x6 n6_0)
        have n8 := Nw.ext e5 n6_0
        have e7 := e5.trans x6
        refine wla rfl rfl (q_extract rfl rfl rfl) ?_
        refine wla rfl rfl (q_extract rfl rfl rfl) ?_
        refine wla rfl rfl (q_assign (v := v6_0) rfl rfl) ?_
        refine wla rfl rfl (q_assign (v := (i64 r6.2)) rfl rfl) ?_
        refine wl_nil ?_
        refine W_th ?_
        refine W_ret ?_
        obtain rfl := Option.some.inj H
        refine rt2 v6_0 (i64 r6.2) rfl rfl rfl rfl rfl rfl ?_
        exact ⟨v6_0, rfl, e7, n8, (o6.weak (SlK.stab (Sc.stab _)) (fun _ h => ⟨h.1, h.2⟩))⟩

/-! largesse/shamir.unlike$1 -/
noncomputable def shamir_unlike_1 (a0r : List UInt8) (b0 : List (List UInt8)) : Option Bool :=
((idx b0 0).bind fun c1 => some (!decide ((a0r.length : Int) = (c1.length : Int))))
set_option maxRecDepth 100000 in
set_option maxHeartbeats 8000000 in
theorem shamir_unlike_1_calls (a0r : List UInt8) (b0 : List (List UInt8)) (p0 : Value) (gc0 : Nat) (cv0 : Value) (r : Bool) (w0 : World) (hp0 : By w0 [] p0 a0r) (hcB0 : Blk w0 gc0 23 #[cv0]) (hcv0 : Rw w0 [] cv0 b0) (H : shamir_unlike_1 a0r b0 = some r) :
    Calls Try.prog 63 [p0, (bp gc0)].toArray w0 (fun e w' => e = .returned (.bool r) ∧ Ext w0 w') := by
  have hE : Ext w0 w0 := Ext.refl w0
  unfold shamir_unlike_1 at H
  refine calls_W (n := 11) Try.func63 rfl rfl rfl ?_
  refine W_seq ?_
  refine W_reg (by kernel_rfl) ?_
  refine wla rfl rfl (q_assign (v := (.bool false)) rfl rfl) ?_
  refine wl_nil ?_
  refine W_th ?_
  refine W_seq ?_
  refine W_reg (by kernel_rfl) ?_
  refine wla rfl rfl (q_move (v := p0) rfl rfl) ?_
  refine wla rfl rfl (q_len rfl T22.sl rfl (hp0.lift (Lift.ext hE _))) ?_
  refine wlq rfl rfl (q_loadB (u := cv0) rfl Try.isAgg23 rfl (hcB0.ext hE) rfl) ?_
  obtain ⟨c1, hc1, H⟩ := Option.bind_eq_some_iff.1 H
  refine wla rfl rfl (q_adr rfl T23 rfl rfl (hcv0.lift (Lift.ext hE _)) hc1) ?_
  refine wlq_load rfl rfl rfl T23 rfl hcv0 hc1 hE (fun v2 ha2 => ?_)
  refine wla rfl rfl (q_len rfl T22.sl rfl (ha2.lift (Lift.ext hE _))) ?_
  refine wla rfl rfl (q_neI rfl rfl rfl) ?_
  refine wla rfl rfl (q_assign (v := (.bool ((!decide ((a0r.length : Int) = (c1.length : Int)))))) rfl rfl) ?_
  refine wl_nil ?_
  refine W_th ?_
  refine W_ret ?_
  obtain rfl := Option.some.inj H
  refine rt1 (.bool ((!decide ((a0r.length : Int) = (c1.length : Int))))) rfl rfl rfl rfl ?_
  exact ⟨rfl, hE⟩

/-! largesse/shamir.unlike -/
noncomputable def shamir_unlike (a0l : List (List UInt8)) : Option Bool :=
((lim a0l.length).bind fun lim4 =>
((anyO (fun y4 => shamir_unlike_1 y4 a0l) a0l).bind fun r4 => some r4))
set_option maxRecDepth 100000 in
set_option maxHeartbeats 8000000 in
theorem shamir_unlike_calls (a0l : List (List UInt8)) (p0 : Value) (r : Bool) (w0 : World) (hp0 : Rw w0 [] p0 a0l) (H : shamir_unlike a0l = some r) :
    Calls Try.prog 42 [p0].toArray w0 (fun e w' => e = .returned (.bool r) ∧ Ext w0 w') := by
  have hE : Ext w0 w0 := Ext.refl w0
  unfold shamir_unlike at H
  refine calls_W (n := 6) Try.func42 rfl rfl rfl ?_
  refine W_seq ?_
  refine W_reg (by kernel_rfl) ?_
  refine wls rfl rfl (stp_boxL (v := p0) (cs := #[p0]) [] rfl rfl (cells_sl _ _ (hp0.lift (Lift.ext hE _))) ?_)
  intro g1 w1 o1 n1 g1r l1
  have x1 := grown_ext g1r
  have n3 := Nw.ext hE n1
  have e2 := hE.trans x1
  refine wla rfl rfl (q_assign (v := (.bool false)) rfl rfl) ?_
  refine wl_nil ?_
  refine W_th ?_
  refine W_seq ?_
  refine W_reg (by kernel_rfl) ?_
  refine wlq rfl rfl (q_loadB (u := p0) rfl Try.isAgg23 rfl o1 rfl) ?_
  refine wla rfl rfl (q_mkfuncN (vs := [(bp g1)]) rfl (ar1 rfl)) ?_
  obtain ⟨lim4, hl4, H⟩ := Option.bind_eq_some_iff.1 H
  obtain ⟨r4, hr4, H⟩ := Option.bind_eq_some_iff.1 H
  refine wls rfl rfl (stp_call (vs := [p0, (.func (.func 63) #[] [(bp g1)].toArray)]) Try.func62 rfl rfl rfl (ar2 rfl rfl) (ContainsFunc_rows_calls p0 a0l 63 _ Try.func63 rfl rfl [(bp g1)] (fun y4 => shamir_unlike_1 y4 a0l) r4 _ (hp0.lift (Lift.ext e2 _)) (lim_lt hl4) hr4 (fun y4 _ b w' xE hb u hu => shamir_unlike_1_calls y4 a0l u g1 p0 b w' hu (o1.ext xE) ((hp0.lift (Lift.ext e2 _)).lift (Lift.ext xE _)) hb)) ?_)
  rintro _ w4 ⟨rfl, x4⟩
  refine ⟨_, rfl, ?_⟩
  replace o1 := o1.ext x4
  have e5 := e2.trans x4
  refine wla rfl rfl (q_assign (v := (.bool r4)) rfl rfl) ?_
  refine wl_nil ?_
  refine W_th ?_
  refine W_ret ?_
  obtain rfl := Option.some.inj H
  refine rt1 (.bool r4) rfl rfl rfl rfl ?_
  exact ⟨rfl, e5⟩

/-! largesse/shamir.At -/
noncomputable def shamir_At (a0f : Bool) (a1xs : List UInt8) (a2shares : List (List UInt8)) (a3x : UInt8) : Option (List UInt8 × Int) :=
(if (!a0f) = true then some (([] : List UInt8), 1)
else
(if (a1xs.length : Int) = (a2shares.length : Int) then
((shamir_unlike a2shares).bind fun r3 =>
(if r3 = true then some (([] : List UInt8), 3)
else
((poly_Weights a0f a1xs a3x).bind fun r6 =>
(if r6.2 = 0 then
((idx a2shares 0).bind fun c9 =>
((makeL ((c9.length : Int)) (0 : UInt8)).bind fun c11 =>
((iterC (fun s14 : List UInt8 × Int =>
(if s14.2 < (a2shares.length : Int) then
((idx a2shares s14.2).bind fun c17 =>
((idx r6.1 s14.2).bind fun c19 =>
((field_Sum a0f s14.1 c19 c17).bind fun r20 => some (.inl (r20, (wI (s14.2 + 1)))))))
else some (.inr s14.1))) (c11, 0)).bind fun x14 => some (x14, 0))))
else some (([] : List UInt8), r6.2)))))
else some (([] : List UInt8), 1)))
set_option maxRecDepth 100000 in
set_option maxHeartbeats 8000000 in
theorem shamir_At_calls (a0f : Bool) (a1xs : List UInt8) (a2shares : List (List UInt8)) (a3x : UInt8) (p0 : Value) (p1 : Value) (p2 : Value) (r : List UInt8 × Int) (w0 : World) (hp0 : Fd w0 [] p0 a0f) (hp1 : By w0 [] p1 a1xs) (hp2 : Rw w0 [] p2 a2shares) (H : shamir_At a0f a1xs a2shares a3x = some r) :
    Calls Try.prog 15 [p0, p1, p2, (u8 a3x)].toArray w0 (fun e w' => ∃ u0 : Value, e = .returned (.tuple #[u0, (i64 r.2)]) ∧ Ext w0 w' ∧ Nw w0 u0 ∧ OwK (Sc u8) w' [] 5 u0 r.1) := by
  have hE : Ext w0 w0 := Ext.refl w0
  unfold shamir_At at H
  refine calls_W (n := 60) Try.func15 rfl rfl rfl ?_
  refine W_seq ?_
  refine W_reg (by kernel_rfl) ?_
  refine wla rfl rfl (q_assign (v := (.slice none 0 0)) rfl rfl) ?_
  refine wla rfl rfl (q_assign (v := (i64 0)) rfl rfl) ?_
  refine wl_nil ?_
  refine W_th ?_
  refine W_seq ?_
  refine W_block ?_
  refine W_seq ?_
  refine W_reg (by kernel_rfl) ?_
  refine wla rfl rfl (q_move (v := p0) rfl rfl) ?_
  refine wla rfl rfl (q_eqF rfl rfl rfl rfl (hp0.lift (Lift.ext hE _))) ?_
  refine wlb rfl rfl (q_move (v := (.bool ((!a0f)))) rfl rfl) (fun hb1 => ?_) (fun hb1 => ?_)
  · replace H := (if_pos hb1).symm.trans H
    refine wlk rfl rfl ?_
    refine wlk rfl rfl ?_
    refine wlk rfl rfl ?_
    refine wlk rfl rfl ?_
    refine wlk rfl rfl ?_
    refine wla rfl rfl (q_pick_t (v := (.bool true)) rfl rfl rfl) ?_
    refine wla rfl rfl (q_assign (v := (.bool true)) rfl rfl) ?_
    refine wl_nil ?_
    refine W_th ?_
    refine W_cond true rfl rfl (fun _ => ?_) (fun hb => by cases hb)
    refine W_seq ?_
    refine W_reg (by kernel_rfl) ?_
    refine wla rfl rfl (q_assign (v := (.slice none 0 0)) rfl rfl) ?_
    refine wla rfl rfl (q_assign (v := (i64 1)) rfl rfl) ?_
    refine wl_nil ?_
    refine W_th ?_
    refine W_ret ?_
    refine bk_r ?_
    refine th_r ?_
    obtain rfl := Option.some.inj H
    refine rt2 (.slice none 0 0) (i64 1) rfl rfl rfl rfl rfl rfl ?_
    exact ⟨(.slice none 0 0), rfl, hE, Nw.nil _, (OwK.nil _ _ _ _)⟩
  · replace H := (if_neg (ne_true_of_eq_false hb1)).symm.trans H
    refine wla rfl rfl (q_move (v := p1) rfl rfl) ?_
    refine wla rfl rfl (q_len rfl T22.sl rfl (hp1.lift (Lift.ext hE _))) ?_
    refine wla rfl rfl (q_move (v := p2) rfl rfl) ?_
    refine wla rfl rfl (q_len rfl T23.sl rfl (hp2.lift (Lift.ext hE _))) ?_
    refine wla rfl rfl (q_neI rfl rfl rfl) ?_
    refine wla rfl rfl (q_pick_f (v := (.bool ((!decide ((a1xs.length : Int) = (a2shares.length : Int)))))) rfl rfl rfl) ?_
    refine wla rfl rfl (q_assign (v := (.bool ((!decide ((a1xs.length : Int) = (a2shares.length : Int)))))) rfl rfl) ?_
    refine wl_nil ?_
    refine W_th ?_
    refine W_cond _ rfl rfl (fun hb2 => ?_) (fun hb2 => ?_)
    · replace H := (if_neg (ndec_t hb2)).symm.trans H
      refine W_seq ?_
      refine W_reg (by kernel_rfl) ?_
      refine wla rfl rfl (q_assign (v := (.slice none 0 0)) rfl rfl) ?_
      refine wla rfl rfl (q_assign (v := (i64 1)) rfl rfl) ?_
      refine wl_nil ?_
      refine W_th ?_
      refine W_ret ?_
      refine bk_r ?_
      refine th_r ?_
      obtain rfl := Option.some.inj H
      refine rt2 (.slice none 0 0) (i64 1) rfl rfl rfl rfl rfl rfl ?_
      exact ⟨(.slice none 0 0), rfl, hE, Nw.nil _, (OwK.nil _ _ _ _)⟩
    · replace H := (if_pos (ndec_f hb2)).symm.trans H
      refine W_seq ?_
      refine W_reg (by kernel_rfl) ?_
      refine wla rfl rfl (q_move (v := p2) rfl rfl) ?_
      obtain ⟨r3, hr3, H⟩ := Option.bind_eq_some_iff.1 H
      refine wls rfl rfl (stp_call (vs := [p2]) Try.func42 rfl rfl rfl (ar1 rfl) (shamir_unlike_calls a2shares p2 r3 _ (hp2.lift (Lift.ext hE _)) hr3) ?_)
      rintro _ w3 ⟨rfl, x3⟩
      refine ⟨_, rfl, ?_⟩
      have e4 := hE.trans x3
      refine wla rfl rfl (q_assign (v := (.bool r3)) rfl rfl) ?_
      refine wl_nil ?_
      refine W_th ?_
      refine W_cond _ rfl rfl (fun hb5 => ?_) (fun hb5 => ?_)
      · replace H := (if_pos hb5).symm.trans H
        refine W_seq ?_
        refine W_reg (by kernel_rfl) ?_
        refine wla rfl rfl (q_assign (v := (.slice none 0 0)) rfl rfl) ?_
        refine wla rfl rfl (q_assign (v := (i64 3)) rfl rfl) ?_
        refine wl_nil ?_
        refine W_th ?_
        refine W_ret ?_
        refine bk_r ?_
        refine th_r ?_
        obtain rfl := Option.some.inj H
        refine rt2 (.slice none 0 0) (i64 3) rfl rfl rfl rfl rfl rfl ?_
        exact ⟨(.slice none 0 0), rfl, e4, Nw.nil _, (OwK.nil _ _ _ _)⟩
      · replace H := (if_neg (ne_true_of_eq_false hb5)).symm.trans H
        refine W_skip ?_
        refine bk_n ?_
        refine W_th ?_
        refine W_seq ?_
        refine W_reg (by kernel_rfl) ?_
        refine wla rfl rfl (q_move (v := p0) rfl rfl) ?_
        refine wla rfl rfl (q_move (v := p1) rfl rfl) ?_
        refine wla rfl rfl (q_move (v := (u8 a3x)) rfl rfl) ?_
        obtain ⟨r6, hr6, H⟩ := Option.bind_eq_some_iff.1 H
        refine wls rfl rfl (stp_call (vs := [p0, p1, (u8 a3x)]) Try.func27 rfl rfl rfl (ar3 rfl rfl rfl) (poly_Weights_calls a0f a1xs a3x p0 p1 r6 _ (hp0.lift (Lift.ext e4 _)) (hp1.lift (Lift.ext e4 _)) hr6) ?_)
        rintro _ w6 ⟨v6_0, rfl, x6, n6_0, o6_0⟩
        refine ⟨_, rfl, ?_⟩
        have i6_0 : By w6 [] v6_0 r6.1 := OwK.slk (Sc.stab _) _ (OwK.scal o6_0 (v6_0 :: [])) (fun k hk => (Old.nil _) k (n6_0 k hk)) (fun _ h => h.2)
        have e7 := e4.trans x6
        refine wla rfl rfl (q_move (v := (.tuple #[v6_0, (i64 r6.2)])) rfl rfl) ?_
        refine wla rfl rfl (q_extract rfl rfl rfl) ?_
        refine wla rfl rfl (q_extract rfl rfl rfl) ?_
        refine wla rfl rfl (q_assign (v := v6_0) rfl rfl) ?_
        refine wla rfl rfl (q_assign (v := (i64 r6.2)) rfl rfl) ?_
        refine wl_nil ?_
        refine W_th ?_
        refine W_seq ?_
        refine W_seq ?_
        refine W_reg (by kernel_rfl) ?_
        refine wla rfl rfl (q_move (v := (i64 r6.2)) rfl rfl) ?_
        refine wla rfl rfl (q_neI rfl rfl rfl) ?_
        refine wl_nil ?_
        refine W_th ?_
        refine W_cond _ rfl rfl (fun hb8 => ?_) (fun hb8 => ?_)
        · replace H := (if_neg (ndec_t hb8)).symm.trans H
          refine W_seq ?_
          refine W_reg (by kernel_rfl) ?_
          refine wla rfl rfl (q_move (v := (i64 r6.2)) rfl rfl) ?_
          refine wla rfl rfl (q_assign (v := (.slice none 0 0)) rfl rfl) ?_
          refine wla rfl rfl (q_assign (v := (i64 r6.2)) rfl rfl) ?_
          refine wl_nil ?_
          refine W_th ?_
          refine W_ret ?_
          refine th_r ?_
          obtain rfl := Option.some.inj H
          refine rt2 (.slice none 0 0) (i64 r6.2) rfl rfl rfl rfl rfl rfl ?_
          exact ⟨(.slice none 0 0), rfl, e7, Nw.nil _, (OwK.nil _ _ _ _)⟩
        · replace H := (if_pos (ndec_f hb8)).symm.trans H
          refine W_skip ?_
          refine W_th ?_
          refine W_seq ?_
          refine W_reg (by kernel_rfl) ?_
          refine wla rfl rfl (q_move (v := p2) rfl rfl) ?_
          obtain ⟨c9, hc9, H⟩ := Option.bind_eq_some_iff.1 H
          refine wla rfl rfl (q_adr rfl T23 rfl rfl (hp2.lift (Lift.ext e7 _)) hc9) ?_
          refine wlq_load rfl rfl rfl T23 rfl hp2 hc9 e7 (fun v10 ha10 => ?_)
          refine wla rfl rfl (q_len rfl T22.sl rfl (ha10.lift (Lift.ext e7 _))) ?_
          obtain ⟨c11, hc11, H⟩ := Option.bind_eq_some_iff.1 H
          refine wls rfl rfl (stp_make (L := []) (R := (Sc u8)) rfl T22 rfl rfl hc11 (fun _ _ => rfl) ?_)
          intro v11 w11 o11 n11 g11 l11
          have x11 := grown_ext g11
          replace i6_0 := i6_0.lift (Lift.call _ x11 n11)
          have n13 := Nw.ext e7 n11
          have e12 := e7.trans x11
          refine wla rfl rfl (q_assign (v := v11) rfl rfl) ?_
          refine wl_nil ?_
          refine W_th ?_
          refine W_seq ?_
          refine W_seq ?_
          refine W_reg (by kernel_rfl) ?_
          refine wla rfl rfl (q_move (v := p2) rfl rfl) ?_
          refine wla rfl rfl (q_len rfl T23.sl rfl (hp2.lift (Lift.ext e12 _))) ?_
          refine wla rfl rfl (q_move (v := (i64 0)) rfl rfl) ?_
          refine wl_nil ?_
          refine W_th ?_
          obtain ⟨x14, G14, H⟩ := Option.bind_eq_some_iff.1 H
          refine W_mid (fun f w => ∃ v12_26 : Value, f 12 = v12_26 ∧ f 60 = undef ∧ Ext w0 w ∧ OwK (Sc u8) w [v12_26] 5 v12_26 x14 ∧ Nw w0 v12_26) ?_ ?_
          · refine W_block ?_
            refine W_loop (fun s14 f w => ∃ v12_24 : Value, f 0 = p0 ∧ f 10 = v6_0 ∧ f 12 = v12_24 ∧ f 43 = p2 ∧ f 44 = (i64 ((a2shares.length : Int))) ∧ f 45 = (i64 s14.2) ∧ f 60 = undef ∧ Ext w0 w ∧ OwK (Sc u8) w [v12_24] 5 v12_24 s14.1 ∧ Nw w0 v12_24 ∧ By w [v12_24] v6_0 r6.1) G14 ?_ ?_
            · exact ⟨v11, rfl, rfl, rfl, rfl, rfl, rfl, rfl, e12, o11, n13, i6_0⟩
            · rintro s14 _ _ w15 ⟨v12_15, s0_15, s10_15, s12_15, s43_15, s44_15, s45_15, s60_15, hE15, o0_15, n0_15, i0_15⟩ H14 hr14
              refine W_seq ?_
              refine W_reg (by kernel_rfl) ?_
              refine wla rfl rfl (q_ltI rfl s45_15 s44_15) ?_
              refine wl_nil ?_
              refine W_th ?_
              refine W_seq ?_
              refine W_cond _ rfl rfl (fun hb16 => ?_) (fun hb16 => ?_)
              · replace H14 := (if_pos (of_decide_eq_true hb16)).symm.trans H14
                refine W_skip ?_
                refine W_th ?_
                refine W_seq ?_
                refine W_block ?_
                refine W_seq ?_
                refine W_reg (by kernel_rfl) ?_
                refine wla rfl rfl (q_move (v := (i64 s14.2)) rfl s45_15) ?_
                obtain ⟨c17, hc17, H14⟩ := Option.bind_eq_some_iff.1 H14
                refine wla rfl rfl (q_adr rfl T23 s43_15 s45_15 (hp2.lift (Lift.ext hE15 _)) hc17) ?_
                refine wlq_load rfl rfl rfl T23 rfl hp2 hc17 hE15 (fun v18 ha18 => ?_)
                refine wla rfl rfl (q_assign (v := (i64 s14.2)) rfl rfl) ?_
                refine wla rfl rfl (q_assign (v := v18) rfl rfl) ?_
                refine wl_nil ?_
                refine W_th ?_
                refine W_reg (by kernel_rfl) ?_
                refine wla rfl rfl (q_move (v := p0) rfl s0_15) ?_
                refine wla rfl rfl (q_move (v := v12_15) rfl s12_15) ?_
                refine wla rfl rfl (q_move (v := v6_0) rfl s10_15) ?_
                refine wla rfl rfl (q_move (v := (i64 s14.2)) rfl rfl) ?_
                obtain ⟨c19, hc19, H14⟩ := Option.bind_eq_some_iff.1 H14
                refine wla rfl rfl (q_adr rfl T22 rfl rfl i0_15 hc19) ?_
                refine wlq rfl rfl (q_loadS rfl T22 rfl i0_15 hc19) ?_
                refine wla rfl rfl (q_move (v := v18) rfl rfl) ?_
                obtain ⟨r20, hr20, H14⟩ := Option.bind_eq_some_iff.1 H14
                refine wls rfl rfl (stp_call (vs := [p0, v12_15, (u8 c19), v18]) Try.func43 rfl rfl rfl (ar4 rfl rfl rfl rfl) (field_Sum_calls a0f s14.1 c19 c17 p0 v12_15 v18 r20 _ (hp0.lift (Lift.ext hE15 _)) (o0_15.rd (Sc.stab _)) (ha18.lift (Lift.ext hE15 _)) hr20) ?_)
                rintro _ w20 ⟨v20, rfl, x20, n20_0, o20_0⟩
                refine ⟨_, rfl, ?_⟩
                have o20 : OwK (Sc u8) w20 (v20 :: [v12_15]) 5 v20 r20 := OwK.scal o20_0 _
                have q21 : Nq v12_15 v20 := o0_15.nq n20_0
                replace i0_15 := i0_15.lift (Lift.call _ x20 n20_0)
                replace o0_15 := o0_15.extL (Sc.stab _) x20 (Lift.call _ x20 n20_0)
                have n23 := Nw.ext hE15 n20_0
                have e22 := hE15.trans x20
                refine wla rfl rfl (q_assign (v := v20) rfl rfl) ?_
                refine wl_nil ?_
                refine bk_n ?_
                refine W_th ?_
                refine W_reg (by kernel_rfl) ?_
                refine wla rfl rfl (q_addI rfl s45_15 rfl) ?_
                refine wla rfl rfl (q_move (v := (i64 ((wI (s14.2 + 1))))) rfl rfl) ?_
                refine wl_nil ?_
                obtain rfl := Option.some.inj H14
                exact ⟨_, rfl, v20, s0_15, s10_15, rfl, s43_15, s44_15, rfl, s60_15, e22, (o20.weak (Sc.stab _) (fun _ h => ⟨h.1, trivial⟩)), n23, (i0_15.lift (Lift.sub (fun _ h => ⟨h.1, trivial⟩)))⟩
              · replace H14 := (if_neg (of_decide_eq_false hb16)).symm.trans H14
                refine W_exit ?_
                refine th_x ?_
                obtain rfl := Option.some.inj H14
                obtain rfl := hr14 _ rfl
                refine th_x ?_
                refine bk_x ?_
                exact ⟨v12_15, s12_15, s60_15, hE15, o0_15, n0_15⟩
          · rintro _ w25 ⟨v12_25, s12_25, s60_25, hE25, o0_25, n0_25⟩
            refine W_th ?_
            refine W_seq ?_
            refine W_reg (by kernel_rfl) ?_
            refine wla rfl rfl (q_move (v := v12_25) rfl s12_25) ?_
            refine wla rfl rfl (q_assign (v := v12_25) rfl rfl) ?_
            refine wla rfl rfl (q_assign (v := (i64 0)) rfl rfl) ?_
            refine wl_nil ?_
            refine W_th ?_
            refine W_ret ?_
            obtain rfl := Option.some.inj H
            refine rt2 v12_25 (i64 0) rfl rfl rfl rfl rfl s60_25 ?_
            exact ⟨v12_25, rfl, hE25, n0_25, (o0_25.weak (Sc.stab _) (fun _ _ => trivial))⟩

/-! largesse/shamir.Join -/
noncomputable def shamir_Join (a0f : Bool) (a1xs : List UInt8) (a2shares : List (List UInt8)) : Option (List UInt8 × Int) :=
((shamir_At a0f a1xs a2shares (0 : UInt8)).bind fun r1 => some (r1.1, r1.2))
set_option maxRecDepth 100000 in
set_option maxHeartbeats 8000000 in
theorem shamir_Join_calls (a0f : Bool) (a1xs : List UInt8) (a2shares : List (List UInt8)) (p0 : Value) (p1 : Value) (p2 : Value) (r : List UInt8 × Int) (w0 : World) (hp0 : Fd w0 [] p0 a0f) (hp1 : By w0 [] p1 a1xs) (hp2 : Rw w0 [] p2 a2shares) (H : shamir_Join a0f a1xs a2shares = some r) :
    Calls Try.prog 16 [p0, p1, p2].toArray w0 (fun e w' => ∃ u0 : Value, e = .returned (.tuple #[u0, (i64 r.2)]) ∧ Ext w0 w' ∧ Nw w0 u0 ∧ OwK (Sc u8) w' [] 5 u0 r.1) := by
  have hE : Ext w0 w0 := Ext.refl w0
  unfold shamir_Join at H
  refine calls_W (n := 14) Try.func16 rfl rfl rfl ?_
  refine W_seq ?_
  refine W_reg (by kernel_rfl) ?_
  refine wla rfl rfl (q_assign (v := (.slice none 0 0)) rfl rfl) ?_
  refine wla rfl rfl (q_assign (v := (i64 0)) rfl rfl) ?_
  refine wl_nil ?_
  refine W_th ?_
  refine W_seq ?_
  refine W_reg (by kernel_rfl) ?_
  refine wla rfl rfl (q_move (v := p0) rfl rfl) ?_
  refine wla rfl rfl (q_move (v := p1) rfl rfl) ?_
  refine wla rfl rfl (q_move (v := p2) rfl rfl) ?_
  obtain ⟨r1, hr1, H⟩ := Option.bind_eq_some_iff.1 H
  refine wls rfl rfl (stp_call (vs := [p0, p1, p2, (u8 0)]) Try.func15 rfl rfl rfl (ar4 rfl rfl rfl (cst8 (0 : UInt8) rfl)) (shamir_At_calls a0f a1xs a2shares (0 : UInt8) p0 p1 p2 r1 _ (hp0.lift (Lift.ext hE _)) (hp1.lift (Lift.ext hE _)) (hp2.lift (Lift.ext hE _)) hr1) ?_)
  rintro _ w1 ⟨v1_0, rfl, x1, n1_0, o1_0⟩
  refine ⟨_, rfl, ?_⟩
  have o1 : OwK (Sc u8) w1 (v1_0 :: []) 5 v1_0 r1.1 := OwK.scal o1_0 _
  have n3 := Nw.ext hE n1_0
  have e2 := hE.trans x1
  refine wla rfl rfl (q_extract rfl rfl rfl) ?_
  refine wla rfl rfl (q_extract rfl rfl rfl) ?_
  refine wla rfl rfl (q_assign (v := v1_0) rfl rfl) ?_
  refine wla rfl rfl (q_assign (v := (i64 r1.2)) rfl rfl) ?_
  refine wl_nil ?_
  refine W_th ?_
  refine W_ret ?_
  obtain rfl := Option.some.inj H
  refine rt2 v1_0 (i64 r1.2) rfl rfl rfl rfl rfl rfl ?_
  exact ⟨v1_0, rfl, e2, n3, (o1.weak (Sc.stab _) (fun _ _ => trivial))⟩

/-! largesse/word.Xor -/
noncomputable def word_Xor (a0a : List UInt8) (a1b : List UInt8) : Option (List UInt8) :=
((makeL ((if (a1b.length : Int) < (a0a.length : Int) then (a1b.length : Int) else (a0a.length : Int))) (0 : UInt8)).bind fun c1 =>
((iterC (fun s4 : List UInt8 × Int =>
(if s4.2 < (c1.length : Int) then
((idx a0a s4.2).bind fun c9 =>
((idx a1b s4.2).bind fun c10 =>
((idx s4.1 s4.2).bind fun c11 => some (.inl ((s4.1.set (s4.2 : Int).toNat ((c9 ^^^ c10))), (wI (s4.2 + 1)))))))
else some (.inr s4.1))) (c1, 0)).bind fun x4 => some x4))
set_option maxRecDepth 100000 in
set_option maxHeartbeats 8000000 in
theorem word_Xor_calls (a0a : List UInt8) (a1b : List UInt8) (p0 : Value) (p1 : Value) (r : List UInt8) (w0 : World) (hp0 : By w0 [] p0 a0a) (hp1 : By w0 [] p1 a1b) (H : word_Xor a0a a1b = some r) :
    Calls Try.prog 50 [p0, p1].toArray w0 (fun e w' => ∃ u0 : Value, e = .returned u0 ∧ Ext w0 w' ∧ Nw w0 u0 ∧ OwK (Sc u8) w' [] 5 u0 r) := by
  have hE : Ext w0 w0 := Ext.refl w0
  unfold word_Xor at H
  refine calls_W (n := 32) Try.func50 rfl rfl rfl ?_
  refine W_seq ?_
  refine W_reg (by kernel_rfl) ?_
  refine wla rfl rfl (q_assign (v := (.slice none 0 0)) rfl rfl) ?_
  refine wl_nil ?_
  refine W_th ?_
  refine W_seq ?_
  refine W_reg (by kernel_rfl) ?_
  refine wla rfl rfl (q_move (v := p0) rfl rfl) ?_
  refine wla rfl rfl (q_len rfl T22.sl rfl (hp0.lift (Lift.ext hE _))) ?_
  refine wla rfl rfl (q_move (v := p1) rfl rfl) ?_
  refine wla rfl rfl (q_len rfl T22.sl rfl (hp1.lift (Lift.ext hE _))) ?_
  refine wla rfl rfl (q_minI rfl rfl rfl) ?_
  obtain ⟨c1, hc1, H⟩ := Option.bind_eq_some_iff.1 H
  refine wls rfl rfl (stp_make (L := []) (R := (Sc u8)) rfl T22 rfl rfl hc1 (fun _ _ => rfl) ?_)
  intro v1 w1 o1 n1 g1 l1
  have x1 := grown_ext g1
  have n3 := Nw.ext hE n1
  have e2 := hE.trans x1
  refine wla rfl rfl (q_assign (v := v1) rfl rfl) ?_
  refine wl_nil ?_
  refine W_th ?_
  refine W_seq ?_
  refine W_seq ?_
  refine W_reg (by kernel_rfl) ?_
  refine wla rfl rfl (q_move (v := v1) rfl rfl) ?_
  refine wla rfl rfl (q_len rfl T22.sl rfl (o1.rd (Sc.stab _))) ?_
  refine wla rfl rfl (q_move (v := (i64 0)) rfl rfl) ?_
  refine wl_nil ?_
  refine W_th ?_
  obtain ⟨x4, G4, H⟩ := Option.bind_eq_some_iff.1 H
  refine W_mid (fun f w => f 5 = v1 ∧ f 32 = undef ∧ Ext w0 w ∧ OwK (Sc u8) w [v1] 5 v1 x4 ∧ Nw w0 v1) ?_ ?_
  · refine W_block ?_
    refine W_loop (fun s4 f w => f 0 = p0 ∧ f 1 = p1 ∧ f 5 = v1 ∧ f 14 = (i64 ((c1.length : Int))) ∧ f 15 = (i64 s4.2) ∧ f 32 = undef ∧ Ext w0 w ∧ OwK (Sc u8) w [v1] 5 v1 s4.1 ∧ Nw w0 v1) G4 ?_ ?_
    · exact ⟨rfl, rfl, rfl, rfl, rfl, rfl, e2, o1, n3⟩
    · rintro s4 _ _ w5 ⟨s0_5, s1_5, s5_5, s14_5, s15_5, s32_5, hE5, o0_5, n0_5⟩ H4 hr4
      refine W_seq ?_
      refine W_reg (by kernel_rfl) ?_
      refine wla rfl rfl (q_ltI rfl s15_5 s14_5) ?_
      refine wl_nil ?_
      refine W_th ?_
      refine W_seq ?_
      refine W_cond _ rfl rfl (fun hb6 => ?_) (fun hb6 => ?_)
      · replace H4 := (if_pos (of_decide_eq_true hb6)).symm.trans H4
        refine W_skip ?_
        refine W_th ?_
        refine W_seq ?_
        refine W_block ?_
        refine W_seq ?_
        refine W_reg (by kernel_rfl) ?_
        refine wla rfl rfl (q_move (v := (i64 s4.2)) rfl s15_5) ?_
        refine wla rfl rfl (q_assign (v := (i64 s4.2)) rfl rfl) ?_
        refine wl_nil ?_
        refine W_th ?_
        refine W_draw [5, 9] [(0, 0), (1, 0), (2, 0), (3, 0), (4, 0), (5, 1), (6, 0), (7, 0), (8, 0), (9, 1), (10, 0), (11, 0), (12, 2)] mixed (by kernel_rfl) (by kernel_rfl) (by kernel_rfl) (by kernel_rfl) ?_
        have x7 := Ext.drew w5
        replace o0_5 := o0_5.extL (Sc.stab _) x7 (Lift.ext x7 _)
        have e8 := hE5.trans x7
        refine wsa rfl rfl rfl (q_move (v := v1) rfl s5_5) ?_
        refine wsa rfl rfl rfl (q_move (v := (i64 s4.2)) rfl rfl) ?_
        refine wsa rfl rfl rfl (q_move (v := p0) rfl s0_5) ?_
        refine wsa rfl rfl rfl (q_move (v := (i64 s4.2)) rfl rfl) ?_
        obtain ⟨c9, hc9, H4⟩ := Option.bind_eq_some_iff.1 H4
        refine wsa rfl rfl rfl (q_adr rfl T22 rfl rfl (hp0.lift (Lift.ext e8 _)) hc9) ?_
        refine wsq rfl rfl rfl (q_loadS rfl T22 rfl (hp0.lift (Lift.ext e8 _)) hc9) ?_
        refine wsa rfl rfl rfl (q_move (v := p1) rfl s1_5) ?_
        refine wsa rfl rfl rfl (q_move (v := (i64 s4.2)) rfl rfl) ?_
        obtain ⟨c10, hc10, H4⟩ := Option.bind_eq_some_iff.1 H4
        refine wsa rfl rfl rfl (q_adr rfl T22 rfl rfl (hp1.lift (Lift.ext e8 _)) hc10) ?_
        refine wsq rfl rfl rfl (q_loadS rfl T22 rfl (hp1.lift (Lift.ext e8 _)) hc10) ?_
        refine wsa rfl rfl rfl (q_xor8 rfl rfl rfl) ?_
        obtain ⟨c11, hc11, H4⟩ := Option.bind_eq_some_iff.1 H4
        refine wsa rfl rfl rfl (q_adr rfl T22 rfl rfl (o0_5.rd (Sc.stab _)) hc11) ?_
        refine wsn rfl (by kernel_rfl) rfl rfl (stp_store (R := (Sc u8)) (u := (u8 ((c9 ^^^ c10)))) (Sc.stab _) [] [] rfl T22 rfl rfl o0_5 (put_of ((c9 ^^^ c10)) hc11) rfl rfl ?_)
        intro w12 o12 g12 l12
        have e13 := e8.grown g12 n0_5
        refine ws_nil ?_
        refine bk_n ?_
        refine W_th ?_
        refine W_reg (by kernel_rfl) ?_
        refine wla rfl rfl (q_addI rfl s15_5 rfl) ?_
        refine wla rfl rfl (q_move (v := (i64 ((wI (s4.2 + 1))))) rfl rfl) ?_
        refine wl_nil ?_
        obtain rfl := Option.some.inj H4
        exact ⟨_, rfl, s0_5, s1_5, s5_5, s14_5, rfl, s32_5, e13, o12, n0_5⟩
      · replace H4 := (if_neg (of_decide_eq_false hb6)).symm.trans H4
        refine W_exit ?_
        refine th_x ?_
        obtain rfl := Option.some.inj H4
        obtain rfl := hr4 _ rfl
        refine th_x ?_
        refine bk_x ?_
        exact ⟨s5_5, s32_5, hE5, o0_5, n0_5⟩
  · rintro _ w15 ⟨s5_15, s32_15, hE15, o0_15, n0_15⟩
    refine W_th ?_
    refine W_seq ?_
    refine W_reg (by kernel_rfl) ?_
    refine wla rfl rfl (q_move (v := v1) rfl s5_15) ?_
    refine wla rfl rfl (q_assign (v := v1) rfl rfl) ?_
    refine wl_nil ?_
    refine W_th ?_
    refine W_ret ?_
    obtain rfl := Option.some.inj H
    refine rt1 v1 rfl rfl rfl s32_15 ?_
    exact ⟨v1, rfl, hE15, n0_15, (o0_15.weak (Sc.stab _) (fun _ _ => trivial))⟩

/-! largesse/shamir.Add -/
noncomputable def shamir_Add (a0a : List (List UInt8)) (a1b : List (List UInt8)) : Option (List (List UInt8) × Int) :=
(if (a0a.length : Int) = (a1b.length : Int) then
((iterC (fun s2 : List (List UInt8) × Int =>
(if s2.2 < (a0a.length : Int) then
((idx a0a s2.2).bind fun c7 =>
((idx a1b s2.2).bind fun c9 =>
(if (c7.length : Int) = (c9.length : Int) then
((idx a0a s2.2).bind fun c14 =>
((idx a1b s2.2).bind fun c16 =>
((word_Xor c14 c16).bind fun r18 =>
((appL s2.1 (([r18] : List (List UInt8)))).bind fun c22 => some (.inl (c22, (wI (s2.2 + 1))))))))
else some (.inr (.inr (([] : List (List UInt8)), 3))))))
else some (.inr (.inl s2.1)))) (([] : List (List UInt8)), 0)).bind (Sum.elim (fun y2 => some (y2, 0)) (fun q2 => some q2)))
else some (([] : List (List UInt8)), 1))
set_option maxRecDepth 100000 in
set_option maxHeartbeats 8000000 in
theorem shamir_Add_calls (a0a : List (List UInt8)) (a1b : List (List UInt8)) (p0 : Value) (p1 : Value) (r : List (List UInt8) × Int) (w0 : World) (L0 : List Value) (hL0 : Old w0 L0) (hp0 : Rw w0 [] p0 a0a) (hp1 : Rw w0 [] p1 a1b) (H : shamir_Add a0a a1b = some r) :
    Calls Try.prog 24 [p0, p1].toArray w0 (fun e w' => ∃ u0 : Value, e = .returned (.tuple #[u0, (i64 r.2)]) ∧ Ext w0 w' ∧ Nw w0 u0 ∧ OwK By w' (u0 :: L0) 22 u0 r.1) := by
  have hE : Ext w0 w0 := Ext.refl w0
  unfold shamir_Add at H
  refine calls_W (n := 43) Try.func24 rfl rfl rfl ?_
  refine W_seq ?_
  refine W_reg (by kernel_rfl) ?_
  refine wla rfl rfl (q_assign (v := (.slice none 0 0)) rfl rfl) ?_
  refine wla rfl rfl (q_assign (v := (i64 0)) rfl rfl) ?_
  refine wl_nil ?_
  refine W_th ?_
  refine W_seq ?_
  refine W_seq ?_
  refine W_reg (by kernel_rfl) ?_
  refine wla rfl rfl (q_move (v := p0) rfl rfl) ?_
  refine wla rfl rfl (q_len rfl T23.sl rfl (hp0.lift (Lift.ext hE _))) ?_
  refine wla rfl rfl (q_move (v := p1) rfl rfl) ?_
  refine wla rfl rfl (q_len rfl T23.sl rfl (hp1.lift (Lift.ext hE _))) ?_
  refine wla rfl rfl (q_neI rfl rfl rfl) ?_
  refine wl_nil ?_
  refine W_th ?_
  refine W_cond _ rfl rfl (fun hb1 => ?_) (fun hb1 => ?_)
  · replace H := (if_neg (ndec_t hb1)).symm.trans H
    refine W_seq ?_
    refine W_reg (by kernel_rfl) ?_
    refine wla rfl rfl (q_assign (v := (.slice none 0 0)) rfl rfl) ?_
    refine wla rfl rfl (q_assign (v := (i64 1)) rfl rfl) ?_
    refine wl_nil ?_
    refine W_th ?_
    refine W_ret ?_
    refine th_r ?_
    obtain rfl := Option.some.inj H
    refine rt2 (.slice none 0 0) (i64 1) rfl rfl rfl rfl rfl rfl ?_
    exact ⟨(.slice none 0 0), rfl, hE, Nw.nil _, (OwK.nil _ _ _ _)⟩
  · replace H := (if_pos (ndec_f hb1)).symm.trans H
    refine W_skip ?_
    refine W_th ?_
    refine W_seq ?_
    refine W_reg (by kernel_rfl) ?_
    refine wla rfl rfl (q_assign (v := (.slice none 0 0)) rfl rfl) ?_
    refine wl_nil ?_
    refine W_th ?_
    refine W_seq ?_
    refine W_seq ?_
    refine W_reg (by kernel_rfl) ?_
    refine wla rfl rfl (q_move (v := p0) rfl rfl) ?_
    refine wla rfl rfl (q_len rfl T23.sl rfl (hp0.lift (Lift.ext hE _))) ?_
    refine wla rfl rfl (q_move (v := (i64 0)) rfl rfl) ?_
    refine wl_nil ?_
    refine W_th ?_
    obtain ⟨x2, G2, H⟩ := Option.bind_eq_some_iff.1 H
    refine W_mid (fun f w => ∃ y2, x2 = .inl y2 ∧ ∃ v6_27 : Value, f 6 = v6_27 ∧ f 43 = undef ∧ Ext w0 w ∧ OwK By w (v6_27 :: L0) 22 v6_27 y2 ∧ Nw w0 v6_27) ?_ ?_
    · refine W_block ?_
      refine W_loop (fun s2 f w => ∃ v6_25 : Value, f 0 = p0 ∧ f 1 = p1 ∧ f 6 = v6_25 ∧ f 14 = (i64 ((a0a.length : Int))) ∧ f 15 = (i64 s2.2) ∧ f 43 = undef ∧ Ext w0 w ∧ OwK By w (v6_25 :: L0) 22 v6_25 s2.1 ∧ Nw w0 v6_25) G2 ?_ ?_
      · exact ⟨(.slice none 0 0), rfl, rfl, rfl, rfl, rfl, rfl, hE, (OwK.nil _ _ _ _), (Nw.nil _)⟩
      · rintro s2 _ _ w3 ⟨v6_3, s0_3, s1_3, s6_3, s14_3, s15_3, s43_3, hE3, o0_3, n0_3⟩ H2 hr2
        refine W_seq ?_
        refine W_reg (by kernel_rfl) ?_
        refine wla rfl rfl (q_ltI rfl s15_3 s14_3) ?_
        refine wl_nil ?_
        refine W_th ?_
        refine W_seq ?_
        refine W_cond _ rfl rfl (fun hb4 => ?_) (fun hb4 => ?_)
        · replace H2 := (if_pos (of_decide_eq_true hb4)).symm.trans H2
          refine W_skip ?_
          refine W_th ?_
          refine W_seq ?_
          refine W_block ?_
          refine W_seq ?_
          refine W_reg (by kernel_rfl) ?_
          refine wla rfl rfl (q_move (v := (i64 s2.2)) rfl s15_3) ?_
          refine wla rfl rfl (q_assign (v := (i64 s2.2)) rfl rfl) ?_
          refine wl_nil ?_
          refine W_th ?_
          refine W_seq ?_
          refine W_seq ?_
          refine W_draw [3, 8] [(0, 0), (1, 0), (2, 0), (3, 1), (4, 0), (5, 0), (6, 0), (7, 0), (8, 1), (9, 0), (10, 0)] mixed (by kernel_rfl) (by kernel_rfl) (by kernel_rfl) (by kernel_rfl) ?_
          have x5 := Ext.drew w3
          replace o0_3 := o0_3.extL (SlK.stab (Sc.stab _)) x5 (Lift.ext x5 _)
          have e6 := hE3.trans x5
          refine wsa rfl rfl rfl (q_move (v := p0) rfl s0_3) ?_
          refine wsa rfl rfl rfl (q_move (v := (i64 s2.2)) rfl rfl) ?_
          obtain ⟨c7, hc7, H2⟩ := Option.bind_eq_some_iff.1 H2
          refine wsa rfl rfl rfl (q_adr rfl T23 rfl rfl (hp0.lift (Lift.ext e6 _)) hc7) ?_
          refine wsq_load rfl rfl rfl rfl T23 rfl hp0 hc7 e6 (fun v8 ha8 => ?_)
          refine wsa rfl rfl rfl (q_len rfl T22.sl rfl (ha8.lift (Lift.ext e6 _))) ?_
          refine wsa rfl rfl rfl (q_move (v := p1) rfl s1_3) ?_
          refine wsa rfl rfl rfl (q_move (v := (i64 s2.2)) rfl rfl) ?_
          obtain ⟨c9, hc9, H2⟩ := Option.bind_eq_some_iff.1 H2
          refine wsa rfl rfl rfl (q_adr rfl T23 rfl rfl (hp1.lift (Lift.ext e6 _)) hc9) ?_
          refine wsq_load rfl rfl rfl rfl T23 rfl hp1 hc9 e6 (fun v10 ha10 => ?_)
          refine wsa rfl rfl rfl (q_len rfl T22.sl rfl (ha10.lift (Lift.ext e6 _))) ?_
          refine wsa rfl rfl rfl (q_neI rfl rfl rfl) ?_
          refine ws_nil ?_
          refine W_th ?_
          refine W_cond _ rfl rfl (fun hb11 => ?_) (fun hb11 => ?_)
          · replace H2 := (if_neg (ndec_t hb11)).symm.trans H2
            refine W_seq ?_
            refine W_reg (by kernel_rfl) ?_
            refine wla rfl rfl (q_assign (v := (.slice none 0 0)) rfl rfl) ?_
            refine wla rfl rfl (q_assign (v := (i64 3)) rfl rfl) ?_
            refine wl_nil ?_
            refine W_th ?_
            refine W_ret ?_
            refine th_r ?_
            refine bk_r ?_
            refine th_r ?_
            obtain rfl := Option.some.inj H2
            obtain rfl := hr2 _ rfl
            simp only [Sum.elim_inr] at H
            refine th_r ?_
            refine bk_r ?_
            refine th_r ?_
            refine th_r ?_
            obtain rfl := Option.some.inj H
            refine rt2 (.slice none 0 0) (i64 3) rfl rfl rfl rfl rfl s43_3 ?_
            exact ⟨(.slice none 0 0), rfl, e6, Nw.nil _, (OwK.nil _ _ _ _)⟩
          · replace H2 := (if_pos (ndec_f hb11)).symm.trans H2
            refine W_skip ?_
            refine W_th ?_
            refine W_draw [4, 8] [(0, 0), (1, 0), (2, 0), (3, 0), (4, 1), (5, 0), (6, 0), (7, 0), (8, 1), (9, 2), (10, 2), (11, 2), (12, 0)] mixed (by kernel_rfl) (by kernel_rfl) (by kernel_rfl) (by kernel_rfl) ?_
            have x12 := Ext.drew (World.drew w3)
            replace o0_3 := o0_3.extL (SlK.stab (Sc.stab _)) x12 (Lift.ext x12 _)
            have e13 := e6.trans x12
            refine wsa rfl rfl rfl (q_move (v := v6_3) rfl s6_3) ?_
            refine wsa rfl rfl rfl (q_move (v := p0) rfl s0_3) ?_
            refine wsa rfl rfl rfl (q_move (v := (i64 s2.2)) rfl rfl) ?_
            obtain ⟨c14, hc14, H2⟩ := Option.bind_eq_some_iff.1 H2
            refine wsa rfl rfl rfl (q_adr rfl T23 rfl rfl (hp0.lift (Lift.ext e13 _)) hc14) ?_
            refine wsq_load rfl rfl rfl rfl T23 rfl hp0 hc14 e13 (fun v15 ha15 => ?_)
            refine wsa rfl rfl rfl (q_move (v := p1) rfl s1_3) ?_
            refine wsa rfl rfl rfl (q_move (v := (i64 s2.2)) rfl rfl) ?_
            obtain ⟨c16, hc16, H2⟩ := Option.bind_eq_some_iff.1 H2
            refine wsa rfl rfl rfl (q_adr rfl T23 rfl rfl (hp1.lift (Lift.ext e13 _)) hc16) ?_
            refine wsq_load rfl rfl rfl rfl T23 rfl hp1 hc16 e13 (fun v17 ha17 => ?_)
            obtain ⟨r18, hr18, H2⟩ := Option.bind_eq_some_iff.1 H2
            refine wsc rfl (by kernel_rfl) rfl rfl (stp_call (vs := [v15, v17]) Try.func50 rfl rfl rfl (ar2 rfl rfl) (word_Xor_calls c14 c16 v15 v17 r18 _ (ha15.lift (Lift.ext e13 _)) (ha17.lift (Lift.ext e13 _)) hr18) ?_)
            rintro _ w18 ⟨v18, rfl, x18, n18_0, o18_0⟩
            refine ⟨_, rfl, ?_⟩
            have i18_0 : By w18 (v6_3 :: L0) v18 r18 := OwK.slk (Sc.stab _) _ (OwK.scal o18_0 (v18 :: (v6_3 :: L0))) (fun k hk => (Old.cons (hL0.ext e13) o0_3.lt) k (n18_0 k hk)) (fun _ h => h.2)
            replace o0_3 := o0_3.extL (SlK.stab (Sc.stab _)) x18 (Lift.ext x18 _)
            have e19 := e13.trans x18
            refine wsc rfl (by kernel_rfl) rfl rfl (stp_lit (L := (v6_3 :: L0)) (R := By) [v18] ([r18] : List (List UInt8)) rfl T23 rfl (by exact ⟨rfl, rfl, trivial⟩) rfl (LitR.cells (LitR.cons i18_0 LitR.nil) (fun u x h => cells_sl u x h)) rfl (LitR.all (SlK.stab (Sc.stab _)) (LitR.cons i18_0 LitR.nil)) ?_)
            intro v20 w20 o20 n20 g20 l20
            have x20 := grown_ext g20
            have i20 : Rw w20 (v6_3 :: L0) v20 (([r18] : List (List UInt8))) := OwK.slk (SlK.stab (Sc.stab _)) _ o20 (fun k hk => (Old.cons (hL0.ext e19) o0_3.lt) k (n20 k hk)) (fun _ h => h.2)
            replace i18_0 := i18_0.lift (Lift.ext x20 _)
            replace o0_3 := o0_3.extL (SlK.stab (Sc.stab _)) x20 (Lift.ext x20 _)
            have e21 := e19.trans x20
            obtain ⟨c22, hc22, H2⟩ := Option.bind_eq_some_iff.1 H2
            refine wsc rfl (by kernel_rfl) rfl rfl (stp_append (R := By) (v := v6_3) (u := v20) (SlK.stab (Sc.stab _)) [] (L0) rfl T23 rfl rfl o0_3 i20 (fun _ _ h => h) hc22 oc_sl ?_)
            intro v22 w22 o22 g22 nx22 l22
            replace i18_0 := i18_0.lift l22
            replace i20 := i20.lift l22
            have e23 := e21.grown g22 n0_3
            have n24 := Nw.nxt e21 n0_3 nx22
            refine wsa rfl rfl rfl (q_assign (v := v22) rfl rfl) ?_
            refine ws_nil ?_
            refine bk_n ?_
            refine W_th ?_
            refine W_reg (by kernel_rfl) ?_
            refine wla rfl rfl (q_addI rfl s15_3 rfl) ?_
            refine wla rfl rfl (q_move (v := (i64 ((wI (s2.2 + 1))))) rfl rfl) ?_
            refine wl_nil ?_
            obtain rfl := Option.some.inj H2
            exact ⟨_, rfl, v22, s0_3, s1_3, rfl, s14_3, rfl, s43_3, e23, o22, n24⟩
        · replace H2 := (if_neg (of_decide_eq_false hb4)).symm.trans H2
          refine W_exit ?_
          refine th_x ?_
          obtain rfl := Option.some.inj H2
          obtain rfl := hr2 _ rfl
          refine th_x ?_
          refine bk_x ?_
          exact ⟨_, rfl, v6_3, s6_3, s43_3, hE3, o0_3, n0_3⟩
    · rintro _ w26 ⟨y2, rfl, v6_26, s6_26, s43_26, hE26, o0_26, n0_26⟩
      simp only [Sum.elim_inl] at H
      refine W_th ?_
      refine W_seq ?_
      refine W_reg (by kernel_rfl) ?_
      refine wla rfl rfl (q_move (v := v6_26) rfl s6_26) ?_
      refine wla rfl rfl (q_assign (v := v6_26) rfl rfl) ?_
      refine wla rfl rfl (q_assign (v := (i64 0)) rfl rfl) ?_
      refine wl_nil ?_
      refine W_th ?_
      refine W_ret ?_
      obtain rfl := Option.some.inj H
      refine rt2 v6_26 (i64 0) rfl rfl rfl rfl rfl s43_26 ?_
      exact ⟨v6_26, rfl, hE26, n0_26, (o0_26.weak (SlK.stab (Sc.stab _)) (fun _ h => ⟨h.1, h.2⟩))⟩

end Gk

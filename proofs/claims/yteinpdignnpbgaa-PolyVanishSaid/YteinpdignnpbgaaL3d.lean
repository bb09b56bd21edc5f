/- Printed by gen.py: for each Go function a pure function, and that the Go code comes to it. No condition beside the equation that says what the pure function gives. -/
import Derived.Test.YteinpdignnpbgaaL3a
import Derived.Test.YteinpdignnpbgaaF5
set_option linter.unusedVariables false
set_option linter.unusedSimpArgs false
namespace Gk
open Go Go.Proofs

/-! largesse/largesselaw03.PolyVanish -/
noncomputable def law03_PolyVanish (a0xs : List UInt8) (a1p : List UInt8) (a2x : UInt8) : Option Bool :=
((law03_lives ).bind fun r1 =>
(if (!r1) = true then
((law03_lives ).bind fun r4 => some r4)
else
(if 40 < (a0xs.length : Int) then
((law03_lives ).bind fun r7 => some r7)
else
(if 40 < (a1p.length : Int) then
((law03_lives ).bind fun r10 => some r10)
else
((field_New ).bind fun r12 =>
((poly_Vanish r12 a0xs).bind fun r14 =>
((iterC (fun s16 : Bool × Int =>
(if s16.2 < (a0xs.length : Int) then
((idx a0xs s16.2).bind fun c19 =>
(if s16.1 = true then
((poly_Eval r12 r14.1 c19).bind fun r21 =>
(if r21 = (0 : UInt8) then some (.inl (true, (wI (s16.2 + 1))))
else some (.inr (.inr false))))
else
((poly_Eval r12 r14.1 c19).bind fun r24 =>
(if r24 = (0 : UInt8) then some (.inl ((decide (a2x = c19)), (wI (s16.2 + 1))))
else some (.inr (.inr false))))))
else some (.inr (.inl s16.1)))) (false, 0)).bind (Sum.elim (fun y16 =>
(if r14.2 = 0 then
((poly_Degree r14.1).bind fun r30 =>
(if r30 = (a0xs.length : Int) then
((poly_Eval r12 r14.1 a2x).bind fun r33 =>
(if (!(((decide (r33 = (0 : UInt8)))) == y16)) = true then some false
else
((poly_Weights r12 a0xs a2x).bind fun r36 =>
(if r36.2 = 0 then
((subL a1p 0 ((if (a0xs.length : Int) < (a1p.length : Int) then (a0xs.length : Int) else (a1p.length : Int)))).bind fun c39 =>
((iterC (fun s40 : UInt8 × Int =>
(if s40.2 < (a0xs.length : Int) then
((idx a0xs s40.2).bind fun c43 =>
((idx r36.1 s40.2).bind fun c46 =>
((poly_Eval r12 c39 c43).bind fun r47 =>
((field_Mul r12 c46 r47).bind fun r49 =>
((field_Add s40.1 r49).bind fun r51 => some (.inl (r51, (wI (s40.2 + 1)))))))))
else some (.inr s40.1))) ((0 : UInt8), 0)).bind fun x40 =>
((poly_Eval r12 c39 a2x).bind fun r55 => some (decide (x40 = r55)))))
else some (decide ((r36.1.length : Int) = 0))))))
else some false))
else some false)) (fun q16 => some q16)))))))))
set_option maxRecDepth 100000 in
set_option maxHeartbeats 8000000 in
theorem law03_PolyVanish_calls (a0xs : List UInt8) (a1p : List UInt8) (a2x : UInt8) (p0 : Value) (p1 : Value) (r : Bool) (w0 : World) (hp0 : By w0 [] p0 a0xs) (hp1 : By w0 [] p1 a1p) (H : law03_PolyVanish a0xs a1p a2x = some r) :
    Calls Try.prog 6 [p0, p1, (u8 a2x)].toArray w0 (fun e w' => e = .returned (.bool r) ∧ Ext w0 w') := by
  have hE : Ext w0 w0 := Ext.refl w0
  unfold law03_PolyVanish at H
  refine calls_W (n := 119) Try.func6 rfl rfl rfl ?_
  refine W_seq ?_
  refine W_reg (by kernel_rfl) ?_
  refine wla rfl rfl (q_assign (v := (.bool false)) rfl rfl) ?_
  refine wl_nil ?_
  refine W_th ?_
  refine W_seq ?_
  refine W_seq ?_
  refine W_reg (by kernel_rfl) ?_
  obtain ⟨r1, hr1, H⟩ := Option.bind_eq_some_iff.1 H
  refine wls rfl rfl (stp_call (vs := []) Try.func17 rfl rfl rfl (ar0 ) (law03_lives_calls   r1 _  hr1) ?_)
  rintro _ w1 ⟨rfl, x1⟩
  refine ⟨_, rfl, ?_⟩
  have e2 := hE.trans x1
  refine wla rfl rfl (q_not rfl rfl) ?_
  refine wlb rfl rfl (q_move (v := (.bool ((!r1)))) rfl rfl) (fun hb3 => ?_) (fun hb3 => ?_)
  · replace H := (if_pos hb3).symm.trans H
    refine wlk rfl rfl ?_
    refine wlk rfl rfl ?_
    refine wlk rfl rfl ?_
    refine wla rfl rfl (q_pick_t (v := (.bool true)) rfl rfl rfl) ?_
    refine wla rfl rfl (q_move (v := (.bool true)) rfl rfl) ?_
    refine wlk rfl rfl ?_
    refine wlk rfl rfl ?_
    refine wlk rfl rfl ?_
    refine wla rfl rfl (q_pick_t (v := (.bool true)) rfl rfl rfl) ?_
    refine wl_nil ?_
    refine W_th ?_
    refine W_cond true rfl rfl (fun _ => ?_) (fun hb => by cases hb)
    refine W_seq ?_
    refine W_reg (by kernel_rfl) ?_
    obtain ⟨r4, hr4, H⟩ := Option.bind_eq_some_iff.1 H
    refine wls rfl rfl (stp_call (vs := []) Try.func17 rfl rfl rfl (ar0 ) (law03_lives_calls   r4 _  hr4) ?_)
    rintro _ w4 ⟨rfl, x4⟩
    refine ⟨_, rfl, ?_⟩
    have e5 := e2.trans x4
    refine wla rfl rfl (q_assign (v := (.bool r4)) rfl rfl) ?_
    refine wl_nil ?_
    refine W_th ?_
    refine W_ret ?_
    refine th_r ?_
    obtain rfl := Option.some.inj H
    refine rt1 (.bool r4) rfl rfl rfl rfl ?_
    exact ⟨rfl, e5⟩
  · replace H := (if_neg (ne_true_of_eq_false hb3)).symm.trans H
    refine wla rfl rfl (q_move (v := p0) rfl rfl) ?_
    refine wla rfl rfl (q_len rfl T22.sl rfl (hp0.lift (Lift.ext e2 _))) ?_
    refine wla rfl rfl (q_gtI rfl rfl rfl) ?_
    refine wla rfl rfl (q_pick_f (v := (.bool ((decide (40 < (a0xs.length : Int)))))) rfl rfl rfl) ?_
    refine wlb rfl rfl (q_move (v := (.bool ((decide (40 < (a0xs.length : Int)))))) rfl rfl) (fun hb6 => ?_) (fun hb6 => ?_)
    · replace H := (if_pos (of_decide_eq_true hb6)).symm.trans H
      refine wlk rfl rfl ?_
      refine wlk rfl rfl ?_
      refine wlk rfl rfl ?_
      refine wla rfl rfl (q_pick_t (v := (.bool true)) rfl rfl rfl) ?_
      refine wl_nil ?_
      refine W_th ?_
      refine W_cond true rfl rfl (fun _ => ?_) (fun hb => by cases hb)
      refine W_seq ?_
      refine W_reg (by kernel_rfl) ?_
      obtain ⟨r7, hr7, H⟩ := Option.bind_eq_some_iff.1 H
      refine wls rfl rfl (stp_call (vs := []) Try.func17 rfl rfl rfl (ar0 ) (law03_lives_calls   r7 _  hr7) ?_)
      rintro _ w7 ⟨rfl, x7⟩
      refine ⟨_, rfl, ?_⟩
      have e8 := e2.trans x7
      refine wla rfl rfl (q_assign (v := (.bool r7)) rfl rfl) ?_
      refine wl_nil ?_
      refine W_th ?_
      refine W_ret ?_
      refine th_r ?_
      obtain rfl := Option.some.inj H
      refine rt1 (.bool r7) rfl rfl rfl rfl ?_
      exact ⟨rfl, e8⟩
    · replace H := (if_neg (of_decide_eq_false hb6)).symm.trans H
      refine wla rfl rfl (q_move (v := p1) rfl rfl) ?_
      refine wla rfl rfl (q_len rfl T22.sl rfl (hp1.lift (Lift.ext e2 _))) ?_
      refine wla rfl rfl (q_gtI rfl rfl rfl) ?_
      refine wla rfl rfl (q_pick_f (v := (.bool ((decide (40 < (a1p.length : Int)))))) rfl rfl rfl) ?_
      refine wl_nil ?_
      refine W_th ?_
      refine W_cond _ rfl rfl (fun hb9 => ?_) (fun hb9 => ?_)
      · replace H := (if_pos (of_decide_eq_true hb9)).symm.trans H
        refine W_seq ?_
        refine W_reg (by kernel_rfl) ?_
        obtain ⟨r10, hr10, H⟩ := Option.bind_eq_some_iff.1 H
        refine wls rfl rfl (stp_call (vs := []) Try.func17 rfl rfl rfl (ar0 ) (law03_lives_calls   r10 _  hr10) ?_)
        rintro _ w10 ⟨rfl, x10⟩
        refine ⟨_, rfl, ?_⟩
        have e11 := e2.trans x10
        refine wla rfl rfl (q_assign (v := (.bool r10)) rfl rfl) ?_
        refine wl_nil ?_
        refine W_th ?_
        refine W_ret ?_
        refine th_r ?_
        obtain rfl := Option.some.inj H
        refine rt1 (.bool r10) rfl rfl rfl rfl ?_
        exact ⟨rfl, e11⟩
      · replace H := (if_neg (of_decide_eq_false hb9)).symm.trans H
        refine W_skip ?_
        refine W_th ?_
        refine W_seq ?_
        refine W_reg (by kernel_rfl) ?_
        obtain ⟨r12, hr12, H⟩ := Option.bind_eq_some_iff.1 H
        refine wls rfl rfl (stp_call (vs := []) Try.func18 rfl rfl rfl (ar0 ) (field_New_calls   r12 _ [] (Old.nil _)  hr12) ?_)
        rintro _ w12 ⟨v12, rfl, x12, i12_0⟩
        refine ⟨_, rfl, ?_⟩
        have e13 := e2.trans x12
        refine wla rfl rfl (q_assign (v := v12) rfl rfl) ?_
        refine wl_nil ?_
        refine W_th ?_
        refine W_seq ?_
        refine W_reg (by kernel_rfl) ?_
        refine wla rfl rfl (q_move (v := v12) rfl rfl) ?_
        refine wla rfl rfl (q_move (v := p0) rfl rfl) ?_
        obtain ⟨r14, hr14, H⟩ := Option.bind_eq_some_iff.1 H
        refine wls rfl rfl (stp_call (vs := [v12, p0]) Try.func30 rfl rfl rfl (ar2 rfl rfl) (poly_Vanish_calls r12 a0xs v12 p0 r14 _ (i12_0.lift (Lift.sub (fun _ _ => trivial))) (hp0.lift (Lift.ext e13 _)) hr14) ?_)
        rintro _ w14 ⟨v14_0, rfl, x14, n14_0, o14_0⟩
        refine ⟨_, rfl, ?_⟩
        have i14_0 : By w14 [] v14_0 r14.1 := OwK.slk (Sc.stab _) _ (OwK.scal o14_0 (v14_0 :: [])) (fun k hk => (Old.nil _) k (n14_0 k hk)) (fun _ h => h.2)
        replace i12_0 := i12_0.lift (Lift.ext x14 _)
        have e15 := e13.trans x14
        refine wla rfl rfl (q_move (v := (.tuple #[v14_0, (i64 r14.2)])) rfl rfl) ?_
        refine wla rfl rfl (q_extract rfl rfl rfl) ?_
        refine wla rfl rfl (q_extract rfl rfl rfl) ?_
        refine wla rfl rfl (q_assign (v := v14_0) rfl rfl) ?_
        refine wla rfl rfl (q_assign (v := (i64 r14.2)) rfl rfl) ?_
        refine wl_nil ?_
        refine W_th ?_
        refine W_seq ?_
        refine W_reg (by kernel_rfl) ?_
        refine wla rfl rfl (q_assign (v := (.bool false)) rfl rfl) ?_
        refine wl_nil ?_
        refine W_th ?_
        refine W_seq ?_
        refine W_seq ?_
        refine W_reg (by kernel_rfl) ?_
        refine wla rfl rfl (q_move (v := p0) rfl rfl) ?_
        refine wla rfl rfl (q_len rfl T22.sl rfl (hp0.lift (Lift.ext e15 _))) ?_
        refine wla rfl rfl (q_move (v := (i64 0)) rfl rfl) ?_
        refine wl_nil ?_
        refine W_th ?_
        obtain ⟨x16, G16, H⟩ := Option.bind_eq_some_iff.1 H
        refine W_mid (fun f w => ∃ y16, x16 = .inl y16 ∧ f 0 = p0 ∧ f 1 = p1 ∧ f 2 = (u8 a2x) ∧ f 7 = v12 ∧ f 8 = v14_0 ∧ f 9 = (i64 r14.2) ∧ f 10 = (.bool y16) ∧ f 119 = undef ∧ Ext w0 w ∧ Fd w [] v12 r12 ∧ By w [] v14_0 r14.1) ?_ ?_
        · refine W_block ?_
          refine W_loop (fun s16 f w => f 0 = p0 ∧ f 1 = p1 ∧ f 2 = (u8 a2x) ∧ f 7 = v12 ∧ f 8 = v14_0 ∧ f 9 = (i64 r14.2) ∧ f 10 = (.bool s16.1) ∧ f 38 = p0 ∧ f 39 = (i64 ((a0xs.length : Int))) ∧ f 40 = (i64 s16.2) ∧ f 119 = undef ∧ Ext w0 w ∧ Fd w [] v12 r12 ∧ By w [] v14_0 r14.1) G16 ?_ ?_
          · exact ⟨rfl, rfl, rfl, rfl, rfl, rfl, rfl, rfl, rfl, rfl, rfl, e15, i12_0, i14_0⟩
          · rintro s16 _ _ w17 ⟨s0_17, s1_17, s2_17, s7_17, s8_17, s9_17, s10_17, s38_17, s39_17, s40_17, s119_17, hE17, i0_17, i1_17⟩ H16 hr16
            refine W_seq ?_
            refine W_reg (by kernel_rfl) ?_
            refine wla rfl rfl (q_ltI rfl s40_17 s39_17) ?_
            refine wl_nil ?_
            refine W_th ?_
            refine W_seq ?_
            refine W_cond _ rfl rfl (fun hb18 => ?_) (fun hb18 => ?_)
            · replace H16 := (if_pos (of_decide_eq_true hb18)).symm.trans H16
              refine W_skip ?_
              refine W_th ?_
              refine W_seq ?_
              refine W_block ?_
              refine W_seq ?_
              refine W_reg (by kernel_rfl) ?_
              obtain ⟨c19, hc19, H16⟩ := Option.bind_eq_some_iff.1 H16
              refine wla rfl rfl (q_adr rfl T22 s38_17 s40_17 (hp0.lift (Lift.ext hE17 _)) hc19) ?_
              refine wlq rfl rfl (q_loadS rfl T22 rfl (hp0.lift (Lift.ext hE17 _)) hc19) ?_
              refine wla rfl rfl (q_assign (v := (u8 c19)) rfl rfl) ?_
              refine wl_nil ?_
              refine W_th ?_
              refine W_seq ?_
              refine W_reg (by kernel_rfl) ?_
              refine wla rfl rfl (q_move (v := (.bool s16.1)) rfl s10_17) ?_
              refine wlb rfl rfl (q_move (v := (.bool s16.1)) rfl rfl) (fun hb20 => ?_) (fun hb20 => ?_)
              · replace H16 := (if_pos hb20).symm.trans H16
                refine wlk rfl rfl ?_
                refine wlk rfl rfl ?_
                refine wlk rfl rfl ?_
                refine wla rfl rfl (q_pick_t (v := (.bool true)) rfl rfl rfl) ?_
                refine wla rfl rfl (q_assign (v := (.bool true)) rfl rfl) ?_
                refine wl_nil ?_
                refine W_th ?_
                refine W_seq ?_
                refine W_reg (by kernel_rfl) ?_
                refine wla rfl rfl (q_move (v := v12) rfl s7_17) ?_
                refine wla rfl rfl (q_move (v := v14_0) rfl s8_17) ?_
                refine wla rfl rfl (q_move (v := (u8 c19)) rfl rfl) ?_
                obtain ⟨r21, hr21, H16⟩ := Option.bind_eq_some_iff.1 H16
                refine wls rfl rfl (stp_call (vs := [v12, v14_0, (u8 c19)]) Try.func21 rfl rfl rfl (ar3 rfl rfl rfl) (poly_Eval_calls r12 r14.1 c19 v12 v14_0 r21 _ (i0_17.lift (Lift.sub (fun _ _ => trivial))) (i1_17.lift (Lift.sub (fun _ _ => trivial))) hr21) ?_)
                rintro _ w21 ⟨rfl, x21⟩
                refine ⟨_, rfl, ?_⟩
                replace i0_17 := i0_17.lift (Lift.ext x21 _)
                replace i1_17 := i1_17.lift (Lift.ext x21 _)
                have e22 := hE17.trans x21
                refine wla rfl rfl (q_ne8 rfl rfl (cst8 (0 : UInt8) rfl)) ?_
                refine wl_nil ?_
                refine W_th ?_
                refine W_cond _ rfl rfl (fun hb23 => ?_) (fun hb23 => ?_)
                · replace H16 := (if_neg (ndec_t hb23)).symm.trans H16
                  refine W_seq ?_
                  refine W_reg (by kernel_rfl) ?_
                  refine wla rfl rfl (q_assign (v := (.bool false)) rfl rfl) ?_
                  refine wl_nil ?_
                  refine W_th ?_
                  refine W_ret ?_
                  refine bk_r ?_
                  refine th_r ?_
                  obtain rfl := Option.some.inj H16
                  obtain rfl := hr16 _ rfl
                  simp only [Sum.elim_inr] at H
                  refine th_r ?_
                  refine bk_r ?_
                  refine th_r ?_
                  refine th_r ?_
                  obtain rfl := Option.some.inj H
                  refine rt1 (.bool false) rfl rfl rfl s119_17 ?_
                  exact ⟨rfl, e22⟩
                · replace H16 := (if_pos (ndec_f hb23)).symm.trans H16
                  refine W_skip ?_
                  refine bk_n ?_
                  refine W_th ?_
                  refine W_reg (by kernel_rfl) ?_
                  refine wla rfl rfl (q_addI rfl s40_17 rfl) ?_
                  refine wla rfl rfl (q_move (v := (i64 ((wI (s16.2 + 1))))) rfl rfl) ?_
                  refine wl_nil ?_
                  obtain rfl := Option.some.inj H16
                  exact ⟨_, rfl, s0_17, s1_17, s2_17, s7_17, s8_17, s9_17, rfl, s38_17, s39_17, rfl, s119_17, e22, i0_17, i1_17⟩
              · replace H16 := (if_neg (ne_true_of_eq_false hb20)).symm.trans H16
                refine wla rfl rfl (q_move (v := (u8 a2x)) rfl s2_17) ?_
                refine wla rfl rfl (q_move (v := (u8 c19)) rfl rfl) ?_
                refine wla rfl rfl (q_eq8 rfl rfl rfl) ?_
                refine wla rfl rfl (q_pick_f (v := (.bool ((decide (a2x = c19))))) rfl rfl rfl) ?_
                refine wla rfl rfl (q_assign (v := (.bool ((decide (a2x = c19))))) rfl rfl) ?_
                refine wl_nil ?_
                refine W_th ?_
                refine W_seq ?_
                refine W_reg (by kernel_rfl) ?_
                refine wla rfl rfl (q_move (v := v12) rfl s7_17) ?_
                refine wla rfl rfl (q_move (v := v14_0) rfl s8_17) ?_
                refine wla rfl rfl (q_move (v := (u8 c19)) rfl rfl) ?_
                obtain ⟨r24, hr24, H16⟩ := Option.bind_eq_some_iff.1 H16
                refine wls rfl rfl (stp_call (vs := [v12, v14_0, (u8 c19)]) Try.func21 rfl rfl rfl (ar3 rfl rfl rfl) (poly_Eval_calls r12 r14.1 c19 v12 v14_0 r24 _ (i0_17.lift (Lift.sub (fun _ _ => trivial))) (i1_17.lift (Lift.sub (fun _ _ => trivial))) hr24) ?_)
                rintro _ w24 ⟨rfl, x24⟩
                refine ⟨_, rfl, ?_⟩
                replace i0_17 := i0_17.lift (Lift.ext x24 _)
                replace i1_17 := i1_17.lift (Lift.ext x24 _)
                have e25 := hE17.trans x24
                refine wla rfl rfl (q_ne8 rfl rfl (cst8 (0 : UInt8) rfl)) ?_
                refine wl_nil ?_
                refine W_th ?_
                refine W_cond _ rfl rfl (fun hb26 => ?_) (fun hb26 => ?_)
                · replace H16 := (if_neg (ndec_t hb26)).symm.trans H16
                  refine W_seq ?_
                  refine W_reg (by kernel_rfl) ?_
                  refine wla rfl rfl (q_assign (v := (.bool false)) rfl rfl) ?_
                  refine wl_nil ?_
                  refine W_th ?_
                  refine W_ret ?_
                  refine bk_r ?_
                  refine th_r ?_
                  obtain rfl := Option.some.inj H16
                  obtain rfl := hr16 _ rfl
                  simp only [Sum.elim_inr] at H
                  refine th_r ?_
                  refine bk_r ?_
                  refine th_r ?_
                  refine th_r ?_
                  obtain rfl := Option.some.inj H
                  refine rt1 (.bool false) rfl rfl rfl s119_17 ?_
                  exact ⟨rfl, e25⟩
                · replace H16 := (if_pos (ndec_f hb26)).symm.trans H16
                  refine W_skip ?_
                  refine bk_n ?_
                  refine W_th ?_
                  refine W_reg (by kernel_rfl) ?_
                  refine wla rfl rfl (q_addI rfl s40_17 rfl) ?_
                  refine wla rfl rfl (q_move (v := (i64 ((wI (s16.2 + 1))))) rfl rfl) ?_
                  refine wl_nil ?_
                  obtain rfl := Option.some.inj H16
                  exact ⟨_, rfl, s0_17, s1_17, s2_17, s7_17, s8_17, s9_17, rfl, s38_17, s39_17, rfl, s119_17, e25, i0_17, i1_17⟩
            · replace H16 := (if_neg (of_decide_eq_false hb18)).symm.trans H16
              refine W_exit ?_
              refine th_x ?_
              obtain rfl := Option.some.inj H16
              obtain rfl := hr16 _ rfl
              refine th_x ?_
              refine bk_x ?_
              exact ⟨_, rfl, s0_17, s1_17, s2_17, s7_17, s8_17, s9_17, s10_17, s119_17, hE17, i0_17, i1_17⟩
        · rintro _ w28 ⟨y16, rfl, s0_28, s1_28, s2_28, s7_28, s8_28, s9_28, s10_28, s119_28, hE28, i0_28, i1_28⟩
          simp only [Sum.elim_inl] at H
          refine W_th ?_
          refine W_seq ?_
          refine W_seq ?_
          refine W_reg (by kernel_rfl) ?_
          refine wla rfl rfl (q_move (v := (i64 r14.2)) rfl s9_28) ?_
          refine wla rfl rfl (q_neI rfl rfl rfl) ?_
          refine wlb rfl rfl (q_move (v := (.bool ((!decide (r14.2 = 0))))) rfl rfl) (fun hb29 => ?_) (fun hb29 => ?_)
          · replace H := (if_neg (ndec_t hb29)).symm.trans H
            refine wlk rfl rfl ?_
            refine wlk rfl rfl ?_
            refine wlk rfl rfl ?_
            refine wlk rfl rfl ?_
            refine wlk rfl rfl ?_
            refine wla rfl rfl (q_pick_t (v := (.bool true)) rfl rfl rfl) ?_
            refine wla rfl rfl (q_move (v := (.bool true)) rfl rfl) ?_
            refine wlk rfl rfl ?_
            refine wlk rfl rfl ?_
            refine wlk rfl rfl ?_
            refine wlk rfl rfl ?_
            refine wlk rfl rfl ?_
            refine wlk rfl rfl ?_
            refine wlk rfl rfl ?_
            refine wla rfl rfl (q_pick_t (v := (.bool true)) rfl rfl rfl) ?_
            refine wl_nil ?_
            refine W_th ?_
            refine W_cond true rfl rfl (fun _ => ?_) (fun hb => by cases hb)
            refine W_seq ?_
            refine W_reg (by kernel_rfl) ?_
            refine wla rfl rfl (q_assign (v := (.bool false)) rfl rfl) ?_
            refine wl_nil ?_
            refine W_th ?_
            refine W_ret ?_
            refine th_r ?_
            obtain rfl := Option.some.inj H
            refine rt1 (.bool false) rfl rfl rfl s119_28 ?_
            exact ⟨rfl, hE28⟩
          · replace H := (if_pos (ndec_f hb29)).symm.trans H
            refine wla rfl rfl (q_move (v := v14_0) rfl s8_28) ?_
            obtain ⟨r30, hr30, H⟩ := Option.bind_eq_some_iff.1 H
            refine wls rfl rfl (stp_call (vs := [v14_0]) Try.func28 rfl rfl rfl (ar1 rfl) (poly_Degree_calls r14.1 v14_0 r30 _ (i1_28.lift (Lift.sub (fun _ _ => trivial))) hr30) ?_)
            rintro _ w30 ⟨rfl, x30⟩
            refine ⟨_, rfl, ?_⟩
            replace i0_28 := i0_28.lift (Lift.ext x30 _)
            replace i1_28 := i1_28.lift (Lift.ext x30 _)
            have e31 := hE28.trans x30
            refine wla rfl rfl (q_move (v := p0) rfl s0_28) ?_
            refine wla rfl rfl (q_len rfl T22.sl rfl (hp0.lift (Lift.ext e31 _))) ?_
            refine wla rfl rfl (q_neI rfl rfl rfl) ?_
            refine wla rfl rfl (q_pick_f (v := (.bool ((!decide (r30 = (a0xs.length : Int)))))) rfl rfl rfl) ?_
            refine wlb rfl rfl (q_move (v := (.bool ((!decide (r30 = (a0xs.length : Int)))))) rfl rfl) (fun hb32 => ?_) (fun hb32 => ?_)
            · replace H := (if_neg (ndec_t hb32)).symm.trans H
              refine wlk rfl rfl ?_
              refine wlk rfl rfl ?_
              refine wlk rfl rfl ?_
              refine wlk rfl rfl ?_
              refine wlk rfl rfl ?_
              refine wlk rfl rfl ?_
              refine wlk rfl rfl ?_
              refine wla rfl rfl (q_pick_t (v := (.bool true)) rfl rfl rfl) ?_
              refine wl_nil ?_
              refine W_th ?_
              refine W_cond true rfl rfl (fun _ => ?_) (fun hb => by cases hb)
              refine W_seq ?_
              refine W_reg (by kernel_rfl) ?_
              refine wla rfl rfl (q_assign (v := (.bool false)) rfl rfl) ?_
              refine wl_nil ?_
              refine W_th ?_
              refine W_ret ?_
              refine th_r ?_
              obtain rfl := Option.some.inj H
              refine rt1 (.bool false) rfl rfl rfl s119_28 ?_
              exact ⟨rfl, e31⟩
            · replace H := (if_pos (ndec_f hb32)).symm.trans H
              refine wla rfl rfl (q_move (v := v12) rfl s7_28) ?_
              refine wla rfl rfl (q_move (v := v14_0) rfl s8_28) ?_
              refine wla rfl rfl (q_move (v := (u8 a2x)) rfl s2_28) ?_
              obtain ⟨r33, hr33, H⟩ := Option.bind_eq_some_iff.1 H
              refine wls rfl rfl (stp_call (vs := [v12, v14_0, (u8 a2x)]) Try.func21 rfl rfl rfl (ar3 rfl rfl rfl) (poly_Eval_calls r12 r14.1 a2x v12 v14_0 r33 _ (i0_28.lift (Lift.sub (fun _ _ => trivial))) (i1_28.lift (Lift.sub (fun _ _ => trivial))) hr33) ?_)
              rintro _ w33 ⟨rfl, x33⟩
              refine ⟨_, rfl, ?_⟩
              replace i0_28 := i0_28.lift (Lift.ext x33 _)
              replace i1_28 := i1_28.lift (Lift.ext x33 _)
              have e34 := e31.trans x33
              refine wla rfl rfl (q_eq8 rfl rfl (cst8 (0 : UInt8) rfl)) ?_
              refine wla rfl rfl (q_move (v := (.bool y16)) rfl s10_28) ?_
              refine wla rfl rfl (q_neB rfl (by kernel_rfl) rfl rfl) ?_
              refine wla rfl rfl (q_pick_f (v := (.bool ((!(((decide (r33 = (0 : UInt8)))) == y16))))) rfl rfl rfl) ?_
              refine wl_nil ?_
              refine W_th ?_
              refine W_cond _ rfl rfl (fun hb35 => ?_) (fun hb35 => ?_)
              · replace H := (if_pos hb35).symm.trans H
                refine W_seq ?_
                refine W_reg (by kernel_rfl) ?_
                refine wla rfl rfl (q_assign (v := (.bool false)) rfl rfl) ?_
                refine wl_nil ?_
                refine W_th ?_
                refine W_ret ?_
                refine th_r ?_
                obtain rfl := Option.some.inj H
                refine rt1 (.bool false) rfl rfl rfl s119_28 ?_
                exact ⟨rfl, e34⟩
              · replace H := (if_neg (ne_true_of_eq_false hb35)).symm.trans H
                refine W_skip ?_
                refine W_th ?_
                refine W_seq ?_
                refine W_reg (by kernel_rfl) ?_
                refine wla rfl rfl (q_move (v := v12) rfl s7_28) ?_
                refine wla rfl rfl (q_move (v := p0) rfl s0_28) ?_
                refine wla rfl rfl (q_move (v := (u8 a2x)) rfl s2_28) ?_
                obtain ⟨r36, hr36, H⟩ := Option.bind_eq_some_iff.1 H
                refine wls rfl rfl (stp_call (vs := [v12, p0, (u8 a2x)]) Try.func31 rfl rfl rfl (ar3 rfl rfl rfl) (poly_Weights_calls r12 a0xs a2x v12 p0 r36 _ (i0_28.lift (Lift.sub (fun _ _ => trivial))) (hp0.lift (Lift.ext e34 _)) hr36) ?_)
                rintro _ w36 ⟨v36_0, rfl, x36, n36_0, o36_0⟩
                refine ⟨_, rfl, ?_⟩
                have i36_0 : By w36 [] v36_0 r36.1 := OwK.slk (Sc.stab _) _ (OwK.scal o36_0 (v36_0 :: [])) (fun k hk => (Old.nil _) k (n36_0 k hk)) (fun _ h => h.2)
                replace i0_28 := i0_28.lift (Lift.ext x36 _)
                replace i1_28 := i1_28.lift (Lift.ext x36 _)
                have e37 := e34.trans x36
                refine wla rfl rfl (q_move (v := (.tuple #[v36_0, (i64 r36.2)])) rfl rfl) ?_
                refine wla rfl rfl (q_extract rfl rfl rfl) ?_
                refine wla rfl rfl (q_extract rfl rfl rfl) ?_
                refine wla rfl rfl (q_assign (v := v36_0) rfl rfl) ?_
                refine wla rfl rfl (q_assign (v := (i64 r36.2)) rfl rfl) ?_
                refine wl_nil ?_
                refine W_th ?_
                refine W_seq ?_
                refine W_seq ?_
                refine W_reg (by kernel_rfl) ?_
                refine wla rfl rfl (q_move (v := (i64 r36.2)) rfl rfl) ?_
                refine wla rfl rfl (q_neI rfl rfl rfl) ?_
                refine wl_nil ?_
                refine W_th ?_
                refine W_cond _ rfl rfl (fun hb38 => ?_) (fun hb38 => ?_)
                · replace H := (if_neg (ndec_t hb38)).symm.trans H
                  refine W_seq ?_
                  refine W_reg (by kernel_rfl) ?_
                  refine wla rfl rfl (q_move (v := v36_0) rfl rfl) ?_
                  refine wla rfl rfl (q_len rfl T22.sl rfl i36_0) ?_
                  refine wla rfl rfl (q_eqI rfl rfl rfl) ?_
                  refine wla rfl rfl (q_assign (v := (.bool ((decide ((r36.1.length : Int) = 0))))) rfl rfl) ?_
                  refine wl_nil ?_
                  refine W_th ?_
                  refine W_ret ?_
                  refine th_r ?_
                  obtain rfl := Option.some.inj H
                  refine rt1 (.bool ((decide ((r36.1.length : Int) = 0)))) rfl rfl rfl s119_28 ?_
                  exact ⟨rfl, e37⟩
                · replace H := (if_pos (ndec_f hb38)).symm.trans H
                  refine W_skip ?_
                  refine W_th ?_
                  refine W_seq ?_
                  refine W_reg (by kernel_rfl) ?_
                  refine wla rfl rfl (q_move (v := p1) rfl s1_28) ?_
                  refine wla rfl rfl (q_move (v := p1) rfl s1_28) ?_
                  refine wla rfl rfl (q_len rfl T22.sl rfl (hp1.lift (Lift.ext e37 _))) ?_
                  refine wla rfl rfl (q_move (v := p0) rfl s0_28) ?_
                  refine wla rfl rfl (q_len rfl T22.sl rfl (hp0.lift (Lift.ext e37 _))) ?_
                  refine wla rfl rfl (q_minI rfl rfl rfl) ?_
                  obtain ⟨c39, hc39, H⟩ := Option.bind_eq_some_iff.1 H
                  refine wla rfl rfl (q_slice (a := 0) (b := (if (a0xs.length : Int) < (a1p.length : Int) then (a0xs.length : Int) else (a1p.length : Int))) rfl T22 rfl (hp1.lift (Lift.ext e37 _)) rfl rfl hc39) ?_
                  refine wla rfl rfl (q_assign (v := (subV p1 (0 : Int).toNat ((if (a0xs.length : Int) < (a1p.length : Int) then (a0xs.length : Int) else (a1p.length : Int)) : Int).toNat)) rfl rfl) ?_
                  refine wl_nil ?_
                  refine W_th ?_
                  refine W_seq ?_
                  refine W_reg (by kernel_rfl) ?_
                  refine wla rfl rfl (q_assign (v := (u8 0)) rfl (cst8 (0 : UInt8) rfl)) ?_
                  refine wl_nil ?_
                  refine W_th ?_
                  refine W_seq ?_
                  refine W_seq ?_
                  refine W_reg (by kernel_rfl) ?_
                  refine wla rfl rfl (q_move (v := p0) rfl s0_28) ?_
                  refine wla rfl rfl (q_len rfl T22.sl rfl (hp0.lift (Lift.ext e37 _))) ?_
                  refine wla rfl rfl (q_move (v := (i64 0)) rfl rfl) ?_
                  refine wl_nil ?_
                  refine W_th ?_
                  obtain ⟨x40, G40, H⟩ := Option.bind_eq_some_iff.1 H
                  refine W_mid (fun f w => f 1 = (subV p1 (0 : Int).toNat ((if (a0xs.length : Int) < (a1p.length : Int) then (a0xs.length : Int) else (a1p.length : Int)) : Int).toNat) ∧ f 2 = (u8 a2x) ∧ f 7 = v12 ∧ f 15 = (u8 x40) ∧ f 119 = undef ∧ Ext w0 w ∧ By w [] (subV p1 (0 : Int).toNat ((if (a0xs.length : Int) < (a1p.length : Int) then (a0xs.length : Int) else (a1p.length : Int)) : Int).toNat) c39 ∧ Fd w [] v12 r12) ?_ ?_
                  · refine W_block ?_
                    refine W_loop (fun s40 f w => f 1 = (subV p1 (0 : Int).toNat ((if (a0xs.length : Int) < (a1p.length : Int) then (a0xs.length : Int) else (a1p.length : Int)) : Int).toNat) ∧ f 2 = (u8 a2x) ∧ f 7 = v12 ∧ f 13 = v36_0 ∧ f 15 = (u8 s40.1) ∧ f 93 = p0 ∧ f 94 = (i64 ((a0xs.length : Int))) ∧ f 95 = (i64 s40.2) ∧ f 119 = undef ∧ Ext w0 w ∧ By w [] (subV p1 (0 : Int).toNat ((if (a0xs.length : Int) < (a1p.length : Int) then (a0xs.length : Int) else (a1p.length : Int)) : Int).toNat) c39 ∧ Fd w [] v12 r12 ∧ By w [] v36_0 r36.1) G40 ?_ ?_
                    · exact ⟨rfl, s2_28, s7_28, rfl, rfl, rfl, rfl, rfl, s119_28, e37, (SlK.cut (hp1.lift (Lift.arg e37 nv_nil)) hc39), i0_28, i36_0⟩
                    · rintro s40 _ _ w41 ⟨s1_41, s2_41, s7_41, s13_41, s15_41, s93_41, s94_41, s95_41, s119_41, hE41, i0_41, i1_41, i2_41⟩ H40 hr40
                      refine W_seq ?_
                      refine W_reg (by kernel_rfl) ?_
                      refine wla rfl rfl (q_ltI rfl s95_41 s94_41) ?_
                      refine wl_nil ?_
                      refine W_th ?_
                      refine W_seq ?_
                      refine W_cond _ rfl rfl (fun hb42 => ?_) (fun hb42 => ?_)
                      · replace H40 := (if_pos (of_decide_eq_true hb42)).symm.trans H40
                        refine W_skip ?_
                        refine W_th ?_
                        refine W_seq ?_
                        refine W_block ?_
                        refine W_seq ?_
                        refine W_reg (by kernel_rfl) ?_
                        refine wla rfl rfl (q_move (v := (i64 s40.2)) rfl s95_41) ?_
                        obtain ⟨c43, hc43, H40⟩ := Option.bind_eq_some_iff.1 H40
                        refine wla rfl rfl (q_adr rfl T22 s93_41 s95_41 (hp0.lift (Lift.ext hE41 _)) hc43) ?_
                        refine wlq rfl rfl (q_loadS rfl T22 rfl (hp0.lift (Lift.ext hE41 _)) hc43) ?_
                        refine wla rfl rfl (q_assign (v := (i64 s40.2)) rfl rfl) ?_
                        refine wla rfl rfl (q_assign (v := (u8 c43)) rfl rfl) ?_
                        refine wl_nil ?_
                        refine W_th ?_
                        refine W_draw [5] [(0, 0), (1, 0), (2, 0), (3, 0), (4, 0), (5, 1), (6, 0), (7, 0), (8, 0), (9, 2), (10, 2), (11, 2), (12, 0)] mixed (by kernel_rfl) (by kernel_rfl) (by kernel_rfl) (by kernel_rfl) ?_
                        have x44 := Ext.drew w41
                        replace i0_41 := i0_41.lift (Lift.ext x44 _)
                        replace i1_41 := i1_41.lift (Lift.ext x44 _)
                        replace i2_41 := i2_41.lift (Lift.ext x44 _)
                        have e45 := hE41.trans x44
                        refine wsa rfl rfl rfl (q_move (v := (u8 s40.1)) rfl s15_41) ?_
                        refine wsa rfl rfl rfl (q_move (v := v12) rfl s7_41) ?_
                        refine wsa rfl rfl rfl (q_move (v := v36_0) rfl s13_41) ?_
                        refine wsa rfl rfl rfl (q_move (v := (i64 s40.2)) rfl rfl) ?_
                        obtain ⟨c46, hc46, H40⟩ := Option.bind_eq_some_iff.1 H40
                        refine wsa rfl rfl rfl (q_adr rfl T22 rfl rfl i2_41 hc46) ?_
                        refine wsq rfl rfl rfl (q_loadS rfl T22 rfl i2_41 hc46) ?_
                        refine wsa rfl rfl rfl (q_move (v := v12) rfl s7_41) ?_
                        refine wsa rfl rfl rfl (q_move (v := (subV p1 (0 : Int).toNat ((if (a0xs.length : Int) < (a1p.length : Int) then (a0xs.length : Int) else (a1p.length : Int)) : Int).toNat)) rfl s1_41) ?_
                        refine wsa rfl rfl rfl (q_move (v := (u8 c43)) rfl rfl) ?_
                        obtain ⟨r47, hr47, H40⟩ := Option.bind_eq_some_iff.1 H40
                        refine wss rfl rfl rfl (stp_call (vs := [v12, (subV p1 (0 : Int).toNat ((if (a0xs.length : Int) < (a1p.length : Int) then (a0xs.length : Int) else (a1p.length : Int)) : Int).toNat), (u8 c43)]) Try.func21 rfl rfl rfl (ar3 rfl rfl rfl) (poly_Eval_calls r12 c39 c43 v12 (subV p1 (0 : Int).toNat ((if (a0xs.length : Int) < (a1p.length : Int) then (a0xs.length : Int) else (a1p.length : Int)) : Int).toNat) r47 _ (i1_41.lift (Lift.sub (fun _ _ => trivial))) (i0_41.lift (Lift.sub (fun _ _ => trivial))) hr47) ?_)
                        rintro _ w47 ⟨rfl, x47⟩
                        refine ⟨_, rfl, x47, ?_⟩
                        replace i0_41 := i0_41.lift (Lift.ext x47 _)
                        replace i1_41 := i1_41.lift (Lift.ext x47 _)
                        replace i2_41 := i2_41.lift (Lift.ext x47 _)
                        have e48 := e45.trans x47
                        obtain ⟨r49, hr49, H40⟩ := Option.bind_eq_some_iff.1 H40
                        refine wsc rfl (by kernel_rfl) rfl rfl (stp_call (vs := [v12, (u8 c46), (u8 r47)]) Try.func23 rfl rfl rfl (ar3 rfl rfl rfl) (field_Mul_calls r12 c46 r47 v12 r49 _ (i1_41.lift (Lift.sub (fun _ _ => trivial))) hr49) ?_)
                        rintro _ w49 ⟨rfl, x49⟩
                        refine ⟨_, rfl, ?_⟩
                        replace i0_41 := i0_41.lift (Lift.ext x49 _)
                        replace i1_41 := i1_41.lift (Lift.ext x49 _)
                        replace i2_41 := i2_41.lift (Lift.ext x49 _)
                        have e50 := e48.trans x49
                        obtain ⟨r51, hr51, H40⟩ := Option.bind_eq_some_iff.1 H40
                        refine wsc rfl (by kernel_rfl) rfl rfl (stp_call (vs := [(u8 s40.1), (u8 r49)]) Try.func22 rfl rfl rfl (ar2 rfl rfl) (field_Add_calls s40.1 r49  r51 _  hr51) ?_)
                        rintro _ w51 ⟨rfl, x51⟩
                        refine ⟨_, rfl, ?_⟩
                        replace i0_41 := i0_41.lift (Lift.ext x51 _)
                        replace i1_41 := i1_41.lift (Lift.ext x51 _)
                        replace i2_41 := i2_41.lift (Lift.ext x51 _)
                        have e52 := e50.trans x51
                        refine wsa rfl rfl rfl (q_assign (v := (u8 r51)) rfl rfl) ?_
                        refine ws_nil ?_
                        refine bk_n ?_
                        refine W_th ?_
                        refine W_reg (by kernel_rfl) ?_
                        refine wla rfl rfl (q_addI rfl s95_41 rfl) ?_
                        refine wla rfl rfl (q_move (v := (i64 ((wI (s40.2 + 1))))) rfl rfl) ?_
                        refine wl_nil ?_
                        obtain rfl := Option.some.inj H40
                        exact ⟨_, rfl, s1_41, s2_41, s7_41, s13_41, rfl, s93_41, s94_41, rfl, s119_41, e52, i0_41, i1_41, i2_41⟩
                      · replace H40 := (if_neg (of_decide_eq_false hb42)).symm.trans H40
                        refine W_exit ?_
                        refine th_x ?_
                        obtain rfl := Option.some.inj H40
                        obtain rfl := hr40 _ rfl
                        refine th_x ?_
                        refine bk_x ?_
                        exact ⟨s1_41, s2_41, s7_41, s15_41, s119_41, hE41, i0_41, i1_41⟩
                  · rintro _ w54 ⟨s1_54, s2_54, s7_54, s15_54, s119_54, hE54, i0_54, i1_54⟩
                    refine W_th ?_
                    refine W_seq ?_
                    refine W_reg (by kernel_rfl) ?_
                    refine wla rfl rfl (q_move (v := (u8 x40)) rfl s15_54) ?_
                    refine wla rfl rfl (q_move (v := v12) rfl s7_54) ?_
                    refine wla rfl rfl (q_move (v := (subV p1 (0 : Int).toNat ((if (a0xs.length : Int) < (a1p.length : Int) then (a0xs.length : Int) else (a1p.length : Int)) : Int).toNat)) rfl s1_54) ?_
                    refine wla rfl rfl (q_move (v := (u8 a2x)) rfl s2_54) ?_
                    obtain ⟨r55, hr55, H⟩ := Option.bind_eq_some_iff.1 H
                    refine wls rfl rfl (stp_call (vs := [v12, (subV p1 (0 : Int).toNat ((if (a0xs.length : Int) < (a1p.length : Int) then (a0xs.length : Int) else (a1p.length : Int)) : Int).toNat), (u8 a2x)]) Try.func21 rfl rfl rfl (ar3 rfl rfl rfl) (poly_Eval_calls r12 c39 a2x v12 (subV p1 (0 : Int).toNat ((if (a0xs.length : Int) < (a1p.length : Int) then (a0xs.length : Int) else (a1p.length : Int)) : Int).toNat) r55 _ (i1_54.lift (Lift.sub (fun _ _ => trivial))) (i0_54.lift (Lift.sub (fun _ _ => trivial))) hr55) ?_)
                    rintro _ w55 ⟨rfl, x55⟩
                    refine ⟨_, rfl, ?_⟩
                    replace i0_54 := i0_54.lift (Lift.ext x55 _)
                    replace i1_54 := i1_54.lift (Lift.ext x55 _)
                    have e56 := hE54.trans x55
                    refine wla rfl rfl (q_eq8 rfl rfl rfl) ?_
                    refine wla rfl rfl (q_assign (v := (.bool ((decide (x40 = r55))))) rfl rfl) ?_
                    refine wl_nil ?_
                    refine W_th ?_
                    refine W_ret ?_
                    obtain rfl := Option.some.inj H
                    refine rt1 (.bool ((decide (x40 = r55)))) rfl rfl rfl s119_54 ?_
                    exact ⟨rfl, e56⟩

end Gk

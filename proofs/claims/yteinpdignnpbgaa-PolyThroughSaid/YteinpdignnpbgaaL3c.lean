/- Printed by gen.py: for each Go function a pure function, and that the Go code comes to it. No condition beside the equation that says what the pure function gives. -/
import Derived.Test.YteinpdignnpbgaaL3a
import Derived.Test.YteinpdignnpbgaaF5
set_option linter.unusedVariables false
set_option linter.unusedSimpArgs false
namespace Gk
open Go Go.Proofs

/-! largesse/largesselaw03.PolyThrough -/
noncomputable def law03_PolyThrough (a0xs : List UInt8) (a1ys : List UInt8) (a2x : UInt8) : Option Bool :=
((law03_lives ).bind fun r1 =>
(if (!r1) = true then
((law03_lives ).bind fun r4 => some r4)
else
(if 40 < (a0xs.length : Int) then
((law03_lives ).bind fun r7 => some r7)
else
(if 40 < (a1ys.length : Int) then
((law03_lives ).bind fun r10 => some r10)
else
((field_New ).bind fun r12 =>
((poly_Through r12 a0xs a1ys).bind fun r14 =>
((poly_Weights r12 a0xs a2x).bind fun r16 =>
((ref03_Places a0xs).bind fun r18 =>
(if r16.2 = r18 then
((iterC (fun s21 : Int =>
(if s21 < (r16.1.length : Int) then
((idx r16.1 s21).bind fun c26 =>
((ref03_Weight a0xs s21 a2x).bind fun r27 =>
(if c26 = r27 then some (.inl (wI (s21 + 1)))
else some (.inr (.inr false)))))
else some (.inr (.inl ())))) 0).bind (Sum.elim (fun y21 =>
(if (a0xs.length : Int) = (a1ys.length : Int) then
(if r18 = 0 then
(if r14.2 = 0 then
(if (r16.1.length : Int) = (a0xs.length : Int) then
((ref03_Through a0xs a1ys).bind fun r40 => some (decide (r14.1 = r40)))
else some false)
else some false)
else
(if r14.2 = r18 then some (decide ((wI ((r14.1.length : Int) + (r16.1.length : Int))) = 0))
else some false))
else
(if r14.2 = 1 then some (decide ((r14.1.length : Int) = 0))
else some false))) (fun q21 => some q21)))
else some false)))))))))
set_option maxRecDepth 100000 in
set_option maxHeartbeats 8000000 in
theorem law03_PolyThrough_calls (a0xs : List UInt8) (a1ys : List UInt8) (a2x : UInt8) (p0 : Value) (p1 : Value) (r : Bool) (w0 : World) (hp0 : By w0 [] p0 a0xs) (hp1 : By w0 [] p1 a1ys) (H : law03_PolyThrough a0xs a1ys a2x = some r) :
    Calls Try.prog 7 [p0, p1, (u8 a2x)].toArray w0 (fun e w' => e = .returned (.bool r) ∧ Ext w0 w') := by
  have hE : Ext w0 w0 := Ext.refl w0
  unfold law03_PolyThrough at H
  refine calls_W (n := 105) Try.func7 rfl rfl rfl ?_
  refine W_seq ?_
  refine W_reg (by kernel_rfl) ?_
  refine wla rfl rfl (q_assign (v := (.bool false)) rfl rfl) ?_
  refine wl_nil ?_
  refine W_th ?_
  refine W_seq ?_
  refine W_seq ?_
  refine W_reg (by kernel_rfl) ?_
  obtain ⟨r1, hr1, H⟩ := Option.bind_eq_some_iff.1 H
  refine wls rfl rfl (stp_call (vs := []) Try.func17 rfl rfl rfl (ar0 ) (law03_lives_calls   r1 _  hr1) ?_)
  rintro _ w1 ⟨rfl, x1⟩
  refine ⟨_, rfl, ?_⟩
  have e2 := hE.trans x1
  refine wla rfl rfl (q_not rfl rfl) ?_
  refine wlb rfl rfl (q_move (v := (.bool ((!r1)))) rfl rfl) (fun hb3 => ?_) (fun hb3 => ?_)
  · replace H := (if_pos hb3).symm.trans H
    refine wlk rfl rfl ?_
    refine wlk rfl rfl ?_
    refine wlk rfl rfl ?_
    refine wla rfl rfl (q_pick_t (v := (.bool true)) rfl rfl rfl) ?_
    refine wla rfl rfl (q_move (v := (.bool true)) rfl rfl) ?_
    refine wlk rfl rfl ?_
    refine wlk rfl rfl ?_
    refine wlk rfl rfl ?_
    refine wla rfl rfl (q_pick_t (v := (.bool true)) rfl rfl rfl) ?_
    refine wl_nil ?_
    refine W_th ?_
    refine W_cond true rfl rfl (fun _ => ?_) (fun hb => by cases hb)
    refine W_seq ?_
    refine W_reg (by kernel_rfl) ?_
    obtain ⟨r4, hr4, H⟩ := Option.bind_eq_some_iff.1 H
    refine wls rfl rfl (stp_call (vs := []) Try.func17 rfl rfl rfl (ar0 ) (law03_lives_calls   r4 _  hr4) ?_)
    rintro _ w4 ⟨rfl, x4⟩
    refine ⟨_, rfl, ?_⟩
    have e5 := e2.trans x4
    refine wla rfl rfl (q_assign (v := (.bool r4)) rfl rfl) ?_
    refine wl_nil ?_
    refine W_th ?_
    refine W_ret ?_
    refine th_r ?_
    obtain rfl := Option.some.inj H
    refine rt1 (.bool r4) rfl rfl rfl rfl ?_
    exact ⟨rfl, e5⟩
  · replace H := (if_neg (ne_true_of_eq_false hb3)).symm.trans H
    refine wla rfl rfl (q_move (v := p0) rfl rfl) ?_
    refine wla rfl rfl (q_len rfl T22.sl rfl (hp0.lift (Lift.ext e2 _))) ?_
    refine wla rfl rfl (q_gtI rfl rfl rfl) ?_
    refine wla rfl rfl (q_pick_f (v := (.bool ((decide (40 < (a0xs.length : Int)))))) rfl rfl rfl) ?_
    refine wlb rfl rfl (q_move (v := (.bool ((decide (40 < (a0xs.length : Int)))))) rfl rfl) (fun hb6 => ?_) (fun hb6 => ?_)
    · replace H := (if_pos (of_decide_eq_true hb6)).symm.trans H
      refine wlk rfl rfl ?_
      refine wlk rfl rfl ?_
      refine wlk rfl rfl ?_
      refine wla rfl rfl (q_pick_t (v := (.bool true)) rfl rfl rfl) ?_
      refine wl_nil ?_
      refine W_th ?_
      refine W_cond true rfl rfl (fun _ => ?_) (fun hb => by cases hb)
      refine W_seq ?_
      refine W_reg (by kernel_rfl) ?_
      obtain ⟨r7, hr7, H⟩ := Option.bind_eq_some_iff.1 H
      refine wls rfl rfl (stp_call (vs := []) Try.func17 rfl rfl rfl (ar0 ) (law03_lives_calls   r7 _  hr7) ?_)
      rintro _ w7 ⟨rfl, x7⟩
      refine ⟨_, rfl, ?_⟩
      have e8 := e2.trans x7
      refine wla rfl rfl (q_assign (v := (.bool r7)) rfl rfl) ?_
      refine wl_nil ?_
      refine W_th ?_
      refine W_ret ?_
      refine th_r ?_
      obtain rfl := Option.some.inj H
      refine rt1 (.bool r7) rfl rfl rfl rfl ?_
      exact ⟨rfl, e8⟩
    · replace H := (if_neg (of_decide_eq_false hb6)).symm.trans H
      refine wla rfl rfl (q_move (v := p1) rfl rfl) ?_
      refine wla rfl rfl (q_len rfl T22.sl rfl (hp1.lift (Lift.ext e2 _))) ?_
      refine wla rfl rfl (q_gtI rfl rfl rfl) ?_
      refine wla rfl rfl (q_pick_f (v := (.bool ((decide (40 < (a1ys.length : Int)))))) rfl rfl rfl) ?_
      refine wl_nil ?_
      refine W_th ?_
      refine W_cond _ rfl rfl (fun hb9 => ?_) (fun hb9 => ?_)
      · replace H := (if_pos (of_decide_eq_true hb9)).symm.trans H
        refine W_seq ?_
        refine W_reg (by kernel_rfl) ?_
        obtain ⟨r10, hr10, H⟩ := Option.bind_eq_some_iff.1 H
        refine wls rfl rfl (stp_call (vs := []) Try.func17 rfl rfl rfl (ar0 ) (law03_lives_calls   r10 _  hr10) ?_)
        rintro _ w10 ⟨rfl, x10⟩
        refine ⟨_, rfl, ?_⟩
        have e11 := e2.trans x10
        refine wla rfl rfl (q_assign (v := (.bool r10)) rfl rfl) ?_
        refine wl_nil ?_
        refine W_th ?_
        refine W_ret ?_
        refine th_r ?_
        obtain rfl := Option.some.inj H
        refine rt1 (.bool r10) rfl rfl rfl rfl ?_
        exact ⟨rfl, e11⟩
      · replace H := (if_neg (of_decide_eq_false hb9)).symm.trans H
        refine W_skip ?_
        refine W_th ?_
        refine W_seq ?_
        refine W_reg (by kernel_rfl) ?_
        obtain ⟨r12, hr12, H⟩ := Option.bind_eq_some_iff.1 H
        refine wls rfl rfl (stp_call (vs := []) Try.func18 rfl rfl rfl (ar0 ) (field_New_calls   r12 _ [] (Old.nil _)  hr12) ?_)
        rintro _ w12 ⟨v12, rfl, x12, i12_0⟩
        refine ⟨_, rfl, ?_⟩
        have e13 := e2.trans x12
        refine wla rfl rfl (q_assign (v := v12) rfl rfl) ?_
        refine wl_nil ?_
        refine W_th ?_
        refine W_seq ?_
        refine W_reg (by kernel_rfl) ?_
        refine wla rfl rfl (q_move (v := v12) rfl rfl) ?_
        refine wla rfl rfl (q_move (v := p0) rfl rfl) ?_
        refine wla rfl rfl (q_move (v := p1) rfl rfl) ?_
        obtain ⟨r14, hr14, H⟩ := Option.bind_eq_some_iff.1 H
        refine wls rfl rfl (stp_call (vs := [v12, p0, p1]) Try.func32 rfl rfl rfl (ar3 rfl rfl rfl) (poly_Through_calls r12 a0xs a1ys v12 p0 p1 r14 _ (i12_0.lift (Lift.sub (fun _ _ => trivial))) (hp0.lift (Lift.ext e13 _)) (hp1.lift (Lift.ext e13 _)) hr14) ?_)
        rintro _ w14 ⟨v14_0, rfl, x14, n14_0, o14_0⟩
        refine ⟨_, rfl, ?_⟩
        have i14_0 : By w14 [] v14_0 r14.1 := OwK.slk (Sc.stab _) _ (OwK.scal o14_0 (v14_0 :: [])) (fun k hk => (Old.nil _) k (n14_0 k hk)) (fun _ h => h.2)
        replace i12_0 := i12_0.lift (Lift.ext x14 _)
        have e15 := e13.trans x14
        refine wla rfl rfl (q_move (v := (.tuple #[v14_0, (i64 r14.2)])) rfl rfl) ?_
        refine wla rfl rfl (q_extract rfl rfl rfl) ?_
        refine wla rfl rfl (q_extract rfl rfl rfl) ?_
        refine wla rfl rfl (q_assign (v := v14_0) rfl rfl) ?_
        refine wla rfl rfl (q_assign (v := (i64 r14.2)) rfl rfl) ?_
        refine wl_nil ?_
        refine W_th ?_
        refine W_seq ?_
        refine W_reg (by kernel_rfl) ?_
        refine wla rfl rfl (q_move (v := v12) rfl rfl) ?_
        refine wla rfl rfl (q_move (v := p0) rfl rfl) ?_
        refine wla rfl rfl (q_move (v := (u8 a2x)) rfl rfl) ?_
        obtain ⟨r16, hr16, H⟩ := Option.bind_eq_some_iff.1 H
        refine wls rfl rfl (stp_call (vs := [v12, p0, (u8 a2x)]) Try.func31 rfl rfl rfl (ar3 rfl rfl rfl) (poly_Weights_calls r12 a0xs a2x v12 p0 r16 _ (i12_0.lift (Lift.sub (fun _ _ => trivial))) (hp0.lift (Lift.ext e15 _)) hr16) ?_)
        rintro _ w16 ⟨v16_0, rfl, x16, n16_0, o16_0⟩
        refine ⟨_, rfl, ?_⟩
        have i16_0 : By w16 [] v16_0 r16.1 := OwK.slk (Sc.stab _) _ (OwK.scal o16_0 (v16_0 :: [])) (fun k hk => (Old.nil _) k (n16_0 k hk)) (fun _ h => h.2)
        replace i12_0 := i12_0.lift (Lift.ext x16 _)
        replace i14_0 := i14_0.lift (Lift.ext x16 _)
        have e17 := e15.trans x16
        refine wla rfl rfl (q_move (v := (.tuple #[v16_0, (i64 r16.2)])) rfl rfl) ?_
        refine wla rfl rfl (q_extract rfl rfl rfl) ?_
        refine wla rfl rfl (q_extract rfl rfl rfl) ?_
        refine wla rfl rfl (q_assign (v := v16_0) rfl rfl) ?_
        refine wla rfl rfl (q_assign (v := (i64 r16.2)) rfl rfl) ?_
        refine wl_nil ?_
        refine W_th ?_
        refine W_seq ?_
        refine W_reg (by kernel_rfl) ?_
        refine wla rfl rfl (q_move (v := p0) rfl rfl) ?_
        obtain ⟨r18, hr18, H⟩ := Option.bind_eq_some_iff.1 H
        refine wls rfl rfl (stp_call (vs := [p0]) Try.func33 rfl rfl rfl (ar1 rfl) (ref03_Places_calls a0xs p0 r18 _ (hp0.lift (Lift.ext e17 _)) hr18) ?_)
        rintro _ w18 ⟨rfl, x18⟩
        refine ⟨_, rfl, ?_⟩
        replace i12_0 := i12_0.lift (Lift.ext x18 _)
        replace i14_0 := i14_0.lift (Lift.ext x18 _)
        replace i16_0 := i16_0.lift (Lift.ext x18 _)
        have e19 := e17.trans x18
        refine wla rfl rfl (q_assign (v := (i64 r18)) rfl rfl) ?_
        refine wl_nil ?_
        refine W_th ?_
        refine W_seq ?_
        refine W_seq ?_
        refine W_reg (by kernel_rfl) ?_
        refine wla rfl rfl (q_move (v := (i64 r16.2)) rfl rfl) ?_
        refine wla rfl rfl (q_move (v := (i64 r18)) rfl rfl) ?_
        refine wla rfl rfl (q_neI rfl rfl rfl) ?_
        refine wl_nil ?_
        refine W_th ?_
        refine W_cond _ rfl rfl (fun hb20 => ?_) (fun hb20 => ?_)
        · replace H := (if_neg (ndec_t hb20)).symm.trans H
          refine W_seq ?_
          refine W_reg (by kernel_rfl) ?_
          refine wla rfl rfl (q_assign (v := (.bool false)) rfl rfl) ?_
          refine wl_nil ?_
          refine W_th ?_
          refine W_ret ?_
          refine th_r ?_
          obtain rfl := Option.some.inj H
          refine rt1 (.bool false) rfl rfl rfl rfl ?_
          exact ⟨rfl, e19⟩
        · replace H := (if_pos (ndec_f hb20)).symm.trans H
          refine W_skip ?_
          refine W_th ?_
          refine W_seq ?_
          refine W_seq ?_
          refine W_reg (by kernel_rfl) ?_
          refine wla rfl rfl (q_move (v := v16_0) rfl rfl) ?_
          refine wla rfl rfl (q_len rfl T22.sl rfl i16_0) ?_
          refine wla rfl rfl (q_move (v := (i64 0)) rfl rfl) ?_
          refine wl_nil ?_
          refine W_th ?_
          obtain ⟨x21, G21, H⟩ := Option.bind_eq_some_iff.1 H
          refine W_mid (fun f w => ∃ y21, x21 = .inl y21 ∧ f 0 = p0 ∧ f 1 = p1 ∧ f 8 = v14_0 ∧ f 9 = (i64 r14.2) ∧ f 10 = v16_0 ∧ f 12 = (i64 r18) ∧ f 105 = undef ∧ Ext w0 w ∧ By w [] v14_0 r14.1 ∧ By w [] v16_0 r16.1) ?_ ?_
          · refine W_block ?_
            refine W_loop (fun s21 f w => f 0 = p0 ∧ f 1 = p1 ∧ f 2 = (u8 a2x) ∧ f 8 = v14_0 ∧ f 9 = (i64 r14.2) ∧ f 10 = v16_0 ∧ f 12 = (i64 r18) ∧ f 48 = (i64 ((r16.1.length : Int))) ∧ f 49 = (i64 s21) ∧ f 105 = undef ∧ Ext w0 w ∧ By w [] v14_0 r14.1 ∧ By w [] v16_0 r16.1) G21 ?_ ?_
            · exact ⟨rfl, rfl, rfl, rfl, rfl, rfl, rfl, rfl, rfl, rfl, e19, i14_0, i16_0⟩
            · rintro s21 _ _ w22 ⟨s0_22, s1_22, s2_22, s8_22, s9_22, s10_22, s12_22, s48_22, s49_22, s105_22, hE22, i0_22, i1_22⟩ H21 hr21
              refine W_seq ?_
              refine W_reg (by kernel_rfl) ?_
              refine wla rfl rfl (q_ltI rfl s49_22 s48_22) ?_
              refine wl_nil ?_
              refine W_th ?_
              refine W_seq ?_
              refine W_cond _ rfl rfl (fun hb23 => ?_) (fun hb23 => ?_)
              · replace H21 := (if_pos (of_decide_eq_true hb23)).symm.trans H21
                refine W_skip ?_
                refine W_th ?_
                refine W_seq ?_
                refine W_block ?_
                refine W_seq ?_
                refine W_reg (by kernel_rfl) ?_
                refine wla rfl rfl (q_move (v := (i64 s21)) rfl s49_22) ?_
                refine wla rfl rfl (q_assign (v := (i64 s21)) rfl rfl) ?_
                refine wl_nil ?_
                refine W_th ?_
                refine W_seq ?_
                refine W_draw [3] [(0, 0), (1, 0), (2, 0), (3, 1), (4, 0), (5, 0), (6, 0), (7, 2), (8, 0)] mixed (by kernel_rfl) (by kernel_rfl) (by kernel_rfl) (by kernel_rfl) ?_
                have x24 := Ext.drew w22
                replace i0_22 := i0_22.lift (Lift.ext x24 _)
                replace i1_22 := i1_22.lift (Lift.ext x24 _)
                have e25 := hE22.trans x24
                refine wsa rfl rfl rfl (q_move (v := v16_0) rfl s10_22) ?_
                refine wsa rfl rfl rfl (q_move (v := (i64 s21)) rfl rfl) ?_
                obtain ⟨c26, hc26, H21⟩ := Option.bind_eq_some_iff.1 H21
                refine wsa rfl rfl rfl (q_adr rfl T22 rfl rfl i1_22 hc26) ?_
                refine wsq rfl rfl rfl (q_loadS rfl T22 rfl i1_22 hc26) ?_
                refine wsa rfl rfl rfl (q_move (v := p0) rfl s0_22) ?_
                refine wsa rfl rfl rfl (q_move (v := (i64 s21)) rfl rfl) ?_
                refine wsa rfl rfl rfl (q_move (v := (u8 a2x)) rfl s2_22) ?_
                obtain ⟨r27, hr27, H21⟩ := Option.bind_eq_some_iff.1 H21
                refine wss rfl rfl rfl (stp_call (vs := [p0, (i64 s21), (u8 a2x)]) Try.func34 rfl rfl rfl (ar3 rfl rfl rfl) (ref03_Weight_calls a0xs s21 a2x p0 r27 _ (hp0.lift (Lift.ext e25 _)) hr27) ?_)
                rintro _ w27 ⟨rfl, x27⟩
                refine ⟨_, rfl, x27, ?_⟩
                replace i0_22 := i0_22.lift (Lift.ext x27 _)
                replace i1_22 := i1_22.lift (Lift.ext x27 _)
                have e28 := e25.trans x27
                refine wsa rfl rfl rfl (q_ne8 rfl rfl rfl) ?_
                refine ws_nil ?_
                refine W_th ?_
                refine W_cond _ rfl rfl (fun hb29 => ?_) (fun hb29 => ?_)
                · replace H21 := (if_neg (ndec_t hb29)).symm.trans H21
                  refine W_seq ?_
                  refine W_reg (by kernel_rfl) ?_
                  refine wla rfl rfl (q_assign (v := (.bool false)) rfl rfl) ?_
                  refine wl_nil ?_
                  refine W_th ?_
                  refine W_ret ?_
                  refine bk_r ?_
                  refine th_r ?_
                  obtain rfl := Option.some.inj H21
                  obtain rfl := hr21 _ rfl
                  simp only [Sum.elim_inr] at H
                  refine th_r ?_
                  refine bk_r ?_
                  refine th_r ?_
                  refine th_r ?_
                  obtain rfl := Option.some.inj H
                  refine rt1 (.bool false) rfl rfl rfl s105_22 ?_
                  exact ⟨rfl, e28⟩
                · replace H21 := (if_pos (ndec_f hb29)).symm.trans H21
                  refine W_skip ?_
                  refine bk_n ?_
                  refine W_th ?_
                  refine W_reg (by kernel_rfl) ?_
                  refine wla rfl rfl (q_addI rfl s49_22 rfl) ?_
                  refine wla rfl rfl (q_move (v := (i64 ((wI (s21 + 1))))) rfl rfl) ?_
                  refine wl_nil ?_
                  obtain rfl := Option.some.inj H21
                  exact ⟨_, rfl, s0_22, s1_22, s2_22, s8_22, s9_22, s10_22, s12_22, s48_22, rfl, s105_22, e28, i0_22, i1_22⟩
              · replace H21 := (if_neg (of_decide_eq_false hb23)).symm.trans H21
                refine W_exit ?_
                refine th_x ?_
                obtain rfl := Option.some.inj H21
                obtain rfl := hr21 _ rfl
                refine th_x ?_
                refine bk_x ?_
                exact ⟨_, rfl, s0_22, s1_22, s8_22, s9_22, s10_22, s12_22, s105_22, hE22, i0_22, i1_22⟩
          · rintro _ w31 ⟨y21, rfl, s0_31, s1_31, s8_31, s9_31, s10_31, s12_31, s105_31, hE31, i0_31, i1_31⟩
            simp only [Sum.elim_inl] at H
            refine W_th ?_
            refine W_seq ?_
            refine W_seq ?_
            refine W_reg (by kernel_rfl) ?_
            refine wla rfl rfl (q_move (v := p0) rfl s0_31) ?_
            refine wla rfl rfl (q_len rfl T22.sl rfl (hp0.lift (Lift.ext hE31 _))) ?_
            refine wla rfl rfl (q_move (v := p1) rfl s1_31) ?_
            refine wla rfl rfl (q_len rfl T22.sl rfl (hp1.lift (Lift.ext hE31 _))) ?_
            refine wla rfl rfl (q_neI rfl rfl rfl) ?_
            refine wl_nil ?_
            refine W_th ?_
            refine W_cond _ rfl rfl (fun hb32 => ?_) (fun hb32 => ?_)
            · replace H := (if_neg (ndec_t hb32)).symm.trans H
              refine W_seq ?_
              refine W_reg (by kernel_rfl) ?_
              refine wla rfl rfl (q_move (v := (i64 r14.2)) rfl s9_31) ?_
              refine wla rfl rfl (q_eqI rfl rfl rfl) ?_
              refine wlb rfl rfl (q_move (v := (.bool ((decide (r14.2 = 1))))) rfl rfl) (fun hb33 => ?_) (fun hb33 => ?_)
              · replace H := (if_pos (of_decide_eq_true hb33)).symm.trans H
                refine wla rfl rfl (q_move (v := v14_0) rfl s8_31) ?_
                refine wla rfl rfl (q_len rfl T22.sl rfl i0_31) ?_
                refine wla rfl rfl (q_eqI rfl rfl rfl) ?_
                refine wla rfl rfl (q_pick_t (v := (.bool ((decide ((r14.1.length : Int) = 0))))) rfl rfl rfl) ?_
                refine wla rfl rfl (q_assign (v := (.bool ((decide ((r14.1.length : Int) = 0))))) rfl rfl) ?_
                refine wl_nil ?_
                refine W_th ?_
                refine W_ret ?_
                refine th_r ?_
                obtain rfl := Option.some.inj H
                refine rt1 (.bool ((decide ((r14.1.length : Int) = 0)))) rfl rfl rfl s105_31 ?_
                exact ⟨rfl, hE31⟩
              · replace H := (if_neg (of_decide_eq_false hb33)).symm.trans H
                refine wlk rfl rfl ?_
                refine wlk rfl rfl ?_
                refine wlk rfl rfl ?_
                refine wla rfl rfl (q_pick_f (v := (.bool false)) rfl rfl rfl) ?_
                refine wla rfl rfl (q_assign (v := (.bool false)) rfl rfl) ?_
                refine wl_nil ?_
                refine W_th ?_
                refine W_ret ?_
                refine th_r ?_
                obtain rfl := Option.some.inj H
                refine rt1 (.bool false) rfl rfl rfl s105_31 ?_
                exact ⟨rfl, hE31⟩
            · replace H := (if_pos (ndec_f hb32)).symm.trans H
              refine W_skip ?_
              refine W_th ?_
              refine W_seq ?_
              refine W_seq ?_
              refine W_reg (by kernel_rfl) ?_
              refine wla rfl rfl (q_move (v := (i64 r18)) rfl s12_31) ?_
              refine wla rfl rfl (q_neI rfl rfl rfl) ?_
              refine wl_nil ?_
              refine W_th ?_
              refine W_cond _ rfl rfl (fun hb34 => ?_) (fun hb34 => ?_)
              · replace H := (if_neg (ndec_t hb34)).symm.trans H
                refine W_seq ?_
                refine W_reg (by kernel_rfl) ?_
                refine wla rfl rfl (q_move (v := (i64 r14.2)) rfl s9_31) ?_
                refine wla rfl rfl (q_move (v := (i64 r18)) rfl s12_31) ?_
                refine wla rfl rfl (q_eqI rfl rfl rfl) ?_
                refine wlb rfl rfl (q_move (v := (.bool ((decide (r14.2 = r18))))) rfl rfl) (fun hb35 => ?_) (fun hb35 => ?_)
                · replace H := (if_pos (of_decide_eq_true hb35)).symm.trans H
                  refine wla rfl rfl (q_move (v := v14_0) rfl s8_31) ?_
                  refine wla rfl rfl (q_len rfl T22.sl rfl i0_31) ?_
                  refine wla rfl rfl (q_move (v := v16_0) rfl s10_31) ?_
                  refine wla rfl rfl (q_len rfl T22.sl rfl i1_31) ?_
                  refine wla rfl rfl (q_addI rfl rfl rfl) ?_
                  refine wla rfl rfl (q_eqI rfl rfl rfl) ?_
                  refine wla rfl rfl (q_pick_t (v := (.bool ((decide ((wI ((r14.1.length : Int) + (r16.1.length : Int))) = 0))))) rfl rfl rfl) ?_
                  refine wla rfl rfl (q_assign (v := (.bool ((decide ((wI ((r14.1.length : Int) + (r16.1.length : Int))) = 0))))) rfl rfl) ?_
                  refine wl_nil ?_
                  refine W_th ?_
                  refine W_ret ?_
                  refine th_r ?_
                  obtain rfl := Option.some.inj H
                  refine rt1 (.bool ((decide ((wI ((r14.1.length : Int) + (r16.1.length : Int))) = 0)))) rfl rfl rfl s105_31 ?_
                  exact ⟨rfl, hE31⟩
                · replace H := (if_neg (of_decide_eq_false hb35)).symm.trans H
                  refine wlk rfl rfl ?_
                  refine wlk rfl rfl ?_
                  refine wlk rfl rfl ?_
                  refine wlk rfl rfl ?_
                  refine wlk rfl rfl ?_
                  refine wlk rfl rfl ?_
                  refine wla rfl rfl (q_pick_f (v := (.bool false)) rfl rfl rfl) ?_
                  refine wla rfl rfl (q_assign (v := (.bool false)) rfl rfl) ?_
                  refine wl_nil ?_
                  refine W_th ?_
                  refine W_ret ?_
                  refine th_r ?_
                  obtain rfl := Option.some.inj H
                  refine rt1 (.bool false) rfl rfl rfl s105_31 ?_
                  exact ⟨rfl, hE31⟩
              · replace H := (if_pos (ndec_f hb34)).symm.trans H
                refine W_skip ?_
                refine W_th ?_
                refine W_seq ?_
                refine W_draw [11, 15] [(0, 0), (1, 0), (2, 0), (3, 0), (4, 0), (5, 0), (6, 0), (7, 0), (8, 0), (9, 0), (10, 0), (11, 1), (12, 0), (13, 0), (14, 2), (15, 1), (16, 0), (17, 0), (18, 0)] mixed (by kernel_rfl) (by kernel_rfl) (by kernel_rfl) (by kernel_rfl) ?_
                have x36 := Ext.drew w31
                replace i0_31 := i0_31.lift (Lift.ext x36 _)
                replace i1_31 := i1_31.lift (Lift.ext x36 _)
                have e37 := hE31.trans x36
                refine wsa rfl rfl rfl (q_move (v := (i64 r14.2)) rfl s9_31) ?_
                refine wsa rfl rfl rfl (q_eqI rfl rfl rfl) ?_
                refine wsb rfl rfl rfl (q_move (v := (.bool ((decide (r14.2 = 0))))) rfl rfl) (fun hb38 => ?_) (fun hb38 => ?_)
                · replace H := (if_pos (of_decide_eq_true hb38)).symm.trans H
                  refine wsa rfl rfl rfl (q_move (v := v16_0) rfl s10_31) ?_
                  refine wsa rfl rfl rfl (q_len rfl T22.sl rfl i1_31) ?_
                  refine wsa rfl rfl rfl (q_move (v := p0) rfl s0_31) ?_
                  refine wsa rfl rfl rfl (q_len rfl T22.sl rfl (hp0.lift (Lift.ext e37 _))) ?_
                  refine wsa rfl rfl rfl (q_eqI rfl rfl rfl) ?_
                  refine wsa rfl rfl rfl (q_pick_t (v := (.bool ((decide ((r16.1.length : Int) = (a0xs.length : Int)))))) rfl rfl rfl) ?_
                  refine wsb rfl rfl rfl (q_move (v := (.bool ((decide ((r16.1.length : Int) = (a0xs.length : Int)))))) rfl rfl) (fun hb39 => ?_) (fun hb39 => ?_)
                  · replace H := (if_pos (of_decide_eq_true hb39)).symm.trans H
                    refine wsa rfl rfl rfl (q_move (v := v14_0) rfl s8_31) ?_
                    refine wsq rfl rfl rfl (q_str rfl T22 rfl rfl rfl i0_31) ?_
                    refine wsa rfl rfl rfl (q_move (v := p0) rfl s0_31) ?_
                    refine wsa rfl rfl rfl (q_move (v := p1) rfl s1_31) ?_
                    obtain ⟨r40, hr40, H⟩ := Option.bind_eq_some_iff.1 H
                    refine wss rfl rfl rfl (stp_call (vs := [p0, p1]) Try.func35 rfl rfl rfl (ar2 rfl rfl) (ref03_Through_calls a0xs a1ys p0 p1 r40 _ (hp0.lift (Lift.ext e37 _)) (hp1.lift (Lift.ext e37 _)) hr40) ?_)
                    rintro _ w40 ⟨v40, rfl, x40, n40_0, o40_0⟩
                    refine ⟨_, rfl, x40, ?_⟩
                    have i40_0 : By w40 [] v40 r40 := OwK.slk (Sc.stab _) _ (OwK.scal o40_0 (v40 :: [])) (fun k hk => (Old.nil _) k (n40_0 k hk)) (fun _ h => h.2)
                    replace i0_31 := i0_31.lift (Lift.ext x40 _)
                    replace i1_31 := i1_31.lift (Lift.ext x40 _)
                    have e41 := e37.trans x40
                    refine wsq rfl rfl rfl (q_str rfl T22 rfl rfl rfl i40_0) ?_
                    refine wsa rfl rfl rfl (q_eqS rfl rfl rfl) ?_
                    refine wsa rfl rfl rfl (q_pick_t (v := (.bool ((decide (r14.1 = r40))))) rfl rfl rfl) ?_
                    refine wsa rfl rfl rfl (q_assign (v := (.bool ((decide (r14.1 = r40))))) rfl rfl) ?_
                    refine ws_nil ?_
                    refine W_th ?_
                    refine W_ret ?_
                    obtain rfl := Option.some.inj H
                    refine rt1 (.bool ((decide (r14.1 = r40)))) rfl rfl rfl s105_31 ?_
                    exact ⟨rfl, e41⟩
                  · replace H := (if_neg (of_decide_eq_false hb39)).symm.trans H
                    refine wsk rfl rfl rfl ?_
                    refine wsk rfl rfl rfl ?_
                    refine wsk rfl rfl rfl ?_
                    refine wsk rfl rfl rfl ?_
                    refine wsk rfl rfl rfl ?_
                    refine wsk rfl rfl rfl ?_
                    refine wsk rfl rfl rfl ?_
                    refine wsa rfl rfl rfl (q_pick_f (v := (.bool false)) rfl rfl rfl) ?_
                    refine wsa rfl rfl rfl (q_assign (v := (.bool false)) rfl rfl) ?_
                    refine ws_nil ?_
                    refine W_th ?_
                    refine W_ret ?_
                    obtain rfl := Option.some.inj H
                    refine rt1 (.bool false) rfl rfl rfl s105_31 ?_
                    exact ⟨rfl, e37⟩
                · replace H := (if_neg (of_decide_eq_false hb38)).symm.trans H
                  refine wsk rfl rfl rfl ?_
                  refine wsk rfl rfl rfl ?_
                  refine wsk rfl rfl rfl ?_
                  refine wsk rfl rfl rfl ?_
                  refine wsk rfl rfl rfl ?_
                  refine wsa rfl rfl rfl (q_pick_f (v := (.bool false)) rfl rfl rfl) ?_
                  refine wsa rfl rfl rfl (q_move (v := (.bool false)) rfl rfl) ?_
                  refine wsk rfl rfl rfl ?_
                  refine wsk rfl rfl rfl ?_
                  refine wsk rfl rfl rfl ?_
                  refine wsk rfl rfl rfl ?_
                  refine wsk rfl rfl rfl ?_
                  refine wsk rfl rfl rfl ?_
                  refine wsk rfl rfl rfl ?_
                  refine wsa rfl rfl rfl (q_pick_f (v := (.bool false)) rfl rfl rfl) ?_
                  refine wsa rfl rfl rfl (q_assign (v := (.bool false)) rfl rfl) ?_
                  refine ws_nil ?_
                  refine W_th ?_
                  refine W_ret ?_
                  obtain rfl := Option.some.inj H
                  refine rt1 (.bool false) rfl rfl rfl s105_31 ?_
                  exact ⟨rfl, e37⟩

end Gk

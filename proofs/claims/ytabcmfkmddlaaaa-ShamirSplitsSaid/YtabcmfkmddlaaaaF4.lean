/- Printed by gen.py: for each Go function a pure function, and that the Go code comes to it. No condition beside the equation that says what the pure function gives. -/
import Derived.Test.YtabcmfkmddlaaaaF3
set_option linter.unusedVariables false
set_option linter.unusedSimpArgs false
namespace Gk
open Go Go.Proofs

/-! largesse/largesseref03.Eval -/
noncomputable def ref03_Eval (a0p : List UInt8) (a1x : UInt8) : Option UInt8 :=
((iterC (fun s1 : UInt8 × UInt8 × Int =>
(if s1.2.2 < (a0p.length : Int) then
((idx a0p s1.2.2).bind fun c4 =>
((ref02_Mul c4 s1.2.1).bind fun r5 =>
((ref02_Mul s1.2.1 a1x).bind fun r7 => some (.inl ((s1.1 ^^^ r5), r7, (wI (s1.2.2 + 1)))))))
else some (.inr s1.1))) ((0 : UInt8), (1 : UInt8), 0)).bind fun x1 => some x1)
set_option maxRecDepth 100000 in
set_option maxHeartbeats 8000000 in
theorem ref03_Eval_calls (a0p : List UInt8) (a1x : UInt8) (p0 : Value) (r : UInt8) (w0 : World) (hp0 : By w0 [] p0 a0p) (H : ref03_Eval a0p a1x = some r) :
    Calls Try.prog 49 [p0, (u8 a1x)].toArray w0 (fun e w' => e = .returned (u8 r) ∧ Ext w0 w') := by
  have hE : Ext w0 w0 := Ext.refl w0
  unfold ref03_Eval at H
  refine calls_W (n := 25) Try.func49 rfl rfl rfl ?_
  refine W_seq ?_
  refine W_reg (by kernel_rfl) ?_
  refine wla rfl rfl (q_assign (v := (u8 0)) rfl (cst8 (0 : UInt8) rfl)) ?_
  refine wl_nil ?_
  refine W_th ?_
  refine W_seq ?_
  refine W_reg (by kernel_rfl) ?_
  refine wla rfl rfl (q_assign (v := (u8 0)) rfl (cst8 (0 : UInt8) rfl)) ?_
  refine wla rfl rfl (q_assign (v := (u8 1)) rfl (cst8 (1 : UInt8) rfl)) ?_
  refine wl_nil ?_
  refine W_th ?_
  refine W_seq ?_
  refine W_seq ?_
  refine W_reg (by kernel_rfl) ?_
  refine wla rfl rfl (q_move (v := p0) rfl rfl) ?_
  refine wla rfl rfl (q_len rfl T22.sl rfl (hp0.lift (Lift.ext hE _))) ?_
  refine wla rfl rfl (q_move (v := (i64 0)) rfl rfl) ?_
  refine wl_nil ?_
  refine W_th ?_
  obtain ⟨x1, G1, H⟩ := Option.bind_eq_some_iff.1 H
  refine W_mid (fun f w => f 5 = (u8 x1) ∧ f 25 = undef ∧ Ext w0 w) ?_ ?_
  · refine W_block ?_
    refine W_loop (fun s1 f w => f 1 = (u8 a1x) ∧ f 5 = (u8 s1.1) ∧ f 6 = (u8 s1.2.1) ∧ f 9 = p0 ∧ f 10 = (i64 ((a0p.length : Int))) ∧ f 11 = (i64 s1.2.2) ∧ f 25 = undef ∧ Ext w0 w) G1 ?_ ?_
    · exact ⟨rfl, rfl, rfl, rfl, rfl, rfl, rfl, hE⟩
    · rintro s1 _ _ w2 ⟨s1_2, s5_2, s6_2, s9_2, s10_2, s11_2, s25_2, hE2⟩ H1 hr1
      refine W_seq ?_
      refine W_reg (by kernel_rfl) ?_
      refine wla rfl rfl (q_ltI rfl s11_2 s10_2) ?_
      refine wl_nil ?_
      refine W_th ?_
      refine W_seq ?_
      refine W_cond _ rfl rfl (fun hb3 => ?_) (fun hb3 => ?_)
      · replace H1 := (if_pos (of_decide_eq_true hb3)).symm.trans H1
        refine W_skip ?_
        refine W_th ?_
        refine W_seq ?_
        refine W_block ?_
        refine W_seq ?_
        refine W_reg (by kernel_rfl) ?_
        obtain ⟨c4, hc4, H1⟩ := Option.bind_eq_some_iff.1 H1
        refine wla rfl rfl (q_adr rfl T22 s9_2 s11_2 (hp0.lift (Lift.ext hE2 _)) hc4) ?_
        refine wlq rfl rfl (q_loadS rfl T22 rfl (hp0.lift (Lift.ext hE2 _)) hc4) ?_
        refine wla rfl rfl (q_assign (v := (u8 c4)) rfl rfl) ?_
        refine wl_nil ?_
        refine W_th ?_
        refine W_seq ?_
        refine W_reg (by kernel_rfl) ?_
        refine wla rfl rfl (q_move (v := (u8 s1.1)) rfl s5_2) ?_
        refine wla rfl rfl (q_move (v := (u8 c4)) rfl rfl) ?_
        refine wla rfl rfl (q_move (v := (u8 s1.2.1)) rfl s6_2) ?_
        obtain ⟨r5, hr5, H1⟩ := Option.bind_eq_some_iff.1 H1
        refine wls rfl rfl (stp_call (vs := [(u8 c4), (u8 s1.2.1)]) Try.func44 rfl rfl rfl (ar2 rfl rfl) (ref02_Mul_calls c4 s1.2.1  r5 _  hr5) ?_)
        rintro _ w5 ⟨rfl, x5⟩
        refine ⟨_, rfl, ?_⟩
        have e6 := hE2.trans x5
        refine wla rfl rfl (q_xor8 rfl rfl rfl) ?_
        refine wla rfl rfl (q_assign (v := (u8 ((s1.1 ^^^ r5)))) rfl rfl) ?_
        refine wl_nil ?_
        refine W_th ?_
        refine W_reg (by kernel_rfl) ?_
        refine wla rfl rfl (q_move (v := (u8 s1.2.1)) rfl s6_2) ?_
        refine wla rfl rfl (q_move (v := (u8 a1x)) rfl s1_2) ?_
        obtain ⟨r7, hr7, H1⟩ := Option.bind_eq_some_iff.1 H1
        refine wls rfl rfl (stp_call (vs := [(u8 s1.2.1), (u8 a1x)]) Try.func44 rfl rfl rfl (ar2 rfl rfl) (ref02_Mul_calls s1.2.1 a1x  r7 _  hr7) ?_)
        rintro _ w7 ⟨rfl, x7⟩
        refine ⟨_, rfl, ?_⟩
        have e8 := e6.trans x7
        refine wla rfl rfl (q_assign (v := (u8 r7)) rfl rfl) ?_
        refine wl_nil ?_
        refine bk_n ?_
        refine W_th ?_
        refine W_reg (by kernel_rfl) ?_
        refine wla rfl rfl (q_addI rfl s11_2 rfl) ?_
        refine wla rfl rfl (q_move (v := (i64 ((wI (s1.2.2 + 1))))) rfl rfl) ?_
        refine wl_nil ?_
        obtain rfl := Option.some.inj H1
        exact ⟨_, rfl, s1_2, rfl, rfl, s9_2, s10_2, rfl, s25_2, e8⟩
      · replace H1 := (if_neg (of_decide_eq_false hb3)).symm.trans H1
        refine W_exit ?_
        refine th_x ?_
        obtain rfl := Option.some.inj H1
        obtain rfl := hr1 _ rfl
        refine th_x ?_
        refine bk_x ?_
        exact ⟨s5_2, s25_2, hE2⟩
  · rintro _ w10 ⟨s5_10, s25_10, hE10⟩
    refine W_th ?_
    refine W_seq ?_
    refine W_reg (by kernel_rfl) ?_
    refine wla rfl rfl (q_move (v := (u8 x1)) rfl s5_10) ?_
    refine wla rfl rfl (q_assign (v := (u8 x1)) rfl rfl) ?_
    refine wl_nil ?_
    refine W_th ?_
    refine W_ret ?_
    obtain rfl := Option.some.inj H
    refine rt1 (u8 x1) rfl rfl rfl s25_10 ?_
    exact ⟨rfl, hE10⟩

/-! largesse/largesseref03.Places -/
noncomputable def ref03_Places (a0xs : List UInt8) : Option Int :=
(if (a0xs.length : Int) = 0 then some 5
else
(if 255 < (a0xs.length : Int) then some 4
else
((iterC (fun s3 : Int =>
(if s3 < (a0xs.length : Int) then
((iterC (fun s6 : Int =>
(if s6 < s3 then
((idx a0xs s3).bind fun c11 =>
((idx a0xs s6).bind fun c12 =>
(if c11 = c12 then some (.inr (.inr 6))
else some (.inl (wI (s6 + 1))))))
else some (.inr (.inl ())))) 0).bind (Sum.elim (fun y6 => some (.inl (wI (s3 + 1)))) (fun q6 => some (.inr (.inr q6)))))
else some (.inr (.inl ())))) 0).bind (Sum.elim (fun y3 => some 0) (fun q3 => some q3)))))
set_option maxRecDepth 100000 in
set_option maxHeartbeats 8000000 in
theorem ref03_Places_calls (a0xs : List UInt8) (p0 : Value) (r : Int) (w0 : World) (hp0 : By w0 [] p0 a0xs) (H : ref03_Places a0xs = some r) :
    Calls Try.prog 13 [p0].toArray w0 (fun e w' => e = .returned (i64 r) ∧ Ext w0 w') := by
  have hE : Ext w0 w0 := Ext.refl w0
  unfold ref03_Places at H
  refine calls_W (n := 31) Try.func13 rfl rfl rfl ?_
  refine W_seq ?_
  refine W_reg (by kernel_rfl) ?_
  refine wla rfl rfl (q_assign (v := (i64 0)) rfl rfl) ?_
  refine wl_nil ?_
  refine W_th ?_
  refine W_seq ?_
  refine W_seq ?_
  refine W_reg (by kernel_rfl) ?_
  refine wla rfl rfl (q_move (v := p0) rfl rfl) ?_
  refine wla rfl rfl (q_len rfl T22.sl rfl (hp0.lift (Lift.ext hE _))) ?_
  refine wla rfl rfl (q_eqI rfl rfl rfl) ?_
  refine wl_nil ?_
  refine W_th ?_
  refine W_cond _ rfl rfl (fun hb1 => ?_) (fun hb1 => ?_)
  · replace H := (if_pos (of_decide_eq_true hb1)).symm.trans H
    refine W_seq ?_
    refine W_reg (by kernel_rfl) ?_
    refine wla rfl rfl (q_assign (v := (i64 5)) rfl rfl) ?_
    refine wl_nil ?_
    refine W_th ?_
    refine W_ret ?_
    refine th_r ?_
    obtain rfl := Option.some.inj H
    refine rt1 (i64 5) rfl rfl rfl rfl ?_
    exact ⟨rfl, hE⟩
  · replace H := (if_neg (of_decide_eq_false hb1)).symm.trans H
    refine W_skip ?_
    refine W_th ?_
    refine W_seq ?_
    refine W_seq ?_
    refine W_reg (by kernel_rfl) ?_
    refine wla rfl rfl (q_move (v := p0) rfl rfl) ?_
    refine wla rfl rfl (q_len rfl T22.sl rfl (hp0.lift (Lift.ext hE _))) ?_
    refine wla rfl rfl (q_gtI rfl rfl rfl) ?_
    refine wl_nil ?_
    refine W_th ?_
    refine W_cond _ rfl rfl (fun hb2 => ?_) (fun hb2 => ?_)
    · replace H := (if_pos (of_decide_eq_true hb2)).symm.trans H
      refine W_seq ?_
      refine W_reg (by kernel_rfl) ?_
      refine wla rfl rfl (q_assign (v := (i64 4)) rfl rfl) ?_
      refine wl_nil ?_
      refine W_th ?_
      refine W_ret ?_
      refine th_r ?_
      obtain rfl := Option.some.inj H
      refine rt1 (i64 4) rfl rfl rfl rfl ?_
      exact ⟨rfl, hE⟩
    · replace H := (if_neg (of_decide_eq_false hb2)).symm.trans H
      refine W_skip ?_
      refine W_th ?_
      refine W_seq ?_
      refine W_seq ?_
      refine W_reg (by kernel_rfl) ?_
      refine wla rfl rfl (q_move (v := p0) rfl rfl) ?_
      refine wla rfl rfl (q_len rfl T22.sl rfl (hp0.lift (Lift.ext hE _))) ?_
      refine wla rfl rfl (q_move (v := (i64 0)) rfl rfl) ?_
      refine wl_nil ?_
      refine W_th ?_
      obtain ⟨x3, G3, H⟩ := Option.bind_eq_some_iff.1 H
      refine W_mid (fun f w => ∃ y3, x3 = .inl y3 ∧ f 31 = undef ∧ Ext w0 w) ?_ ?_
      · refine W_block ?_
        refine W_loop (fun s3 f w => f 0 = p0 ∧ f 12 = (i64 ((a0xs.length : Int))) ∧ f 13 = (i64 s3) ∧ f 31 = undef ∧ Ext w0 w) G3 ?_ ?_
        · exact ⟨rfl, rfl, rfl, rfl, hE⟩
        · rintro s3 _ _ w4 ⟨s0_4, s12_4, s13_4, s31_4, hE4⟩ H3 hr3
          refine W_seq ?_
          refine W_reg (by kernel_rfl) ?_
          refine wla rfl rfl (q_ltI rfl s13_4 s12_4) ?_
          refine wl_nil ?_
          refine W_th ?_
          refine W_seq ?_
          refine W_cond _ rfl rfl (fun hb5 => ?_) (fun hb5 => ?_)
          · replace H3 := (if_pos (of_decide_eq_true hb5)).symm.trans H3
            refine W_skip ?_
            refine W_th ?_
            refine W_seq ?_
            refine W_block ?_
            refine W_seq ?_
            refine W_reg (by kernel_rfl) ?_
            refine wla rfl rfl (q_move (v := (i64 s3)) rfl s13_4) ?_
            refine wla rfl rfl (q_assign (v := (i64 s3)) rfl rfl) ?_
            refine wl_nil ?_
            refine W_th ?_
            refine W_seq ?_
            refine W_reg (by kernel_rfl) ?_
            refine wla rfl rfl (q_assign (v := (i64 0)) rfl rfl) ?_
            refine wl_nil ?_
            refine W_th ?_
            obtain ⟨x6, G6, H3⟩ := Option.bind_eq_some_iff.1 H3
            refine W_mid (fun f w => ∃ y6, x6 = .inl y6 ∧ f 0 = p0 ∧ f 12 = (i64 ((a0xs.length : Int))) ∧ f 13 = (i64 s3) ∧ f 31 = undef ∧ Ext w0 w) ?_ ?_
            · refine W_block ?_
              refine W_loop (fun s6 f w => f 0 = p0 ∧ f 3 = (i64 s3) ∧ f 4 = (i64 s6) ∧ f 12 = (i64 ((a0xs.length : Int))) ∧ f 13 = (i64 s3) ∧ f 31 = undef ∧ Ext w0 w) G6 ?_ ?_
              · exact ⟨s0_4, rfl, rfl, s12_4, s13_4, s31_4, hE4⟩
              · rintro s6 _ _ w7 ⟨s0_7, s3_7, s4_7, s12_7, s13_7, s31_7, hE7⟩ H6 hr6
                refine W_seq ?_
                refine W_seq ?_
                refine W_reg (by kernel_rfl) ?_
                refine wla rfl rfl (q_move (v := (i64 s6)) rfl s4_7) ?_
                refine wla rfl rfl (q_move (v := (i64 s3)) rfl s3_7) ?_
                refine wla rfl rfl (q_ltI rfl rfl rfl) ?_
                refine wl_nil ?_
                refine W_th ?_
                refine W_cond _ rfl rfl (fun hb8 => ?_) (fun hb8 => ?_)
                · replace H6 := (if_pos (of_decide_eq_true hb8)).symm.trans H6
                  refine W_skip ?_
                  refine W_th ?_
                  refine W_seq ?_
                  refine W_block ?_
                  refine W_seq ?_
                  refine W_draw [3, 7] [(0, 0), (1, 0), (2, 0), (3, 1), (4, 0), (5, 0), (6, 0), (7, 1), (8, 0)] mixed (by kernel_rfl) (by kernel_rfl) (by kernel_rfl) (by kernel_rfl) ?_
                  have x9 := Ext.drew w7
                  have e10 := hE7.trans x9
                  refine wsa rfl rfl rfl (q_move (v := p0) rfl s0_7) ?_
                  refine wsa rfl rfl rfl (q_move (v := (i64 s3)) rfl s3_7) ?_
                  obtain ⟨c11, hc11, H6⟩ := Option.bind_eq_some_iff.1 H6
                  refine wsa rfl rfl rfl (q_adr rfl T22 rfl rfl (hp0.lift (Lift.ext e10 _)) hc11) ?_
                  refine wsq rfl rfl rfl (q_loadS rfl T22 rfl (hp0.lift (Lift.ext e10 _)) hc11) ?_
                  refine wsa rfl rfl rfl (q_move (v := p0) rfl s0_7) ?_
                  refine wsa rfl rfl rfl (q_move (v := (i64 s6)) rfl s4_7) ?_
                  obtain ⟨c12, hc12, H6⟩ := Option.bind_eq_some_iff.1 H6
                  refine wsa rfl rfl rfl (q_adr rfl T22 rfl rfl (hp0.lift (Lift.ext e10 _)) hc12) ?_
                  refine wsq rfl rfl rfl (q_loadS rfl T22 rfl (hp0.lift (Lift.ext e10 _)) hc12) ?_
                  refine wsa rfl rfl rfl (q_eq8 rfl rfl rfl) ?_
                  refine ws_nil ?_
                  refine W_th ?_
                  refine W_cond _ rfl rfl (fun hb13 => ?_) (fun hb13 => ?_)
                  · replace H6 := (if_pos (of_decide_eq_true hb13)).symm.trans H6
                    refine W_seq ?_
                    refine W_reg (by kernel_rfl) ?_
                    refine wla rfl rfl (q_assign (v := (i64 6)) rfl rfl) ?_
                    refine wl_nil ?_
                    refine W_th ?_
                    refine W_ret ?_
                    refine bk_r ?_
                    refine th_r ?_
                    obtain rfl := Option.some.inj H6
                    obtain rfl := hr6 _ rfl
                    simp only [Sum.elim_inr] at H3
                    refine th_r ?_
                    refine bk_r ?_
                    refine th_r ?_
                    refine bk_r ?_
                    refine th_r ?_
                    obtain rfl := Option.some.inj H3
                    obtain rfl := hr3 _ rfl
                    simp only [Sum.elim_inr] at H
                    refine th_r ?_
                    refine bk_r ?_
                    refine th_r ?_
                    refine th_r ?_
                    obtain rfl := Option.some.inj H
                    refine rt1 (i64 6) rfl rfl rfl s31_7 ?_
                    exact ⟨rfl, e10⟩
                  · replace H6 := (if_neg (of_decide_eq_false hb13)).symm.trans H6
                    refine W_skip ?_
                    refine bk_n ?_
                    refine W_th ?_
                    refine W_reg (by kernel_rfl) ?_
                    refine wla rfl rfl (q_move (v := (i64 s6)) rfl s4_7) ?_
                    refine wla rfl rfl (q_addI rfl rfl rfl) ?_
                    refine wla rfl rfl (q_assign (v := (i64 ((wI (s6 + 1))))) rfl rfl) ?_
                    refine wl_nil ?_
                    obtain rfl := Option.some.inj H6
                    exact ⟨_, rfl, s0_7, s3_7, rfl, s12_7, s13_7, s31_7, e10⟩
                · replace H6 := (if_neg (of_decide_eq_false hb8)).symm.trans H6
                  refine W_exit ?_
                  refine th_x ?_
                  obtain rfl := Option.some.inj H6
                  obtain rfl := hr6 _ rfl
                  refine th_x ?_
                  refine bk_x ?_
                  exact ⟨_, rfl, s0_7, s12_7, s13_7, s31_7, hE7⟩
            · rintro _ w15 ⟨y6, rfl, s0_15, s12_15, s13_15, s31_15, hE15⟩
              simp only [Sum.elim_inl] at H3
              refine bk_n ?_
              refine W_th ?_
              refine W_reg (by kernel_rfl) ?_
              refine wla rfl rfl (q_addI rfl s13_15 rfl) ?_
              refine wla rfl rfl (q_move (v := (i64 ((wI (s3 + 1))))) rfl rfl) ?_
              refine wl_nil ?_
              obtain rfl := Option.some.inj H3
              exact ⟨_, rfl, s0_15, s12_15, rfl, s31_15, hE15⟩
          · replace H3 := (if_neg (of_decide_eq_false hb5)).symm.trans H3
            refine W_exit ?_
            refine th_x ?_
            obtain rfl := Option.some.inj H3
            obtain rfl := hr3 _ rfl
            refine th_x ?_
            refine bk_x ?_
            exact ⟨_, rfl, s31_4, hE4⟩
      · rintro _ w18 ⟨y3, rfl, s31_18, hE18⟩
        simp only [Sum.elim_inl] at H
        refine W_th ?_
        refine W_seq ?_
        refine W_reg (by kernel_rfl) ?_
        refine wla rfl rfl (q_assign (v := (i64 0)) rfl rfl) ?_
        refine wl_nil ?_
        refine W_th ?_
        refine W_ret ?_
        obtain rfl := Option.some.inj H
        refine rt1 (i64 0) rfl rfl rfl s31_18 ?_
        exact ⟨rfl, hE18⟩

/-! largesse/largesseref03.Weight -/
noncomputable def ref03_Weight (a0xs : List UInt8) (a1i : Int) (a2x : UInt8) : Option UInt8 :=
((iterC (fun s1 : UInt8 × Int =>
(if s1.2 < (a0xs.length : Int) then
(if s1.2 = a1i then some (.inl (s1.1, (wI (s1.2 + 1))))
else
((idx a0xs s1.2).bind fun c7 =>
((idx a0xs a1i).bind fun c8 =>
((ref02_Inv (c8 ^^^ c7)).bind fun r9 =>
((ref02_Mul (a2x ^^^ c7) r9).bind fun r11 =>
((ref02_Mul s1.1 r11).bind fun r13 => some (.inl (r13, (wI (s1.2 + 1))))))))))
else some (.inr s1.1))) ((1 : UInt8), 0)).bind fun x1 => some x1)
set_option maxRecDepth 100000 in
set_option maxHeartbeats 8000000 in
theorem ref03_Weight_calls (a0xs : List UInt8) (a1i : Int) (a2x : UInt8) (p0 : Value) (r : UInt8) (w0 : World) (hp0 : By w0 [] p0 a0xs) (H : ref03_Weight a0xs a1i a2x = some r) :
    Calls Try.prog 45 [p0, (i64 a1i), (u8 a2x)].toArray w0 (fun e w' => e = .returned (u8 r) ∧ Ext w0 w') := by
  have hE : Ext w0 w0 := Ext.refl w0
  unfold ref03_Weight at H
  refine calls_W (n := 38) Try.func45 rfl rfl rfl ?_
  refine W_seq ?_
  refine W_reg (by kernel_rfl) ?_
  refine wla rfl rfl (q_assign (v := (u8 0)) rfl (cst8 (0 : UInt8) rfl)) ?_
  refine wl_nil ?_
  refine W_th ?_
  refine W_seq ?_
  refine W_reg (by kernel_rfl) ?_
  refine wla rfl rfl (q_assign (v := (u8 1)) rfl (cst8 (1 : UInt8) rfl)) ?_
  refine wl_nil ?_
  refine W_th ?_
  refine W_seq ?_
  refine W_seq ?_
  refine W_reg (by kernel_rfl) ?_
  refine wla rfl rfl (q_move (v := p0) rfl rfl) ?_
  refine wla rfl rfl (q_len rfl T22.sl rfl (hp0.lift (Lift.ext hE _))) ?_
  refine wla rfl rfl (q_move (v := (i64 0)) rfl rfl) ?_
  refine wl_nil ?_
  refine W_th ?_
  obtain ⟨x1, G1, H⟩ := Option.bind_eq_some_iff.1 H
  refine W_mid (fun f w => f 7 = (u8 x1) ∧ f 38 = undef ∧ Ext w0 w) ?_ ?_
  · refine W_block ?_
    refine W_loop (fun s1 f w => f 0 = p0 ∧ f 1 = (i64 a1i) ∧ f 2 = (u8 a2x) ∧ f 7 = (u8 s1.1) ∧ f 10 = (i64 ((a0xs.length : Int))) ∧ f 11 = (i64 s1.2) ∧ f 38 = undef ∧ Ext w0 w) G1 ?_ ?_
    · exact ⟨rfl, rfl, rfl, rfl, rfl, rfl, rfl, hE⟩
    · rintro s1 _ _ w2 ⟨s0_2, s1_2, s2_2, s7_2, s10_2, s11_2, s38_2, hE2⟩ H1 hr1
      refine W_seq ?_
      refine W_reg (by kernel_rfl) ?_
      refine wla rfl rfl (q_ltI rfl s11_2 s10_2) ?_
      refine wl_nil ?_
      refine W_th ?_
      refine W_seq ?_
      refine W_cond _ rfl rfl (fun hb3 => ?_) (fun hb3 => ?_)
      · replace H1 := (if_pos (of_decide_eq_true hb3)).symm.trans H1
        refine W_skip ?_
        refine W_th ?_
        refine W_seq ?_
        refine W_block ?_
        refine W_seq ?_
        refine W_reg (by kernel_rfl) ?_
        refine wla rfl rfl (q_move (v := (i64 s1.2)) rfl s11_2) ?_
        refine wla rfl rfl (q_assign (v := (i64 s1.2)) rfl rfl) ?_
        refine wl_nil ?_
        refine W_th ?_
        refine W_seq ?_
        refine W_reg (by kernel_rfl) ?_
        refine wla rfl rfl (q_move (v := (i64 s1.2)) rfl rfl) ?_
        refine wla rfl rfl (q_move (v := (i64 a1i)) rfl s1_2) ?_
        refine wla rfl rfl (q_neI rfl rfl rfl) ?_
        refine wl_nil ?_
        refine W_th ?_
        refine W_cond _ rfl rfl (fun hb4 => ?_) (fun hb4 => ?_)
        · replace H1 := (if_neg (ndec_t hb4)).symm.trans H1
          refine W_draw [5, 10, 14] [(0, 0), (1, 0), (2, 0), (3, 0), (4, 0), (5, 1), (6, 0), (7, 0), (8, 0), (9, 0), (10, 1), (11, 0), (12, 0), (13, 0), (14, 1), (15, 0), (16, 2), (17, 2), (18, 2), (19, 0)] mixed (by kernel_rfl) (by kernel_rfl) (by kernel_rfl) (by kernel_rfl) ?_
          have x5 := Ext.drew w2
          have e6 := hE2.trans x5
          refine wsa rfl rfl rfl (q_move (v := (u8 s1.1)) rfl s7_2) ?_
          refine wsa rfl rfl rfl (q_move (v := (u8 a2x)) rfl s2_2) ?_
          refine wsa rfl rfl rfl (q_move (v := p0) rfl s0_2) ?_
          refine wsa rfl rfl rfl (q_move (v := (i64 s1.2)) rfl rfl) ?_
          obtain ⟨c7, hc7, H1⟩ := Option.bind_eq_some_iff.1 H1
          refine wsa rfl rfl rfl (q_adr rfl T22 rfl rfl (hp0.lift (Lift.ext e6 _)) hc7) ?_
          refine wsq rfl rfl rfl (q_loadS rfl T22 rfl (hp0.lift (Lift.ext e6 _)) hc7) ?_
          refine wsa rfl rfl rfl (q_xor8 rfl rfl rfl) ?_
          refine wsa rfl rfl rfl (q_move (v := p0) rfl s0_2) ?_
          refine wsa rfl rfl rfl (q_move (v := (i64 a1i)) rfl s1_2) ?_
          obtain ⟨c8, hc8, H1⟩ := Option.bind_eq_some_iff.1 H1
          refine wsa rfl rfl rfl (q_adr rfl T22 rfl rfl (hp0.lift (Lift.ext e6 _)) hc8) ?_
          refine wsq rfl rfl rfl (q_loadS rfl T22 rfl (hp0.lift (Lift.ext e6 _)) hc8) ?_
          refine wsa rfl rfl rfl (q_move (v := p0) rfl s0_2) ?_
          refine wsa rfl rfl rfl (q_move (v := (i64 s1.2)) rfl rfl) ?_
          refine wsa rfl rfl rfl (q_adr rfl T22 rfl rfl (hp0.lift (Lift.ext e6 _)) hc7) ?_
          refine wsq rfl rfl rfl (q_loadS rfl T22 rfl (hp0.lift (Lift.ext e6 _)) hc7) ?_
          refine wsa rfl rfl rfl (q_xor8 rfl rfl rfl) ?_
          obtain ⟨r9, hr9, H1⟩ := Option.bind_eq_some_iff.1 H1
          refine wss rfl rfl rfl (stp_call (vs := [(u8 ((c8 ^^^ c7)))]) Try.func64 rfl rfl rfl (ar1 rfl) (ref02_Inv_calls (c8 ^^^ c7)  r9 _  hr9) ?_)
          rintro _ w9 ⟨rfl, x9⟩
          refine ⟨_, rfl, x9, ?_⟩
          have e10 := e6.trans x9
          obtain ⟨r11, hr11, H1⟩ := Option.bind_eq_some_iff.1 H1
          refine wsc rfl (by kernel_rfl) rfl rfl (stp_call (vs := [(u8 ((a2x ^^^ c7))), (u8 r9)]) Try.func44 rfl rfl rfl (ar2 rfl rfl) (ref02_Mul_calls (a2x ^^^ c7) r9  r11 _  hr11) ?_)
          rintro _ w11 ⟨rfl, x11⟩
          refine ⟨_, rfl, ?_⟩
          have e12 := e10.trans x11
          obtain ⟨r13, hr13, H1⟩ := Option.bind_eq_some_iff.1 H1
          refine wsc rfl (by kernel_rfl) rfl rfl (stp_call (vs := [(u8 s1.1), (u8 r11)]) Try.func44 rfl rfl rfl (ar2 rfl rfl) (ref02_Mul_calls s1.1 r11  r13 _  hr13) ?_)
          rintro _ w13 ⟨rfl, x13⟩
          refine ⟨_, rfl, ?_⟩
          have e14 := e12.trans x13
          refine wsa rfl rfl rfl (q_assign (v := (u8 r13)) rfl rfl) ?_
          refine ws_nil ?_
          refine bk_n ?_
          refine W_th ?_
          refine W_reg (by kernel_rfl) ?_
          refine wla rfl rfl (q_addI rfl s11_2 rfl) ?_
          refine wla rfl rfl (q_move (v := (i64 ((wI (s1.2 + 1))))) rfl rfl) ?_
          refine wl_nil ?_
          obtain rfl := Option.some.inj H1
          exact ⟨_, rfl, s0_2, s1_2, s2_2, rfl, s10_2, rfl, s38_2, e14⟩
        · replace H1 := (if_pos (ndec_f hb4)).symm.trans H1
          refine W_skip ?_
          refine bk_n ?_
          refine W_th ?_
          refine W_reg (by kernel_rfl) ?_
          refine wla rfl rfl (q_addI rfl s11_2 rfl) ?_
          refine wla rfl rfl (q_move (v := (i64 ((wI (s1.2 + 1))))) rfl rfl) ?_
          refine wl_nil ?_
          obtain rfl := Option.some.inj H1
          exact ⟨_, rfl, s0_2, s1_2, s2_2, s7_2, s10_2, rfl, s38_2, hE2⟩
      · replace H1 := (if_neg (of_decide_eq_false hb3)).symm.trans H1
        refine W_exit ?_
        refine th_x ?_
        obtain rfl := Option.some.inj H1
        obtain rfl := hr1 _ rfl
        refine th_x ?_
        refine bk_x ?_
        exact ⟨s7_2, s38_2, hE2⟩
  · rintro _ w16 ⟨s7_16, s38_16, hE16⟩
    refine W_th ?_
    refine W_seq ?_
    refine W_reg (by kernel_rfl) ?_
    refine wla rfl rfl (q_move (v := (u8 x1)) rfl s7_16) ?_
    refine wla rfl rfl (q_assign (v := (u8 x1)) rfl rfl) ?_
    refine wl_nil ?_
    refine W_th ?_
    refine W_ret ?_
    obtain rfl := Option.some.inj H
    refine rt1 (u8 x1) rfl rfl rfl s38_16 ?_
    exact ⟨rfl, hE16⟩

end Gk

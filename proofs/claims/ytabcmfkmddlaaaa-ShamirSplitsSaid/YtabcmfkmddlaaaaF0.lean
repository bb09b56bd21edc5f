/- Printed by gen.py: for each Go function a pure function, and that the Go code comes to it. No condition beside the equation that says what the pure function gives. -/
import Derived.Test.YtabcmfkmddlaaaaS
set_option linter.unusedVariables false
set_option linter.unusedSimpArgs false
namespace Gk
open Go Go.Proofs

/-! largesse/field.Add -/
noncomputable def field_Add (a0a : UInt8) (a1b : UInt8) : Option UInt8 := some (a0a ^^^ a1b)
set_option maxRecDepth 100000 in
set_option maxHeartbeats 8000000 in
theorem field_Add_calls (a0a : UInt8) (a1b : UInt8) (r : UInt8) (w0 : World) (H : field_Add a0a a1b = some r) :
    Calls Try.prog 53 [(u8 a0a), (u8 a1b)].toArray w0 (fun e w' => e = .returned (u8 r) ∧ Ext w0 w') := by
  have hE : Ext w0 w0 := Ext.refl w0
  unfold field_Add at H
  refine calls_W (n := 8) Try.func53 rfl rfl rfl ?_
  refine W_seq ?_
  refine W_reg (by kernel_rfl) ?_
  refine wla rfl rfl (q_assign (v := (u8 0)) rfl (cst8 (0 : UInt8) rfl)) ?_
  refine wl_nil ?_
  refine W_th ?_
  refine W_seq ?_
  refine W_reg (by kernel_rfl) ?_
  refine wla rfl rfl (q_move (v := (u8 a0a)) rfl rfl) ?_
  refine wla rfl rfl (q_move (v := (u8 a1b)) rfl rfl) ?_
  refine wla rfl rfl (q_xor8 rfl rfl rfl) ?_
  refine wla rfl rfl (q_assign (v := (u8 ((a0a ^^^ a1b)))) rfl rfl) ?_
  refine wl_nil ?_
  refine W_th ?_
  refine W_ret ?_
  obtain rfl := Option.some.inj H
  refine rt1 (u8 ((a0a ^^^ a1b))) rfl rfl rfl rfl ?_
  exact ⟨rfl, hE⟩

/-! largesse/field.double -/
noncomputable def field_double (a0a : UInt8) : Option UInt8 :=
(if (shr8 a0a 7) = (1 : UInt8) then some ((shl8 a0a 1) ^^^ (27 : UInt8))
else some (shl8 a0a 1))
set_option maxRecDepth 100000 in
set_option maxHeartbeats 8000000 in
theorem field_double_calls (a0a : UInt8) (r : UInt8) (w0 : World) (H : field_double a0a = some r) :
    Calls Try.prog 61 [(u8 a0a)].toArray w0 (fun e w' => e = .returned (u8 r) ∧ Ext w0 w') := by
  have hE : Ext w0 w0 := Ext.refl w0
  unfold field_double at H
  refine calls_W (n := 12) Try.func61 rfl rfl rfl ?_
  refine W_seq ?_
  refine W_reg (by kernel_rfl) ?_
  refine wla rfl rfl (q_assign (v := (u8 0)) rfl (cst8 (0 : UInt8) rfl)) ?_
  refine wl_nil ?_
  refine W_th ?_
  refine W_seq ?_
  refine W_reg (by kernel_rfl) ?_
  refine wla rfl rfl (q_move (v := (u8 a0a)) rfl rfl) ?_
  refine wla rfl rfl (q_shl8 1 rfl rfl rfl rfl) ?_
  refine wla rfl rfl (q_assign (v := (u8 ((shl8 a0a 1)))) rfl rfl) ?_
  refine wl_nil ?_
  refine W_th ?_
  refine W_seq ?_
  refine W_seq ?_
  refine W_reg (by kernel_rfl) ?_
  refine wla rfl rfl (q_move (v := (u8 a0a)) rfl rfl) ?_
  refine wla rfl rfl (q_shr8 7 rfl rfl rfl rfl) ?_
  refine wla rfl rfl (q_eq8 rfl rfl (cst8 (1 : UInt8) rfl)) ?_
  refine wl_nil ?_
  refine W_th ?_
  refine W_cond _ rfl rfl (fun hb1 => ?_) (fun hb1 => ?_)
  · replace H := (if_pos (of_decide_eq_true hb1)).symm.trans H
    refine W_reg (by kernel_rfl) ?_
    refine wla rfl rfl (q_move (v := (u8 ((shl8 a0a 1)))) rfl rfl) ?_
    refine wla rfl rfl (q_xor8 rfl rfl (cst8 (27 : UInt8) rfl)) ?_
    refine wla rfl rfl (q_assign (v := (u8 (((shl8 a0a 1) ^^^ (27 : UInt8))))) rfl rfl) ?_
    refine wl_nil ?_
    refine W_th ?_
    refine W_seq ?_
    refine W_reg (by kernel_rfl) ?_
    refine wla rfl rfl (q_move (v := (u8 (((shl8 a0a 1) ^^^ (27 : UInt8))))) rfl rfl) ?_
    refine wla rfl rfl (q_assign (v := (u8 (((shl8 a0a 1) ^^^ (27 : UInt8))))) rfl rfl) ?_
    refine wl_nil ?_
    refine W_th ?_
    refine W_ret ?_
    obtain rfl := Option.some.inj H
    refine rt1 (u8 (((shl8 a0a 1) ^^^ (27 : UInt8)))) rfl rfl rfl rfl ?_
    exact ⟨rfl, hE⟩
  · replace H := (if_neg (of_decide_eq_false hb1)).symm.trans H
    refine W_skip ?_
    refine W_th ?_
    refine W_seq ?_
    refine W_reg (by kernel_rfl) ?_
    refine wla rfl rfl (q_move (v := (u8 ((shl8 a0a 1)))) rfl rfl) ?_
    refine wla rfl rfl (q_assign (v := (u8 ((shl8 a0a 1)))) rfl rfl) ?_
    refine wl_nil ?_
    refine W_th ?_
    refine W_ret ?_
    obtain rfl := Option.some.inj H
    refine rt1 (u8 ((shl8 a0a 1))) rfl rfl rfl rfl ?_
    exact ⟨rfl, hE⟩

/-! largesse/field.Slow -/
noncomputable def field_Slow (a0a : UInt8) (a1b : UInt8) : Option UInt8 :=
((iterC (fun s1 : UInt8 × UInt8 × UInt8 =>
(if s1.2.1 = (0 : UInt8) then some (.inr s1.2.2)
else
(if (s1.2.1 &&& (1 : UInt8)) = (1 : UInt8) then
((field_double s1.1).bind fun r5 => some (.inl (r5, (shr8 s1.2.1 1), (s1.2.2 ^^^ s1.1))))
else
((field_double s1.1).bind fun r7 => some (.inl (r7, (shr8 s1.2.1 1), s1.2.2)))))) (a0a, a1b, (0 : UInt8))).bind fun x1 => some x1)
set_option maxRecDepth 100000 in
set_option maxHeartbeats 8000000 in
theorem field_Slow_calls (a0a : UInt8) (a1b : UInt8) (r : UInt8) (w0 : World) (H : field_Slow a0a a1b = some r) :
    Calls Try.prog 41 [(u8 a0a), (u8 a1b)].toArray w0 (fun e w' => e = .returned (u8 r) ∧ Ext w0 w') := by
  have hE : Ext w0 w0 := Ext.refl w0
  unfold field_Slow at H
  refine calls_W (n := 19) Try.func41 rfl rfl rfl ?_
  refine W_seq ?_
  refine W_reg (by kernel_rfl) ?_
  refine wla rfl rfl (q_assign (v := (u8 0)) rfl (cst8 (0 : UInt8) rfl)) ?_
  refine wl_nil ?_
  refine W_th ?_
  refine W_seq ?_
  refine W_reg (by kernel_rfl) ?_
  refine wla rfl rfl (q_assign (v := (u8 0)) rfl (cst8 (0 : UInt8) rfl)) ?_
  refine wl_nil ?_
  refine W_th ?_
  refine W_seq ?_
  obtain ⟨x1, G1, H⟩ := Option.bind_eq_some_iff.1 H
  refine W_mid (fun f w => f 5 = (u8 x1) ∧ f 19 = undef ∧ Ext w0 w) ?_ ?_
  · refine W_block ?_
    refine W_loop (fun s1 f w => f 0 = (u8 s1.1) ∧ f 1 = (u8 s1.2.1) ∧ f 5 = (u8 s1.2.2) ∧ f 19 = undef ∧ Ext w0 w) G1 ?_ ?_
    · exact ⟨rfl, rfl, rfl, rfl, hE⟩
    · rintro s1 _ _ w2 ⟨s0_2, s1_2, s5_2, s19_2, hE2⟩ H1 hr1
      refine W_seq ?_
      refine W_seq ?_
      refine W_reg (by kernel_rfl) ?_
      refine wla rfl rfl (q_move (v := (u8 s1.2.1)) rfl s1_2) ?_
      refine wla rfl rfl (q_ne8 rfl rfl (cst8 (0 : UInt8) rfl)) ?_
      refine wl_nil ?_
      refine W_th ?_
      refine W_cond _ rfl rfl (fun hb3 => ?_) (fun hb3 => ?_)
      · replace H1 := (if_neg (ndec_t hb3)).symm.trans H1
        refine W_skip ?_
        refine W_th ?_
        refine W_seq ?_
        refine W_block ?_
        refine W_seq ?_
        refine W_seq ?_
        refine W_reg (by kernel_rfl) ?_
        refine wla rfl rfl (q_move (v := (u8 s1.2.1)) rfl s1_2) ?_
        refine wla rfl rfl (q_and8 rfl rfl (cst8 (1 : UInt8) rfl)) ?_
        refine wla rfl rfl (q_eq8 rfl rfl (cst8 (1 : UInt8) rfl)) ?_
        refine wl_nil ?_
        refine W_th ?_
        refine W_cond _ rfl rfl (fun hb4 => ?_) (fun hb4 => ?_)
        · replace H1 := (if_pos (of_decide_eq_true hb4)).symm.trans H1
          refine W_reg (by kernel_rfl) ?_
          refine wla rfl rfl (q_move (v := (u8 s1.2.2)) rfl s5_2) ?_
          refine wla rfl rfl (q_move (v := (u8 s1.1)) rfl s0_2) ?_
          refine wla rfl rfl (q_xor8 rfl rfl rfl) ?_
          refine wla rfl rfl (q_assign (v := (u8 ((s1.2.2 ^^^ s1.1)))) rfl rfl) ?_
          refine wl_nil ?_
          refine W_th ?_
          refine W_reg (by kernel_rfl) ?_
          refine wla rfl rfl (q_move (v := (u8 s1.1)) rfl s0_2) ?_
          obtain ⟨r5, hr5, H1⟩ := Option.bind_eq_some_iff.1 H1
          refine wls rfl rfl (stp_call (vs := [(u8 s1.1)]) Try.func61 rfl rfl rfl (ar1 rfl) (field_double_calls s1.1  r5 _  hr5) ?_)
          rintro _ w5 ⟨rfl, x5⟩
          refine ⟨_, rfl, ?_⟩
          have e6 := hE2.trans x5
          refine wla rfl rfl (q_assign (v := (u8 r5)) rfl rfl) ?_
          refine wl_nil ?_
          refine bk_n ?_
          refine W_th ?_
          refine W_reg (by kernel_rfl) ?_
          refine wla rfl rfl (q_move (v := (u8 s1.2.1)) rfl s1_2) ?_
          refine wla rfl rfl (q_shr8 1 rfl rfl rfl rfl) ?_
          refine wla rfl rfl (q_assign (v := (u8 ((shr8 s1.2.1 1)))) rfl rfl) ?_
          refine wl_nil ?_
          obtain rfl := Option.some.inj H1
          exact ⟨_, rfl, rfl, rfl, rfl, s19_2, e6⟩
        · replace H1 := (if_neg (of_decide_eq_false hb4)).symm.trans H1
          refine W_skip ?_
          refine W_th ?_
          refine W_reg (by kernel_rfl) ?_
          refine wla rfl rfl (q_move (v := (u8 s1.1)) rfl s0_2) ?_
          obtain ⟨r7, hr7, H1⟩ := Option.bind_eq_some_iff.1 H1
          refine wls rfl rfl (stp_call (vs := [(u8 s1.1)]) Try.func61 rfl rfl rfl (ar1 rfl) (field_double_calls s1.1  r7 _  hr7) ?_)
          rintro _ w7 ⟨rfl, x7⟩
          refine ⟨_, rfl, ?_⟩
          have e8 := hE2.trans x7
          refine wla rfl rfl (q_assign (v := (u8 r7)) rfl rfl) ?_
          refine wl_nil ?_
          refine bk_n ?_
          refine W_th ?_
          refine W_reg (by kernel_rfl) ?_
          refine wla rfl rfl (q_move (v := (u8 s1.2.1)) rfl s1_2) ?_
          refine wla rfl rfl (q_shr8 1 rfl rfl rfl rfl) ?_
          refine wla rfl rfl (q_assign (v := (u8 ((shr8 s1.2.1 1)))) rfl rfl) ?_
          refine wl_nil ?_
          obtain rfl := Option.some.inj H1
          exact ⟨_, rfl, rfl, rfl, s5_2, s19_2, e8⟩
      · replace H1 := (if_pos (ndec_f hb3)).symm.trans H1
        refine W_exit ?_
        refine th_x ?_
        obtain rfl := Option.some.inj H1
        obtain rfl := hr1 _ rfl
        refine th_x ?_
        refine bk_x ?_
        exact ⟨s5_2, s19_2, hE2⟩
  · rintro _ w10 ⟨s5_10, s19_10, hE10⟩
    refine W_th ?_
    refine W_seq ?_
    refine W_reg (by kernel_rfl) ?_
    refine wla rfl rfl (q_move (v := (u8 x1)) rfl s5_10) ?_
    refine wla rfl rfl (q_assign (v := (u8 x1)) rfl rfl) ?_
    refine wl_nil ?_
    refine W_th ?_
    refine W_ret ?_
    obtain rfl := Option.some.inj H
    refine rt1 (u8 x1) rfl rfl rfl s19_10 ?_
    exact ⟨rfl, hE10⟩

/-! largesse/largesseref02.Mul -/
noncomputable def ref02_Mul (a0a : UInt8) (a1b : UInt8) : Option UInt8 :=
((iterC (fun s1 : Int × Int =>
(if s1.2 < 8 then
((cnt s1.2).bind fun c4 =>
(if ((shr8 a1b c4) % (2 : UInt8)) = (1 : UInt8) then
((cnt s1.2).bind fun c6 => some (.inl ((xorI s1.1 (shlI ((a0a.toNat : Int)) c6)), (wI (s1.2 + 1)))))
else some (.inl (s1.1, (wI (s1.2 + 1))))))
else some (.inr s1.1))) (0, 0)).bind fun x1 =>
((iterC (fun s9 : Int × Int =>
(if 8 ≤ s9.2 then
((cnt s9.2).bind fun c12 =>
((remI ((shrI s9.1 c12)) 2).bind fun c13 =>
(if c13 = 1 then
((cnt ((wI (s9.2 - 8)))).bind fun c15 => some (.inl ((xorI s9.1 (shlI 283 c15)), (wI (s9.2 - 1)))))
else some (.inl (s9.1, (wI (s9.2 - 1)))))))
else some (.inr s9.1))) (x1, 14)).bind fun x9 => some (UInt8.ofInt x9)))
set_option maxRecDepth 100000 in
set_option maxHeartbeats 8000000 in
theorem ref02_Mul_calls (a0a : UInt8) (a1b : UInt8) (r : UInt8) (w0 : World) (H : ref02_Mul a0a a1b = some r) :
    Calls Try.prog 44 [(u8 a0a), (u8 a1b)].toArray w0 (fun e w' => e = .returned (u8 r) ∧ Ext w0 w') := by
  have hE : Ext w0 w0 := Ext.refl w0
  unfold ref02_Mul at H
  refine calls_W (n := 39) Try.func44 rfl rfl rfl ?_
  refine W_seq ?_
  refine W_reg (by kernel_rfl) ?_
  refine wla rfl rfl (q_assign (v := (u8 0)) rfl (cst8 (0 : UInt8) rfl)) ?_
  refine wl_nil ?_
  refine W_th ?_
  refine W_seq ?_
  refine W_reg (by kernel_rfl) ?_
  refine wla rfl rfl (q_assign (v := (i64 0)) rfl rfl) ?_
  refine wl_nil ?_
  refine W_th ?_
  refine W_seq ?_
  refine W_seq ?_
  refine W_reg (by kernel_rfl) ?_
  refine wla rfl rfl (q_assign (v := (i64 0)) rfl rfl) ?_
  refine wl_nil ?_
  refine W_th ?_
  obtain ⟨x1, G1, H⟩ := Option.bind_eq_some_iff.1 H
  refine W_mid (fun f w => f 5 = (i64 x1) ∧ f 39 = undef ∧ Ext w0 w) ?_ ?_
  · refine W_block ?_
    refine W_loop (fun s1 f w => f 0 = (u8 a0a) ∧ f 1 = (u8 a1b) ∧ f 5 = (i64 s1.1) ∧ f 6 = (i64 s1.2) ∧ f 39 = undef ∧ Ext w0 w) G1 ?_ ?_
    · exact ⟨rfl, rfl, rfl, rfl, rfl, hE⟩
    · rintro s1 _ _ w2 ⟨s0_2, s1_2, s5_2, s6_2, s39_2, hE2⟩ H1 hr1
      refine W_seq ?_
      refine W_seq ?_
      refine W_reg (by kernel_rfl) ?_
      refine wla rfl rfl (q_move (v := (i64 s1.2)) rfl s6_2) ?_
      refine wla rfl rfl (q_ltI rfl rfl rfl) ?_
      refine wl_nil ?_
      refine W_th ?_
      refine W_cond _ rfl rfl (fun hb3 => ?_) (fun hb3 => ?_)
      · replace H1 := (if_pos (of_decide_eq_true hb3)).symm.trans H1
        refine W_skip ?_
        refine W_th ?_
        refine W_seq ?_
        refine W_block ?_
        refine W_seq ?_
        refine W_reg (by kernel_rfl) ?_
        refine wla rfl rfl (q_move (v := (u8 a1b)) rfl s1_2) ?_
        refine wla rfl rfl (q_move (v := (i64 s1.2)) rfl s6_2) ?_
        obtain ⟨c4, hc4, H1⟩ := Option.bind_eq_some_iff.1 H1
        refine wla rfl rfl (q_shr8 c4 rfl rfl rfl (cnt_eq hc4)) ?_
        refine wla rfl rfl (q_rem8 rfl rfl (cst8 (2 : UInt8) rfl) (by decide)) ?_
        refine wla rfl rfl (q_eq8 rfl rfl (cst8 (1 : UInt8) rfl)) ?_
        refine wl_nil ?_
        refine W_th ?_
        refine W_cond _ rfl rfl (fun hb5 => ?_) (fun hb5 => ?_)
        · replace H1 := (if_pos (of_decide_eq_true hb5)).symm.trans H1
          refine W_reg (by kernel_rfl) ?_
          refine wla rfl rfl (q_move (v := (i64 s1.1)) rfl s5_2) ?_
          refine wla rfl rfl (q_move (v := (u8 a0a)) rfl s0_2) ?_
          refine wla rfl rfl (q_cvtI8 rfl rfl rfl rfl) ?_
          refine wla rfl rfl (q_move (v := (i64 s1.2)) rfl s6_2) ?_
          obtain ⟨c6, hc6, H1⟩ := Option.bind_eq_some_iff.1 H1
          refine wla rfl rfl (q_shlI c6 rfl rfl rfl (cnt_eq hc6)) ?_
          refine wla rfl rfl (q_xorI rfl rfl rfl) ?_
          refine wla rfl rfl (q_assign (v := (i64 ((xorI s1.1 (shlI ((a0a.toNat : Int)) c6))))) rfl rfl) ?_
          refine wl_nil ?_
          refine bk_n ?_
          refine W_th ?_
          refine W_reg (by kernel_rfl) ?_
          refine wla rfl rfl (q_move (v := (i64 s1.2)) rfl s6_2) ?_
          refine wla rfl rfl (q_addI rfl rfl rfl) ?_
          refine wla rfl rfl (q_assign (v := (i64 ((wI (s1.2 + 1))))) rfl rfl) ?_
          refine wl_nil ?_
          obtain rfl := Option.some.inj H1
          exact ⟨_, rfl, s0_2, s1_2, rfl, rfl, s39_2, hE2⟩
        · replace H1 := (if_neg (of_decide_eq_false hb5)).symm.trans H1
          refine W_skip ?_
          refine bk_n ?_
          refine W_th ?_
          refine W_reg (by kernel_rfl) ?_
          refine wla rfl rfl (q_move (v := (i64 s1.2)) rfl s6_2) ?_
          refine wla rfl rfl (q_addI rfl rfl rfl) ?_
          refine wla rfl rfl (q_assign (v := (i64 ((wI (s1.2 + 1))))) rfl rfl) ?_
          refine wl_nil ?_
          obtain rfl := Option.some.inj H1
          exact ⟨_, rfl, s0_2, s1_2, s5_2, rfl, s39_2, hE2⟩
      · replace H1 := (if_neg (of_decide_eq_false hb3)).symm.trans H1
        refine W_exit ?_
        refine th_x ?_
        obtain rfl := Option.some.inj H1
        obtain rfl := hr1 _ rfl
        refine th_x ?_
        refine bk_x ?_
        exact ⟨s5_2, s39_2, hE2⟩
  · rintro _ w8 ⟨s5_8, s39_8, hE8⟩
    refine W_th ?_
    refine W_seq ?_
    refine W_seq ?_
    refine W_reg (by kernel_rfl) ?_
    refine wla rfl rfl (q_assign (v := (i64 14)) rfl rfl) ?_
    refine wl_nil ?_
    refine W_th ?_
    obtain ⟨x9, G9, H⟩ := Option.bind_eq_some_iff.1 H
    refine W_mid (fun f w => f 5 = (i64 x9) ∧ f 39 = undef ∧ Ext w0 w) ?_ ?_
    · refine W_block ?_
      refine W_loop (fun s9 f w => f 5 = (i64 s9.1) ∧ f 7 = (i64 s9.2) ∧ f 39 = undef ∧ Ext w0 w) G9 ?_ ?_
      · exact ⟨s5_8, rfl, s39_8, hE8⟩
      · rintro s9 _ _ w10 ⟨s5_10, s7_10, s39_10, hE10⟩ H9 hr9
        refine W_seq ?_
        refine W_seq ?_
        refine W_reg (by kernel_rfl) ?_
        refine wla rfl rfl (q_move (v := (i64 s9.2)) rfl s7_10) ?_
        refine wla rfl rfl (q_geI rfl rfl rfl) ?_
        refine wl_nil ?_
        refine W_th ?_
        refine W_cond _ rfl rfl (fun hb11 => ?_) (fun hb11 => ?_)
        · replace H9 := (if_pos (of_decide_eq_true hb11)).symm.trans H9
          refine W_skip ?_
          refine W_th ?_
          refine W_seq ?_
          refine W_block ?_
          refine W_seq ?_
          refine W_reg (by kernel_rfl) ?_
          refine wla rfl rfl (q_move (v := (i64 s9.1)) rfl s5_10) ?_
          refine wla rfl rfl (q_move (v := (i64 s9.2)) rfl s7_10) ?_
          obtain ⟨c12, hc12, H9⟩ := Option.bind_eq_some_iff.1 H9
          refine wla rfl rfl (q_shrI c12 rfl rfl rfl (cnt_eq hc12)) ?_
          obtain ⟨c13, hc13, H9⟩ := Option.bind_eq_some_iff.1 H9
          refine wla rfl rfl (q_remI rfl rfl rfl hc13) ?_
          refine wla rfl rfl (q_eqI rfl rfl rfl) ?_
          refine wl_nil ?_
          refine W_th ?_
          refine W_cond _ rfl rfl (fun hb14 => ?_) (fun hb14 => ?_)
          · replace H9 := (if_pos (of_decide_eq_true hb14)).symm.trans H9
            refine W_reg (by kernel_rfl) ?_
            refine wla rfl rfl (q_move (v := (i64 s9.1)) rfl s5_10) ?_
            refine wla rfl rfl (q_move (v := (i64 s9.2)) rfl s7_10) ?_
            refine wla rfl rfl (q_subI rfl rfl rfl) ?_
            obtain ⟨c15, hc15, H9⟩ := Option.bind_eq_some_iff.1 H9
            refine wla rfl rfl (q_shlI c15 rfl rfl rfl (cnt_eq hc15)) ?_
            refine wla rfl rfl (q_xorI rfl rfl rfl) ?_
            refine wla rfl rfl (q_assign (v := (i64 ((xorI s9.1 (shlI 283 c15))))) rfl rfl) ?_
            refine wl_nil ?_
            refine bk_n ?_
            refine W_th ?_
            refine W_reg (by kernel_rfl) ?_
            refine wla rfl rfl (q_move (v := (i64 s9.2)) rfl s7_10) ?_
            refine wla rfl rfl (q_subI rfl rfl rfl) ?_
            refine wla rfl rfl (q_assign (v := (i64 ((wI (s9.2 - 1))))) rfl rfl) ?_
            refine wl_nil ?_
            obtain rfl := Option.some.inj H9
            exact ⟨_, rfl, rfl, rfl, s39_10, hE10⟩
          · replace H9 := (if_neg (of_decide_eq_false hb14)).symm.trans H9
            refine W_skip ?_
            refine bk_n ?_
            refine W_th ?_
            refine W_reg (by kernel_rfl) ?_
            refine wla rfl rfl (q_move (v := (i64 s9.2)) rfl s7_10) ?_
            refine wla rfl rfl (q_subI rfl rfl rfl) ?_
            refine wla rfl rfl (q_assign (v := (i64 ((wI (s9.2 - 1))))) rfl rfl) ?_
            refine wl_nil ?_
            obtain rfl := Option.some.inj H9
            exact ⟨_, rfl, s5_10, rfl, s39_10, hE10⟩
        · replace H9 := (if_neg (of_decide_eq_false hb11)).symm.trans H9
          refine W_exit ?_
          refine th_x ?_
          obtain rfl := Option.some.inj H9
          obtain rfl := hr9 _ rfl
          refine th_x ?_
          refine bk_x ?_
          exact ⟨s5_10, s39_10, hE10⟩
    · rintro _ w17 ⟨s5_17, s39_17, hE17⟩
      refine W_th ?_
      refine W_seq ?_
      refine W_reg (by kernel_rfl) ?_
      refine wla rfl rfl (q_move (v := (i64 x9)) rfl s5_17) ?_
      refine wla rfl rfl (q_cvt8I rfl rfl rfl rfl) ?_
      refine wla rfl rfl (q_assign (v := (u8 ((UInt8.ofInt x9)))) rfl rfl) ?_
      refine wl_nil ?_
      refine W_th ?_
      refine W_ret ?_
      obtain rfl := Option.some.inj H
      refine rt1 (u8 ((UInt8.ofInt x9))) rfl rfl rfl s39_17 ?_
      exact ⟨rfl, hE17⟩

/-! largesse/largesseref02.Inv -/
noncomputable def ref02_Inv (a0a : UInt8) : Option UInt8 :=
((iterC (fun s1 : Int =>
(if s1 < 256 then
((ref02_Mul a0a (UInt8.ofInt s1)).bind fun r4 =>
(if r4 = (1 : UInt8) then some (.inr (.inr (UInt8.ofInt s1)))
else some (.inl (wI (s1 + 1)))))
else some (.inr (.inl ())))) 1).bind (Sum.elim (fun y1 => some (0 : UInt8)) (fun q1 => some q1)))
set_option maxRecDepth 100000 in
set_option maxHeartbeats 8000000 in
theorem ref02_Inv_calls (a0a : UInt8) (r : UInt8) (w0 : World) (H : ref02_Inv a0a = some r) :
    Calls Try.prog 64 [(u8 a0a)].toArray w0 (fun e w' => e = .returned (u8 r) ∧ Ext w0 w') := by
  have hE : Ext w0 w0 := Ext.refl w0
  unfold ref02_Inv at H
  refine calls_W (n := 15) Try.func64 rfl rfl rfl ?_
  refine W_seq ?_
  refine W_reg (by kernel_rfl) ?_
  refine wla rfl rfl (q_assign (v := (u8 0)) rfl (cst8 (0 : UInt8) rfl)) ?_
  refine wl_nil ?_
  refine W_th ?_
  refine W_seq ?_
  refine W_seq ?_
  refine W_reg (by kernel_rfl) ?_
  refine wla rfl rfl (q_assign (v := (i64 1)) rfl rfl) ?_
  refine wl_nil ?_
  refine W_th ?_
  obtain ⟨x1, G1, H⟩ := Option.bind_eq_some_iff.1 H
  refine W_mid (fun f w => ∃ y1, x1 = .inl y1 ∧ f 15 = undef ∧ Ext w0 w) ?_ ?_
  · refine W_block ?_
    refine W_loop (fun s1 f w => f 0 = (u8 a0a) ∧ f 3 = (i64 s1) ∧ f 15 = undef ∧ Ext w0 w) G1 ?_ ?_
    · exact ⟨rfl, rfl, rfl, hE⟩
    · rintro s1 _ _ w2 ⟨s0_2, s3_2, s15_2, hE2⟩ H1 hr1
      refine W_seq ?_
      refine W_seq ?_
      refine W_reg (by kernel_rfl) ?_
      refine wla rfl rfl (q_move (v := (i64 s1)) rfl s3_2) ?_
      refine wla rfl rfl (q_ltI rfl rfl rfl) ?_
      refine wl_nil ?_
      refine W_th ?_
      refine W_cond _ rfl rfl (fun hb3 => ?_) (fun hb3 => ?_)
      · replace H1 := (if_pos (of_decide_eq_true hb3)).symm.trans H1
        refine W_skip ?_
        refine W_th ?_
        refine W_seq ?_
        refine W_block ?_
        refine W_seq ?_
        refine W_reg (by kernel_rfl) ?_
        refine wla rfl rfl (q_move (v := (u8 a0a)) rfl s0_2) ?_
        refine wla rfl rfl (q_move (v := (i64 s1)) rfl s3_2) ?_
        refine wla rfl rfl (q_cvt8I rfl rfl rfl rfl) ?_
        obtain ⟨r4, hr4, H1⟩ := Option.bind_eq_some_iff.1 H1
        refine wls rfl rfl (stp_call (vs := [(u8 a0a), (u8 ((UInt8.ofInt s1)))]) Try.func44 rfl rfl rfl (ar2 rfl rfl) (ref02_Mul_calls a0a (UInt8.ofInt s1)  r4 _  hr4) ?_)
        rintro _ w4 ⟨rfl, x4⟩
        refine ⟨_, rfl, ?_⟩
        have e5 := hE2.trans x4
        refine wla rfl rfl (q_eq8 rfl rfl (cst8 (1 : UInt8) rfl)) ?_
        refine wl_nil ?_
        refine W_th ?_
        refine W_cond _ rfl rfl (fun hb6 => ?_) (fun hb6 => ?_)
        · replace H1 := (if_pos (of_decide_eq_true hb6)).symm.trans H1
          refine W_seq ?_
          refine W_reg (by kernel_rfl) ?_
          refine wla rfl rfl (q_move (v := (i64 s1)) rfl s3_2) ?_
          refine wla rfl rfl (q_cvt8I rfl rfl rfl rfl) ?_
          refine wla rfl rfl (q_assign (v := (u8 ((UInt8.ofInt s1)))) rfl rfl) ?_
          refine wl_nil ?_
          refine W_th ?_
          refine W_ret ?_
          refine bk_r ?_
          refine th_r ?_
          obtain rfl := Option.some.inj H1
          obtain rfl := hr1 _ rfl
          simp only [Sum.elim_inr] at H
          refine th_r ?_
          refine bk_r ?_
          refine th_r ?_
          refine th_r ?_
          obtain rfl := Option.some.inj H
          refine rt1 (u8 ((UInt8.ofInt s1))) rfl rfl rfl s15_2 ?_
          exact ⟨rfl, e5⟩
        · replace H1 := (if_neg (of_decide_eq_false hb6)).symm.trans H1
          refine W_skip ?_
          refine bk_n ?_
          refine W_th ?_
          refine W_reg (by kernel_rfl) ?_
          refine wla rfl rfl (q_move (v := (i64 s1)) rfl s3_2) ?_
          refine wla rfl rfl (q_addI rfl rfl rfl) ?_
          refine wla rfl rfl (q_assign (v := (i64 ((wI (s1 + 1))))) rfl rfl) ?_
          refine wl_nil ?_
          obtain rfl := Option.some.inj H1
          exact ⟨_, rfl, s0_2, rfl, s15_2, e5⟩
      · replace H1 := (if_neg (of_decide_eq_false hb3)).symm.trans H1
        refine W_exit ?_
        refine th_x ?_
        obtain rfl := Option.some.inj H1
        obtain rfl := hr1 _ rfl
        refine th_x ?_
        refine bk_x ?_
        exact ⟨_, rfl, s15_2, hE2⟩
  · rintro _ w8 ⟨y1, rfl, s15_8, hE8⟩
    simp only [Sum.elim_inl] at H
    refine W_th ?_
    refine W_seq ?_
    refine W_reg (by kernel_rfl) ?_
    refine wla rfl rfl (q_assign (v := (u8 0)) rfl (cst8 (0 : UInt8) rfl)) ?_
    refine wl_nil ?_
    refine W_th ?_
    refine W_ret ?_
    obtain rfl := Option.some.inj H
    refine rt1 (u8 0) rfl rfl rfl s15_8 ?_
    exact ⟨rfl, hE8⟩

end Gk

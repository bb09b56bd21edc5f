/- Printed by gen.py: for each Go function a pure function, and that the Go code comes to it. No condition beside the equation that says what the pure function gives. -/
import Derived.Test.YteinpdignnpbgaaL4a
set_option linter.unusedVariables false
set_option linter.unusedSimpArgs false
namespace Gk
open Go Go.Proofs

/-! largesse/largesselaw04.MatrixProducts -/
noncomputable def law04_MatrixProducts (a0n : Int) (a1k : Int) (a2c : Int) (a3a : List UInt8) (a4b : List UInt8) (a5v : List UInt8) : Option Bool :=
((law04_lives ).bind fun r1 =>
(if (!r1) = true then some false
else
((field_New ).bind fun r4 =>
((law04_square a3a (wI (1 + (wI ((((UInt64.ofInt a0n) % (8 : UInt64))).toNat : Int)))) (wI (1 + (wI ((((UInt64.ofInt a1k) % (8 : UInt64))).toNat : Int))))).bind fun r6 =>
((law04_square a4b (wI (1 + (wI ((((UInt64.ofInt a1k) % (8 : UInt64))).toNat : Int)))) (wI (1 + (wI ((((UInt64.ofInt a2c) % (8 : UInt64))).toNat : Int))))).bind fun r8 =>
((matrix_New r6).bind fun r10 =>
((matrix_New r8).bind fun r12 =>
((matrix_Mul r10.1 r4 r12.1).bind fun r14 =>
(if r10.2 = 0 then
(if r12.2 = 0 then
(if r14.2 = 0 then
((law04_rows r14.1).bind fun r19 =>
((ref04_Mul r6 r8).bind fun r21 =>
((law04_same r19 r21).bind fun r23 =>
(if (!r23) = true then some false
else
((matrix_Times r10.1 r4 a5v).bind fun r26 =>
(((if (a5v.length : Int) = (wI (1 + (wI ((((UInt64.ofInt a1k) % (8 : UInt64))).toNat : Int)))) then
(if r26.2 = 0 then
((ref04_Times r6 a5v).bind fun r34 =>
(if r26.1 = r34 then some (.inl ())
else some (.inr false)))
else some (.inr false))
else
(if r26.2 = 1 then some (.inl ())
else some (.inr false)))).bind (Sum.elim (fun s28 =>
((matrix_Mul r12.1 r4 r12.1).bind fun r38 =>
((matrix_Mul r10.1 r4 (none : Option (List (List UInt8)))).bind fun r40 =>
((matrix_Mul r10.1 false r12.1).bind fun r42 =>
(if (((decide (r38.2 = 0))) == ((decide ((wI (1 + (wI ((((UInt64.ofInt a1k) % (8 : UInt64))).toNat : Int)))) = (wI (1 + (wI ((((UInt64.ofInt a2c) % (8 : UInt64))).toNat : Int)))))))) = true then
(if r40.2 = 1 then some (decide (r42.2 = 1))
else some false)
else some false))))) (fun q28 => some q28))))))))
else some false)
else some false)
else some false)))))))))
set_option maxRecDepth 100000 in
set_option maxHeartbeats 8000000 in
theorem law04_MatrixProducts_calls (a0n : Int) (a1k : Int) (a2c : Int) (a3a : List UInt8) (a4b : List UInt8) (a5v : List UInt8) (p3 : Value) (p4 : Value) (p5 : Value) (r : Bool) (w0 : World) (hp3 : By w0 [] p3 a3a) (hp4 : By w0 [] p4 a4b) (hp5 : By w0 [] p5 a5v) (H : law04_MatrixProducts a0n a1k a2c a3a a4b a5v = some r) :
    Calls Try.prog 10 [(i64 a0n), (i64 a1k), (i64 a2c), p3, p4, p5].toArray w0 (fun e w' => e = .returned (.bool r) ∧ Ext w0 w') := by
  have hE : Ext w0 w0 := Ext.refl w0
  unfold law04_MatrixProducts at H
  refine calls_W (n := 149) Try.func10 rfl rfl rfl ?_
  refine W_seq ?_
  refine W_reg (by kernel_rfl) ?_
  refine wla rfl rfl (q_assign (v := (.bool false)) rfl rfl) ?_
  refine wl_nil ?_
  refine W_th ?_
  refine W_seq ?_
  refine W_seq ?_
  refine W_reg (by kernel_rfl) ?_
  obtain ⟨r1, hr1, H⟩ := Option.bind_eq_some_iff.1 H
  refine wls rfl rfl (stp_call (vs := []) Try.func36 rfl rfl rfl (ar0 ) (law04_lives_calls   r1 _  hr1) ?_)
  rintro _ w1 ⟨rfl, x1⟩
  refine ⟨_, rfl, ?_⟩
  have e2 := hE.trans x1
  refine wla rfl rfl (q_not rfl rfl) ?_
  refine wl_nil ?_
  refine W_th ?_
  refine W_cond _ rfl rfl (fun hb3 => ?_) (fun hb3 => ?_)
  · replace H := (if_pos hb3).symm.trans H
    refine W_seq ?_
    refine W_reg (by kernel_rfl) ?_
    refine wla rfl rfl (q_assign (v := (.bool false)) rfl rfl) ?_
    refine wl_nil ?_
    refine W_th ?_
    refine W_ret ?_
    refine th_r ?_
    obtain rfl := Option.some.inj H
    refine rt1 (.bool false) rfl rfl rfl rfl ?_
    exact ⟨rfl, e2⟩
  · replace H := (if_neg (ne_true_of_eq_false hb3)).symm.trans H
    refine W_skip ?_
    refine W_th ?_
    refine W_seq ?_
    refine W_reg (by kernel_rfl) ?_
    refine wla rfl rfl (q_move (v := (i64 a0n)) rfl rfl) ?_
    refine wla rfl rfl (q_cvt64I rfl rfl rfl rfl) ?_
    refine wla rfl rfl (q_rem64 rfl rfl (cst64 (8 : UInt64) rfl) (by decide)) ?_
    refine wla rfl rfl (q_cvtI64 rfl rfl rfl rfl) ?_
    refine wla rfl rfl (q_addI rfl rfl rfl) ?_
    refine wla rfl rfl (q_move (v := (i64 a1k)) rfl rfl) ?_
    refine wla rfl rfl (q_cvt64I rfl rfl rfl rfl) ?_
    refine wla rfl rfl (q_rem64 rfl rfl (cst64 (8 : UInt64) rfl) (by decide)) ?_
    refine wla rfl rfl (q_cvtI64 rfl rfl rfl rfl) ?_
    refine wla rfl rfl (q_addI rfl rfl rfl) ?_
    refine wla rfl rfl (q_move (v := (i64 a2c)) rfl rfl) ?_
    refine wla rfl rfl (q_cvt64I rfl rfl rfl rfl) ?_
    refine wla rfl rfl (q_rem64 rfl rfl (cst64 (8 : UInt64) rfl) (by decide)) ?_
    refine wla rfl rfl (q_cvtI64 rfl rfl rfl rfl) ?_
    refine wla rfl rfl (q_addI rfl rfl rfl) ?_
    refine wla rfl rfl (q_assign (v := (i64 ((wI (1 + (wI ((((UInt64.ofInt a0n) % (8 : UInt64))).toNat : Int))))))) rfl rfl) ?_
    refine wla rfl rfl (q_assign (v := (i64 ((wI (1 + (wI ((((UInt64.ofInt a1k) % (8 : UInt64))).toNat : Int))))))) rfl rfl) ?_
    refine wla rfl rfl (q_assign (v := (i64 ((wI (1 + (wI ((((UInt64.ofInt a2c) % (8 : UInt64))).toNat : Int))))))) rfl rfl) ?_
    refine wl_nil ?_
    refine W_th ?_
    refine W_seq ?_
    refine W_reg (by kernel_rfl) ?_
    obtain ⟨r4, hr4, H⟩ := Option.bind_eq_some_iff.1 H
    refine wls rfl rfl (stp_call (vs := []) Try.func18 rfl rfl rfl (ar0 ) (field_New_calls   r4 _ [] (Old.nil _)  hr4) ?_)
    rintro _ w4 ⟨v4, rfl, x4, i4_0⟩
    refine ⟨_, rfl, ?_⟩
    have e5 := e2.trans x4
    refine wla rfl rfl (q_assign (v := v4) rfl rfl) ?_
    refine wl_nil ?_
    refine W_th ?_
    refine W_seq ?_
    refine W_reg (by kernel_rfl) ?_
    refine wla rfl rfl (q_move (v := p3) rfl rfl) ?_
    refine wla rfl rfl (q_move (v := (i64 ((wI (1 + (wI ((((UInt64.ofInt a0n) % (8 : UInt64))).toNat : Int))))))) rfl rfl) ?_
    refine wla rfl rfl (q_move (v := (i64 ((wI (1 + (wI ((((UInt64.ofInt a1k) % (8 : UInt64))).toNat : Int))))))) rfl rfl) ?_
    obtain ⟨r6, hr6, H⟩ := Option.bind_eq_some_iff.1 H
    refine wls rfl rfl (stp_call (vs := [p3, (i64 ((wI (1 + (wI ((((UInt64.ofInt a0n) % (8 : UInt64))).toNat : Int)))))), (i64 ((wI (1 + (wI ((((UInt64.ofInt a1k) % (8 : UInt64))).toNat : Int))))))]) Try.func44 rfl rfl rfl (ar3 rfl rfl rfl) (law04_square_calls a3a (wI (1 + (wI ((((UInt64.ofInt a0n) % (8 : UInt64))).toNat : Int)))) (wI (1 + (wI ((((UInt64.ofInt a1k) % (8 : UInt64))).toNat : Int)))) p3 r6 _ [] (Old.nil _) (hp3.lift (Lift.ext e5 _)) hr6) ?_)
    rintro _ w6 ⟨v6, rfl, x6, n6_0, o6_0⟩
    refine ⟨_, rfl, ?_⟩
    have i6_0 : Rw w6 [] v6 r6 := OwK.slk (SlK.stab (Sc.stab _)) _ o6_0 (fun k hk => (Old.nil _) k (n6_0 k hk)) (fun _ h => h.2)
    replace i4_0 := i4_0.lift (Lift.ext x6 _)
    have e7 := e5.trans x6
    refine wla rfl rfl (q_move (v := p4) rfl rfl) ?_
    refine wla rfl rfl (q_move (v := (i64 ((wI (1 + (wI ((((UInt64.ofInt a1k) % (8 : UInt64))).toNat : Int))))))) rfl rfl) ?_
    refine wla rfl rfl (q_move (v := (i64 ((wI (1 + (wI ((((UInt64.ofInt a2c) % (8 : UInt64))).toNat : Int))))))) rfl rfl) ?_
    obtain ⟨r8, hr8, H⟩ := Option.bind_eq_some_iff.1 H
    refine wls rfl rfl (stp_call (vs := [p4, (i64 ((wI (1 + (wI ((((UInt64.ofInt a1k) % (8 : UInt64))).toNat : Int)))))), (i64 ((wI (1 + (wI ((((UInt64.ofInt a2c) % (8 : UInt64))).toNat : Int))))))]) Try.func44 rfl rfl rfl (ar3 rfl rfl rfl) (law04_square_calls a4b (wI (1 + (wI ((((UInt64.ofInt a1k) % (8 : UInt64))).toNat : Int)))) (wI (1 + (wI ((((UInt64.ofInt a2c) % (8 : UInt64))).toNat : Int)))) p4 r8 _ [] (Old.nil _) (hp4.lift (Lift.ext e7 _)) hr8) ?_)
    rintro _ w8 ⟨v8, rfl, x8, n8_0, o8_0⟩
    refine ⟨_, rfl, ?_⟩
    have i8_0 : Rw w8 [] v8 r8 := OwK.slk (SlK.stab (Sc.stab _)) _ o8_0 (fun k hk => (Old.nil _) k (n8_0 k hk)) (fun _ h => h.2)
    replace i4_0 := i4_0.lift (Lift.ext x8 _)
    replace i6_0 := i6_0.lift (Lift.ext x8 _)
    have e9 := e7.trans x8
    refine wla rfl rfl (q_assign (v := v6) rfl rfl) ?_
    refine wla rfl rfl (q_assign (v := v8) rfl rfl) ?_
    refine wl_nil ?_
    refine W_th ?_
    refine W_seq ?_
    refine W_reg (by kernel_rfl) ?_
    refine wla rfl rfl (q_move (v := v6) rfl rfl) ?_
    obtain ⟨r10, hr10, H⟩ := Option.bind_eq_some_iff.1 H
    refine wls rfl rfl (stp_call (vs := [v6]) Try.func38 rfl rfl rfl (ar1 rfl) (matrix_New_calls r6 v6 r10 _ [] (Old.nil _) (i6_0.lift (Lift.sub (fun _ _ => trivial))) hr10) ?_)
    rintro _ w10 ⟨v10_0, rfl, x10, i10_0⟩
    refine ⟨_, rfl, ?_⟩
    replace i4_0 := i4_0.lift (Lift.ext x10 _)
    replace i6_0 := i6_0.lift (Lift.ext x10 _)
    replace i8_0 := i8_0.lift (Lift.ext x10 _)
    have e11 := e9.trans x10
    refine wla rfl rfl (q_move (v := (.tuple #[v10_0, (i64 r10.2)])) rfl rfl) ?_
    refine wla rfl rfl (q_extract rfl rfl rfl) ?_
    refine wla rfl rfl (q_extract rfl rfl rfl) ?_
    refine wla rfl rfl (q_assign (v := v10_0) rfl rfl) ?_
    refine wla rfl rfl (q_assign (v := (i64 r10.2)) rfl rfl) ?_
    refine wl_nil ?_
    refine W_th ?_
    refine W_seq ?_
    refine W_reg (by kernel_rfl) ?_
    refine wla rfl rfl (q_move (v := v8) rfl rfl) ?_
    obtain ⟨r12, hr12, H⟩ := Option.bind_eq_some_iff.1 H
    refine wls rfl rfl (stp_call (vs := [v8]) Try.func38 rfl rfl rfl (ar1 rfl) (matrix_New_calls r8 v8 r12 _ [] (Old.nil _) (i8_0.lift (Lift.sub (fun _ _ => trivial))) hr12) ?_)
    rintro _ w12 ⟨v12_0, rfl, x12, i12_0⟩
    refine ⟨_, rfl, ?_⟩
    replace i4_0 := i4_0.lift (Lift.ext x12 _)
    replace i6_0 := i6_0.lift (Lift.ext x12 _)
    replace i8_0 := i8_0.lift (Lift.ext x12 _)
    replace i10_0 := i10_0.lift (Lift.ext x12 _)
    have e13 := e11.trans x12
    refine wla rfl rfl (q_move (v := (.tuple #[v12_0, (i64 r12.2)])) rfl rfl) ?_
    refine wla rfl rfl (q_extract rfl rfl rfl) ?_
    refine wla rfl rfl (q_extract rfl rfl rfl) ?_
    refine wla rfl rfl (q_assign (v := v12_0) rfl rfl) ?_
    refine wla rfl rfl (q_assign (v := (i64 r12.2)) rfl rfl) ?_
    refine wl_nil ?_
    refine W_th ?_
    refine W_seq ?_
    refine W_reg (by kernel_rfl) ?_
    refine wla rfl rfl (q_move (v := v10_0) rfl rfl) ?_
    refine wla rfl rfl (q_move (v := v4) rfl rfl) ?_
    refine wla rfl rfl (q_move (v := v12_0) rfl rfl) ?_
    obtain ⟨r14, hr14, H⟩ := Option.bind_eq_some_iff.1 H
    refine wls rfl rfl (stp_call (vs := [v10_0, v4, v12_0]) Try.func45 rfl rfl rfl (ar3 rfl rfl rfl) (matrix_Mul_calls r10.1 r4 r12.1 v10_0 v4 v12_0 r14 _ [] (Old.nil _) (i10_0.lift (Lift.sub (fun _ _ => trivial))) (i4_0.lift (Lift.sub (fun _ _ => trivial))) (i12_0.lift (Lift.sub (fun _ _ => trivial))) hr14) ?_)
    rintro _ w14 ⟨v14_0, rfl, x14, i14_0⟩
    refine ⟨_, rfl, ?_⟩
    replace i4_0 := i4_0.lift (Lift.ext x14 _)
    replace i6_0 := i6_0.lift (Lift.ext x14 _)
    replace i8_0 := i8_0.lift (Lift.ext x14 _)
    replace i10_0 := i10_0.lift (Lift.ext x14 _)
    replace i12_0 := i12_0.lift (Lift.ext x14 _)
    have e15 := e13.trans x14
    refine wla rfl rfl (q_move (v := (.tuple #[v14_0, (i64 r14.2)])) rfl rfl) ?_
    refine wla rfl rfl (q_extract rfl rfl rfl) ?_
    refine wla rfl rfl (q_extract rfl rfl rfl) ?_
    refine wla rfl rfl (q_assign (v := v14_0) rfl rfl) ?_
    refine wla rfl rfl (q_assign (v := (i64 r14.2)) rfl rfl) ?_
    refine wl_nil ?_
    refine W_th ?_
    refine W_seq ?_
    refine W_seq ?_
    refine W_reg (by kernel_rfl) ?_
    refine wla rfl rfl (q_move (v := (i64 r10.2)) rfl rfl) ?_
    refine wla rfl rfl (q_neI rfl rfl rfl) ?_
    refine wlb rfl rfl (q_move (v := (.bool ((!decide (r10.2 = 0))))) rfl rfl) (fun hb16 => ?_) (fun hb16 => ?_)
    · replace H := (if_neg (ndec_t hb16)).symm.trans H
      refine wlk rfl rfl ?_
      refine wlk rfl rfl ?_
      refine wla rfl rfl (q_pick_t (v := (.bool true)) rfl rfl rfl) ?_
      refine wla rfl rfl (q_move (v := (.bool true)) rfl rfl) ?_
      refine wlk rfl rfl ?_
      refine wlk rfl rfl ?_
      refine wla rfl rfl (q_pick_t (v := (.bool true)) rfl rfl rfl) ?_
      refine wla rfl rfl (q_move (v := (.bool true)) rfl rfl) ?_
      refine wlk rfl rfl ?_
      refine wlk rfl rfl ?_
      refine wlk rfl rfl ?_
      refine wlk rfl rfl ?_
      refine wlk rfl rfl ?_
      refine wlk rfl rfl ?_
      refine wlk rfl rfl ?_
      refine wla rfl rfl (q_pick_t (v := (.bool true)) rfl rfl rfl) ?_
      refine wl_nil ?_
      refine W_th ?_
      refine W_cond true rfl rfl (fun _ => ?_) (fun hb => by cases hb)
      refine W_seq ?_
      refine W_reg (by kernel_rfl) ?_
      refine wla rfl rfl (q_assign (v := (.bool false)) rfl rfl) ?_
      refine wl_nil ?_
      refine W_th ?_
      refine W_ret ?_
      refine th_r ?_
      obtain rfl := Option.some.inj H
      refine rt1 (.bool false) rfl rfl rfl rfl ?_
      exact ⟨rfl, e15⟩
    · replace H := (if_pos (ndec_f hb16)).symm.trans H
      refine wla rfl rfl (q_move (v := (i64 r12.2)) rfl rfl) ?_
      refine wla rfl rfl (q_neI rfl rfl rfl) ?_
      refine wla rfl rfl (q_pick_f (v := (.bool ((!decide (r12.2 = 0))))) rfl rfl rfl) ?_
      refine wlb rfl rfl (q_move (v := (.bool ((!decide (r12.2 = 0))))) rfl rfl) (fun hb17 => ?_) (fun hb17 => ?_)
      · replace H := (if_neg (ndec_t hb17)).symm.trans H
        refine wlk rfl rfl ?_
        refine wlk rfl rfl ?_
        refine wla rfl rfl (q_pick_t (v := (.bool true)) rfl rfl rfl) ?_
        refine wla rfl rfl (q_move (v := (.bool true)) rfl rfl) ?_
        refine wlk rfl rfl ?_
        refine wlk rfl rfl ?_
        refine wlk rfl rfl ?_
        refine wlk rfl rfl ?_
        refine wlk rfl rfl ?_
        refine wlk rfl rfl ?_
        refine wlk rfl rfl ?_
        refine wla rfl rfl (q_pick_t (v := (.bool true)) rfl rfl rfl) ?_
        refine wl_nil ?_
        refine W_th ?_
        refine W_cond true rfl rfl (fun _ => ?_) (fun hb => by cases hb)
        refine W_seq ?_
        refine W_reg (by kernel_rfl) ?_
        refine wla rfl rfl (q_assign (v := (.bool false)) rfl rfl) ?_
        refine wl_nil ?_
        refine W_th ?_
        refine W_ret ?_
        refine th_r ?_
        obtain rfl := Option.some.inj H
        refine rt1 (.bool false) rfl rfl rfl rfl ?_
        exact ⟨rfl, e15⟩
      · replace H := (if_pos (ndec_f hb17)).symm.trans H
        refine wla rfl rfl (q_move (v := (i64 r14.2)) rfl rfl) ?_
        refine wla rfl rfl (q_neI rfl rfl rfl) ?_
        refine wla rfl rfl (q_pick_f (v := (.bool ((!decide (r14.2 = 0))))) rfl rfl rfl) ?_
        refine wlb rfl rfl (q_move (v := (.bool ((!decide (r14.2 = 0))))) rfl rfl) (fun hb18 => ?_) (fun hb18 => ?_)
        · replace H := (if_neg (ndec_t hb18)).symm.trans H
          refine wlk rfl rfl ?_
          refine wlk rfl rfl ?_
          refine wlk rfl rfl ?_
          refine wlk rfl rfl ?_
          refine wlk rfl rfl ?_
          refine wlk rfl rfl ?_
          refine wlk rfl rfl ?_
          refine wla rfl rfl (q_pick_t (v := (.bool true)) rfl rfl rfl) ?_
          refine wl_nil ?_
          refine W_th ?_
          refine W_cond true rfl rfl (fun _ => ?_) (fun hb => by cases hb)
          refine W_seq ?_
          refine W_reg (by kernel_rfl) ?_
          refine wla rfl rfl (q_assign (v := (.bool false)) rfl rfl) ?_
          refine wl_nil ?_
          refine W_th ?_
          refine W_ret ?_
          refine th_r ?_
          obtain rfl := Option.some.inj H
          refine rt1 (.bool false) rfl rfl rfl rfl ?_
          exact ⟨rfl, e15⟩
        · replace H := (if_pos (ndec_f hb18)).symm.trans H
          refine wla rfl rfl (q_move (v := v14_0) rfl rfl) ?_
          obtain ⟨r19, hr19, H⟩ := Option.bind_eq_some_iff.1 H
          refine wls rfl rfl (stp_call (vs := [v14_0]) Try.func42 rfl rfl rfl (ar1 rfl) (law04_rows_calls r14.1 v14_0 r19 _ [] (Old.nil _) (i14_0.lift (Lift.sub (fun _ _ => trivial))) hr19) ?_)
          rintro _ w19 ⟨v19, rfl, x19, n19_0, o19_0⟩
          refine ⟨_, rfl, ?_⟩
          have i19_0 : Rw w19 [] v19 r19 := OwK.slk (SlK.stab (Sc.stab _)) _ o19_0 (fun k hk => (Old.nil _) k (n19_0 k hk)) (fun _ h => h.2)
          replace i4_0 := i4_0.lift (Lift.ext x19 _)
          replace i6_0 := i6_0.lift (Lift.ext x19 _)
          replace i8_0 := i8_0.lift (Lift.ext x19 _)
          replace i10_0 := i10_0.lift (Lift.ext x19 _)
          replace i12_0 := i12_0.lift (Lift.ext x19 _)
          replace i14_0 := i14_0.lift (Lift.ext x19 _)
          have e20 := e15.trans x19
          refine wla rfl rfl (q_move (v := v6) rfl rfl) ?_
          refine wla rfl rfl (q_move (v := v8) rfl rfl) ?_
          obtain ⟨r21, hr21, H⟩ := Option.bind_eq_some_iff.1 H
          refine wls rfl rfl (stp_call (vs := [v6, v8]) Try.func46 rfl rfl rfl (ar2 rfl rfl) (ref04_Mul_calls r6 r8 v6 v8 r21 _ [] (Old.nil _) (i6_0.lift (Lift.sub (fun _ _ => trivial))) (i8_0.lift (Lift.sub (fun _ _ => trivial))) hr21) ?_)
          rintro _ w21 ⟨v21, rfl, x21, n21_0, o21_0⟩
          refine ⟨_, rfl, ?_⟩
          have i21_0 : Rw w21 [] v21 r21 := OwK.slk (SlK.stab (Sc.stab _)) _ o21_0 (fun k hk => (Old.nil _) k (n21_0 k hk)) (fun _ h => h.2)
          replace i4_0 := i4_0.lift (Lift.ext x21 _)
          replace i6_0 := i6_0.lift (Lift.ext x21 _)
          replace i8_0 := i8_0.lift (Lift.ext x21 _)
          replace i10_0 := i10_0.lift (Lift.ext x21 _)
          replace i12_0 := i12_0.lift (Lift.ext x21 _)
          replace i14_0 := i14_0.lift (Lift.ext x21 _)
          replace i19_0 := i19_0.lift (Lift.ext x21 _)
          have e22 := e20.trans x21
          obtain ⟨r23, hr23, H⟩ := Option.bind_eq_some_iff.1 H
          refine wls rfl rfl (stp_call (vs := [v19, v21]) Try.func41 rfl rfl rfl (ar2 rfl rfl) (law04_same_calls r19 r21 v19 v21 r23 _ (i19_0.lift (Lift.sub (fun _ _ => trivial))) (i21_0.lift (Lift.sub (fun _ _ => trivial))) hr23) ?_)
          rintro _ w23 ⟨rfl, x23⟩
          refine ⟨_, rfl, ?_⟩
          replace i4_0 := i4_0.lift (Lift.ext x23 _)
          replace i6_0 := i6_0.lift (Lift.ext x23 _)
          replace i8_0 := i8_0.lift (Lift.ext x23 _)
          replace i10_0 := i10_0.lift (Lift.ext x23 _)
          replace i12_0 := i12_0.lift (Lift.ext x23 _)
          replace i14_0 := i14_0.lift (Lift.ext x23 _)
          replace i19_0 := i19_0.lift (Lift.ext x23 _)
          replace i21_0 := i21_0.lift (Lift.ext x23 _)
          have e24 := e22.trans x23
          refine wla rfl rfl (q_not rfl rfl) ?_
          refine wla rfl rfl (q_pick_f (v := (.bool ((!r23)))) rfl rfl rfl) ?_
          refine wl_nil ?_
          refine W_th ?_
          refine W_cond _ rfl rfl (fun hb25 => ?_) (fun hb25 => ?_)
          · replace H := (if_pos hb25).symm.trans H
            refine W_seq ?_
            refine W_reg (by kernel_rfl) ?_
            refine wla rfl rfl (q_assign (v := (.bool false)) rfl rfl) ?_
            refine wl_nil ?_
            refine W_th ?_
            refine W_ret ?_
            refine th_r ?_
            obtain rfl := Option.some.inj H
            refine rt1 (.bool false) rfl rfl rfl rfl ?_
            exact ⟨rfl, e24⟩
          · replace H := (if_neg (ne_true_of_eq_false hb25)).symm.trans H
            refine W_skip ?_
            refine W_th ?_
            refine W_seq ?_
            refine W_reg (by kernel_rfl) ?_
            refine wla rfl rfl (q_move (v := v10_0) rfl rfl) ?_
            refine wla rfl rfl (q_move (v := v4) rfl rfl) ?_
            refine wla rfl rfl (q_move (v := p5) rfl rfl) ?_
            obtain ⟨r26, hr26, H⟩ := Option.bind_eq_some_iff.1 H
            refine wls rfl rfl (stp_call (vs := [v10_0, v4, p5]) Try.func47 rfl rfl rfl (ar3 rfl rfl rfl) (matrix_Times_calls r10.1 r4 a5v v10_0 v4 p5 r26 _ (i10_0.lift (Lift.sub (fun _ _ => trivial))) (i4_0.lift (Lift.sub (fun _ _ => trivial))) (hp5.lift (Lift.ext e24 _)) hr26) ?_)
            rintro _ w26 ⟨v26_0, rfl, x26, n26_0, o26_0⟩
            refine ⟨_, rfl, ?_⟩
            have i26_0 : By w26 [] v26_0 r26.1 := OwK.slk (Sc.stab _) _ (OwK.scal o26_0 (v26_0 :: [])) (fun k hk => (Old.nil _) k (n26_0 k hk)) (fun _ h => h.2)
            replace i4_0 := i4_0.lift (Lift.ext x26 _)
            replace i6_0 := i6_0.lift (Lift.ext x26 _)
            replace i8_0 := i8_0.lift (Lift.ext x26 _)
            replace i10_0 := i10_0.lift (Lift.ext x26 _)
            replace i12_0 := i12_0.lift (Lift.ext x26 _)
            replace i14_0 := i14_0.lift (Lift.ext x26 _)
            replace i19_0 := i19_0.lift (Lift.ext x26 _)
            replace i21_0 := i21_0.lift (Lift.ext x26 _)
            have e27 := e24.trans x26
            refine wla rfl rfl (q_move (v := (.tuple #[v26_0, (i64 r26.2)])) rfl rfl) ?_
            refine wla rfl rfl (q_extract rfl rfl rfl) ?_
            refine wla rfl rfl (q_extract rfl rfl rfl) ?_
            refine wla rfl rfl (q_assign (v := v26_0) rfl rfl) ?_
            refine wla rfl rfl (q_assign (v := (i64 r26.2)) rfl rfl) ?_
            refine wl_nil ?_
            refine W_th ?_
            refine W_seq ?_
            obtain ⟨x28, H28, H⟩ := Option.bind_eq_some_iff.1 H
            refine W_mid (fun f w => ∃ s28, x28 = .inl s28 ∧ f 1 = (i64 ((wI (1 + (wI ((((UInt64.ofInt a1k) % (8 : UInt64))).toNat : Int)))))) ∧ f 2 = (i64 ((wI (1 + (wI ((((UInt64.ofInt a2c) % (8 : UInt64))).toNat : Int)))))) ∧ f 13 = v4 ∧ f 16 = v10_0 ∧ f 18 = v12_0 ∧ f 149 = undef ∧ Ext w0 w ∧ Fd w [] v4 r4 ∧ Mx w [] v10_0 r10.1 ∧ Mx w [] v12_0 r12.1) ?_ ?_
            · refine W_seq ?_
              refine W_reg (by kernel_rfl) ?_
              refine wla rfl rfl (q_move (v := p5) rfl rfl) ?_
              refine wla rfl rfl (q_len rfl T22.sl rfl (hp5.lift (Lift.ext e27 _))) ?_
              refine wla rfl rfl (q_move (v := (i64 ((wI (1 + (wI ((((UInt64.ofInt a1k) % (8 : UInt64))).toNat : Int))))))) rfl rfl) ?_
              refine wla rfl rfl (q_neI rfl rfl rfl) ?_
              refine wl_nil ?_
              refine W_th ?_
              refine W_cond _ rfl rfl (fun hb29 => ?_) (fun hb29 => ?_)
              · replace H28 := (if_neg (ndec_t hb29)).symm.trans H28
                refine W_seq ?_
                refine W_reg (by kernel_rfl) ?_
                refine wla rfl rfl (q_move (v := (i64 r26.2)) rfl rfl) ?_
                refine wla rfl rfl (q_neI rfl rfl rfl) ?_
                refine wl_nil ?_
                refine W_th ?_
                refine W_cond _ rfl rfl (fun hb30 => ?_) (fun hb30 => ?_)
                · replace H28 := (if_neg (ndec_t hb30)).symm.trans H28
                  refine W_seq ?_
                  refine W_reg (by kernel_rfl) ?_
                  refine wla rfl rfl (q_assign (v := (.bool false)) rfl rfl) ?_
                  refine wl_nil ?_
                  refine W_th ?_
                  refine W_ret ?_
                  obtain rfl := Option.some.inj H28
                  simp only [Sum.elim_inr] at H
                  refine th_r ?_
                  refine th_r ?_
                  obtain rfl := Option.some.inj H
                  refine rt1 (.bool false) rfl rfl rfl rfl ?_
                  exact ⟨rfl, e27⟩
                · replace H28 := (if_pos (ndec_f hb30)).symm.trans H28
                  refine W_skip ?_
                  obtain rfl := Option.some.inj H28
                  exact ⟨_, rfl, rfl, rfl, rfl, rfl, rfl, rfl, e27, i4_0, i10_0, i12_0⟩
              · replace H28 := (if_pos (ndec_f hb29)).symm.trans H28
                refine W_seq ?_
                refine W_draw [4, 8] [(0, 0), (1, 0), (2, 0), (3, 0), (4, 1), (5, 0), (6, 0), (7, 2), (8, 1), (9, 0), (10, 0)] mixed (by kernel_rfl) (by kernel_rfl) (by kernel_rfl) (by kernel_rfl) ?_
                have x31 := Ext.drew w26
                replace i4_0 := i4_0.lift (Lift.ext x31 _)
                replace i6_0 := i6_0.lift (Lift.ext x31 _)
                replace i8_0 := i8_0.lift (Lift.ext x31 _)
                replace i10_0 := i10_0.lift (Lift.ext x31 _)
                replace i12_0 := i12_0.lift (Lift.ext x31 _)
                replace i14_0 := i14_0.lift (Lift.ext x31 _)
                replace i19_0 := i19_0.lift (Lift.ext x31 _)
                replace i21_0 := i21_0.lift (Lift.ext x31 _)
                replace i26_0 := i26_0.lift (Lift.ext x31 _)
                have e32 := e27.trans x31
                refine wsa rfl rfl rfl (q_move (v := (i64 r26.2)) rfl rfl) ?_
                refine wsa rfl rfl rfl (q_neI rfl rfl rfl) ?_
                refine wsb rfl rfl rfl (q_move (v := (.bool ((!decide (r26.2 = 0))))) rfl rfl) (fun hb33 => ?_) (fun hb33 => ?_)
                · replace H28 := (if_neg (ndec_t hb33)).symm.trans H28
                  refine wsk rfl rfl rfl ?_
                  refine wsk rfl rfl rfl ?_
                  refine wsk rfl rfl rfl ?_
                  refine wsk rfl rfl rfl ?_
                  refine wsk rfl rfl rfl ?_
                  refine wsk rfl rfl rfl ?_
                  refine wsk rfl rfl rfl ?_
                  refine wsa rfl rfl rfl (q_pick_t (v := (.bool true)) rfl rfl rfl) ?_
                  refine ws_nil ?_
                  refine W_th ?_
                  refine W_cond true rfl rfl (fun _ => ?_) (fun hb => by cases hb)
                  refine W_seq ?_
                  refine W_reg (by kernel_rfl) ?_
                  refine wla rfl rfl (q_assign (v := (.bool false)) rfl rfl) ?_
                  refine wl_nil ?_
                  refine W_th ?_
                  refine W_ret ?_
                  obtain rfl := Option.some.inj H28
                  simp only [Sum.elim_inr] at H
                  refine th_r ?_
                  refine th_r ?_
                  obtain rfl := Option.some.inj H
                  refine rt1 (.bool false) rfl rfl rfl rfl ?_
                  exact ⟨rfl, e32⟩
                · replace H28 := (if_pos (ndec_f hb33)).symm.trans H28
                  refine wsa rfl rfl rfl (q_move (v := v26_0) rfl rfl) ?_
                  refine wsq rfl rfl rfl (q_str rfl T22 rfl rfl rfl i26_0) ?_
                  refine wsa rfl rfl rfl (q_move (v := v6) rfl rfl) ?_
                  refine wsa rfl rfl rfl (q_move (v := p5) rfl rfl) ?_
                  obtain ⟨r34, hr34, H28⟩ := Option.bind_eq_some_iff.1 H28
                  refine wss rfl rfl rfl (stp_call (vs := [v6, p5]) Try.func48 rfl rfl rfl (ar2 rfl rfl) (ref04_Times_calls r6 a5v v6 p5 r34 _ (i6_0.lift (Lift.sub (fun _ _ => trivial))) (hp5.lift (Lift.ext e32 _)) hr34) ?_)
                  rintro _ w34 ⟨v34, rfl, x34, n34_0, o34_0⟩
                  refine ⟨_, rfl, x34, ?_⟩
                  have i34_0 : By w34 [] v34 r34 := OwK.slk (Sc.stab _) _ (OwK.scal o34_0 (v34 :: [])) (fun k hk => (Old.nil _) k (n34_0 k hk)) (fun _ h => h.2)
                  replace i4_0 := i4_0.lift (Lift.ext x34 _)
                  replace i6_0 := i6_0.lift (Lift.ext x34 _)
                  replace i8_0 := i8_0.lift (Lift.ext x34 _)
                  replace i10_0 := i10_0.lift (Lift.ext x34 _)
                  replace i12_0 := i12_0.lift (Lift.ext x34 _)
                  replace i14_0 := i14_0.lift (Lift.ext x34 _)
                  replace i19_0 := i19_0.lift (Lift.ext x34 _)
                  replace i21_0 := i21_0.lift (Lift.ext x34 _)
                  replace i26_0 := i26_0.lift (Lift.ext x34 _)
                  have e35 := e32.trans x34
                  refine wsq rfl rfl rfl (q_str rfl T22 rfl rfl rfl i34_0) ?_
                  refine wsa rfl rfl rfl (q_neS rfl rfl rfl) ?_
                  refine wsa rfl rfl rfl (q_pick_f (v := (.bool ((!decide (r26.1 = r34))))) rfl rfl rfl) ?_
                  refine ws_nil ?_
                  refine W_th ?_
                  refine W_cond _ rfl rfl (fun hb36 => ?_) (fun hb36 => ?_)
                  · replace H28 := (if_neg (ndec_t hb36)).symm.trans H28
                    refine W_seq ?_
                    refine W_reg (by kernel_rfl) ?_
                    refine wla rfl rfl (q_assign (v := (.bool false)) rfl rfl) ?_
                    refine wl_nil ?_
                    refine W_th ?_
                    refine W_ret ?_
                    obtain rfl := Option.some.inj H28
                    simp only [Sum.elim_inr] at H
                    refine th_r ?_
                    refine th_r ?_
                    obtain rfl := Option.some.inj H
                    refine rt1 (.bool false) rfl rfl rfl rfl ?_
                    exact ⟨rfl, e35⟩
                  · replace H28 := (if_pos (ndec_f hb36)).symm.trans H28
                    refine W_skip ?_
                    obtain rfl := Option.some.inj H28
                    exact ⟨_, rfl, rfl, rfl, rfl, rfl, rfl, rfl, e35, i4_0, i10_0, i12_0⟩
            · rintro _ w37 ⟨s28, rfl, s1_37, s2_37, s13_37, s16_37, s18_37, s149_37, hE37, i0_37, i1_37, i2_37⟩
              simp only [Sum.elim_inl] at H
              refine W_th ?_
              refine W_seq ?_
              refine W_reg (by kernel_rfl) ?_
              refine wla rfl rfl (q_move (v := v12_0) rfl s18_37) ?_
              refine wla rfl rfl (q_move (v := v4) rfl s13_37) ?_
              refine wla rfl rfl (q_move (v := v12_0) rfl s18_37) ?_
              obtain ⟨r38, hr38, H⟩ := Option.bind_eq_some_iff.1 H
              refine wls rfl rfl (stp_call (vs := [v12_0, v4, v12_0]) Try.func45 rfl rfl rfl (ar3 rfl rfl rfl) (matrix_Mul_calls r12.1 r4 r12.1 v12_0 v4 v12_0 r38 _ [] (Old.nil _) (i2_37.lift (Lift.sub (fun _ _ => trivial))) (i0_37.lift (Lift.sub (fun _ _ => trivial))) (i2_37.lift (Lift.sub (fun _ _ => trivial))) hr38) ?_)
              rintro _ w38 ⟨v38_0, rfl, x38, i38_0⟩
              refine ⟨_, rfl, ?_⟩
              replace i0_37 := i0_37.lift (Lift.ext x38 _)
              replace i1_37 := i1_37.lift (Lift.ext x38 _)
              replace i2_37 := i2_37.lift (Lift.ext x38 _)
              have e39 := hE37.trans x38
              refine wla rfl rfl (q_move (v := (.tuple #[v38_0, (i64 r38.2)])) rfl rfl) ?_
              refine wla rfl rfl (q_extract rfl rfl rfl) ?_
              refine wla rfl rfl (q_extract rfl rfl rfl) ?_
              refine wla rfl rfl (q_assign (v := v38_0) rfl rfl) ?_
              refine wla rfl rfl (q_assign (v := (i64 r38.2)) rfl rfl) ?_
              refine wl_nil ?_
              refine W_th ?_
              refine W_seq ?_
              refine W_reg (by kernel_rfl) ?_
              refine wla rfl rfl (q_move (v := v10_0) rfl s16_37) ?_
              refine wla rfl rfl (q_move (v := v4) rfl s13_37) ?_
              obtain ⟨r40, hr40, H⟩ := Option.bind_eq_some_iff.1 H
              refine wls rfl rfl (stp_call (vs := [v10_0, v4, (.pointer none)]) Try.func45 rfl rfl rfl (ar3 rfl rfl rfl) (matrix_Mul_calls r10.1 r4 (none : Option (List (List UInt8))) v10_0 v4 (.pointer none) r40 _ [] (Old.nil _) (i1_37.lift (Lift.sub (fun _ _ => trivial))) (i0_37.lift (Lift.sub (fun _ _ => trivial))) (Mx.nil _ _) hr40) ?_)
              rintro _ w40 ⟨v40_0, rfl, x40, i40_0⟩
              refine ⟨_, rfl, ?_⟩
              replace i0_37 := i0_37.lift (Lift.ext x40 _)
              replace i1_37 := i1_37.lift (Lift.ext x40 _)
              replace i2_37 := i2_37.lift (Lift.ext x40 _)
              replace i38_0 := i38_0.lift (Lift.ext x40 _)
              have e41 := e39.trans x40
              refine wla rfl rfl (q_move (v := (.tuple #[v40_0, (i64 r40.2)])) rfl rfl) ?_
              refine wla rfl rfl (q_extract rfl rfl rfl) ?_
              refine wla rfl rfl (q_extract rfl rfl rfl) ?_
              refine wla rfl rfl (q_assign (v := v40_0) rfl rfl) ?_
              refine wla rfl rfl (q_assign (v := (i64 r40.2)) rfl rfl) ?_
              refine wl_nil ?_
              refine W_th ?_
              refine W_seq ?_
              refine W_reg (by kernel_rfl) ?_
              refine wla rfl rfl (q_move (v := v10_0) rfl s16_37) ?_
              refine wla rfl rfl (q_move (v := v12_0) rfl s18_37) ?_
              obtain ⟨r42, hr42, H⟩ := Option.bind_eq_some_iff.1 H
              refine wls rfl rfl (stp_call (vs := [v10_0, (.pointer none), v12_0]) Try.func45 rfl rfl rfl (ar3 rfl rfl rfl) (matrix_Mul_calls r10.1 false r12.1 v10_0 (.pointer none) v12_0 r42 _ [] (Old.nil _) (i1_37.lift (Lift.sub (fun _ _ => trivial))) (Fd.nil _ _) (i2_37.lift (Lift.sub (fun _ _ => trivial))) hr42) ?_)
              rintro _ w42 ⟨v42_0, rfl, x42, i42_0⟩
              refine ⟨_, rfl, ?_⟩
              replace i0_37 := i0_37.lift (Lift.ext x42 _)
              replace i1_37 := i1_37.lift (Lift.ext x42 _)
              replace i2_37 := i2_37.lift (Lift.ext x42 _)
              replace i38_0 := i38_0.lift (Lift.ext x42 _)
              replace i40_0 := i40_0.lift (Lift.ext x42 _)
              have e43 := e41.trans x42
              refine wla rfl rfl (q_move (v := (.tuple #[v42_0, (i64 r42.2)])) rfl rfl) ?_
              refine wla rfl rfl (q_extract rfl rfl rfl) ?_
              refine wla rfl rfl (q_extract rfl rfl rfl) ?_
              refine wla rfl rfl (q_assign (v := v42_0) rfl rfl) ?_
              refine wla rfl rfl (q_assign (v := (i64 r42.2)) rfl rfl) ?_
              refine wl_nil ?_
              refine W_th ?_
              refine W_seq ?_
              refine W_reg (by kernel_rfl) ?_
              refine wla rfl rfl (q_move (v := (i64 r38.2)) rfl rfl) ?_
              refine wla rfl rfl (q_eqI rfl rfl rfl) ?_
              refine wla rfl rfl (q_move (v := (i64 ((wI (1 + (wI ((((UInt64.ofInt a1k) % (8 : UInt64))).toNat : Int))))))) rfl s1_37) ?_
              refine wla rfl rfl (q_move (v := (i64 ((wI (1 + (wI ((((UInt64.ofInt a2c) % (8 : UInt64))).toNat : Int))))))) rfl s2_37) ?_
              refine wla rfl rfl (q_eqI rfl rfl rfl) ?_
              refine wla rfl rfl (q_eqB rfl (by kernel_rfl) rfl rfl) ?_
              refine wlb rfl rfl (q_move (v := (.bool ((((decide (r38.2 = 0))) == ((decide ((wI (1 + (wI ((((UInt64.ofInt a1k) % (8 : UInt64))).toNat : Int)))) = (wI (1 + (wI ((((UInt64.ofInt a2c) % (8 : UInt64))).toNat : Int))))))))))) rfl rfl) (fun hb44 => ?_) (fun hb44 => ?_)
              · replace H := (if_pos hb44).symm.trans H
                refine wla rfl rfl (q_move (v := (i64 r40.2)) rfl rfl) ?_
                refine wla rfl rfl (q_eqI rfl rfl rfl) ?_
                refine wla rfl rfl (q_pick_t (v := (.bool ((decide (r40.2 = 1))))) rfl rfl rfl) ?_
                refine wlb rfl rfl (q_move (v := (.bool ((decide (r40.2 = 1))))) rfl rfl) (fun hb45 => ?_) (fun hb45 => ?_)
                · replace H := (if_pos (of_decide_eq_true hb45)).symm.trans H
                  refine wla rfl rfl (q_move (v := (i64 r42.2)) rfl rfl) ?_
                  refine wla rfl rfl (q_eqI rfl rfl rfl) ?_
                  refine wla rfl rfl (q_pick_t (v := (.bool ((decide (r42.2 = 1))))) rfl rfl rfl) ?_
                  refine wla rfl rfl (q_assign (v := (.bool ((decide (r42.2 = 1))))) rfl rfl) ?_
                  refine wl_nil ?_
                  refine W_th ?_
                  refine W_ret ?_
                  obtain rfl := Option.some.inj H
                  refine rt1 (.bool ((decide (r42.2 = 1)))) rfl rfl rfl s149_37 ?_
                  exact ⟨rfl, e43⟩
                · replace H := (if_neg (of_decide_eq_false hb45)).symm.trans H
                  refine wlk rfl rfl ?_
                  refine wlk rfl rfl ?_
                  refine wla rfl rfl (q_pick_f (v := (.bool false)) rfl rfl rfl) ?_
                  refine wla rfl rfl (q_assign (v := (.bool false)) rfl rfl) ?_
                  refine wl_nil ?_
                  refine W_th ?_
                  refine W_ret ?_
                  obtain rfl := Option.some.inj H
                  refine rt1 (.bool false) rfl rfl rfl s149_37 ?_
                  exact ⟨rfl, e43⟩
              · replace H := (if_neg (ne_true_of_eq_false hb44)).symm.trans H
                refine wlk rfl rfl ?_
                refine wlk rfl rfl ?_
                refine wla rfl rfl (q_pick_f (v := (.bool false)) rfl rfl rfl) ?_
                refine wla rfl rfl (q_move (v := (.bool false)) rfl rfl) ?_
                refine wlk rfl rfl ?_
                refine wlk rfl rfl ?_
                refine wla rfl rfl (q_pick_f (v := (.bool false)) rfl rfl rfl) ?_
                refine wla rfl rfl (q_assign (v := (.bool false)) rfl rfl) ?_
                refine wl_nil ?_
                refine W_th ?_
                refine W_ret ?_
                obtain rfl := Option.some.inj H
                refine rt1 (.bool false) rfl rfl rfl s149_37 ?_
                exact ⟨rfl, e43⟩

end Gk

/- Printed by gen.py: for each Go function a pure function, and that the Go code comes to it. No condition beside the equation that says what the pure function gives. -/
import Derived.Test.YtabcmfkmddlaaaaL8a
set_option linter.unusedVariables false
set_option linter.unusedSimpArgs false
namespace Gk
open Go Go.Proofs

/-! largesse/largesselaw08.ShamirJoins -/
noncomputable def law08_ShamirJoins (a0t : Int) (a1more : Int) (a2secret : List UInt8) (a3mask : List UInt8) (a4delta : List UInt8) (a5xs : List UInt8) (a6x : UInt8) : Option Bool :=
((law08_lives ).bind fun r1 =>
(if (!r1) = true then
((law08_lives ).bind fun r4 => some r4)
else
(if 20 < (a2secret.length : Int) then
((law08_lives ).bind fun r7 => some r7)
else
((law08_Unlike a5xs (wI ((wI (1 + (wI ((((UInt64.ofInt a0t) % (8 : UInt64))).toNat : Int)))) + (wI ((((UInt64.ofInt a1more) % (5 : UInt64))).toNat : Int))))).bind fun r9 =>
((law08_Made a3mask (wI ((wI ((wI (1 + (wI ((((UInt64.ofInt a0t) % (8 : UInt64))).toNat : Int)))) - 1)) * (a2secret.length : Int)))).bind fun r11 =>
((law08_Made a4delta (wI ((wI ((wI (1 + (wI ((((UInt64.ofInt a0t) % (8 : UInt64))).toNat : Int)))) - 1)) * (a2secret.length : Int)))).bind fun r13 =>
((field_New ).bind fun r15 =>
((shamir_Split r15 (wI (1 + (wI ((((UInt64.ofInt a0t) % (8 : UInt64))).toNat : Int)))) a2secret r11 r9).bind fun r17 =>
((shamir_Delta r15 (wI (1 + (wI ((((UInt64.ofInt a0t) % (8 : UInt64))).toNat : Int)))) r13 r9 (a2secret.length : Int)).bind fun r19 =>
((shamir_Add r17.1 r19.1).bind fun r21 =>
(if r17.2 = 0 then
(if r19.2 = 0 then
(if r21.2 = 0 then
(((if a6x = (0 : UInt8) then some (1 : UInt8)
else some a6x)).bind fun x26 =>
((shamir_Share r15 (wI (1 + (wI ((((UInt64.ofInt a0t) % (8 : UInt64))).toNat : Int)))) a2secret r11 x26).bind fun r29 =>
((iterC (fun s31 : Int =>
(if s31 ≤ (r9.length : Int) then
((subL r9 ((wI ((r9.length : Int) - s31))) ((r9.length : Int))).bind fun c34 =>
((subL r17.1 ((wI ((r9.length : Int) - s31))) ((r17.1.length : Int))).bind fun c35 =>
((shamir_Join r15 c34 c35).bind fun r36 =>
((subL r21.1 ((wI ((r9.length : Int) - s31))) ((r21.1.length : Int))).bind fun c38 =>
((shamir_Join r15 c34 c38).bind fun r39 =>
((subL r17.1 ((wI ((r9.length : Int) - s31))) ((r17.1.length : Int))).bind fun c41 =>
((shamir_At r15 c34 c41 x26).bind fun r42 =>
(if r36.2 = 0 then
(if r39.2 = 0 then
(if r42.2 = 0 then
(if r36.1 = a2secret then
(if r39.1 = a2secret then
(if r42.1 = r29.1 then some (.inl (wI (s31 + 1)))
else some (.inr (.inr false)))
else some (.inr (.inr false)))
else some (.inr (.inr false)))
else some (.inr (.inr false)))
else some (.inr (.inr false)))
else some (.inr (.inr false))))))))))
else some (.inr (.inl ())))) (wI (1 + (wI ((((UInt64.ofInt a0t) % (8 : UInt64))).toNat : Int))))).bind (Sum.elim (fun y31 =>
((subL r17.1 1 ((r17.1.length : Int))).bind fun c52 =>
((shamir_Add r17.1 c52).bind fun r53 =>
(if r53.2 = 1 then some true
else some (decide ((r17.1.length : Int) = 0)))))) (fun q31 => some q31)))))
else some false)
else some false)
else some false)))))))))))
set_option maxRecDepth 100000 in
set_option maxHeartbeats 8000000 in
theorem law08_ShamirJoins_calls (a0t : Int) (a1more : Int) (a2secret : List UInt8) (a3mask : List UInt8) (a4delta : List UInt8) (a5xs : List UInt8) (a6x : UInt8) (p2 : Value) (p3 : Value) (p4 : Value) (p5 : Value) (r : Bool) (w0 : World) (hp2 : By w0 [] p2 a2secret) (hp3 : By w0 [] p3 a3mask) (hp4 : By w0 [] p4 a4delta) (hp5 : By w0 [] p5 a5xs) (H : law08_ShamirJoins a0t a1more a2secret a3mask a4delta a5xs a6x = some r) :
    Calls Try.prog 6 [(i64 a0t), (i64 a1more), p2, p3, p4, p5, (u8 a6x)].toArray w0 (fun e w' => e = .returned (.bool r) ∧ Ext w0 w') := by
  have hE : Ext w0 w0 := Ext.refl w0
  unfold law08_ShamirJoins at H
  refine calls_W (n := 212) Try.func6 rfl rfl rfl ?_
  refine W_seq ?_
  refine W_reg (by kernel_rfl) ?_
  refine wla rfl rfl (q_assign (v := (.bool false)) rfl rfl) ?_
  refine wl_nil ?_
  refine W_th ?_
  refine W_seq ?_
  refine W_seq ?_
  refine W_reg (by kernel_rfl) ?_
  obtain ⟨r1, hr1, H⟩ := Option.bind_eq_some_iff.1 H
  refine wls rfl rfl (stp_call (vs := []) Try.func12 rfl rfl rfl (ar0 ) (law08_lives_calls   r1 _  hr1) ?_)
  rintro _ w1 ⟨rfl, x1⟩
  refine ⟨_, rfl, ?_⟩
  have e2 := hE.trans x1
  refine wla rfl rfl (q_not rfl rfl) ?_
  refine wlb rfl rfl (q_move (v := (.bool ((!r1)))) rfl rfl) (fun hb3 => ?_) (fun hb3 => ?_)
  · replace H := (if_pos hb3).symm.trans H
    refine wlk rfl rfl ?_
    refine wlk rfl rfl ?_
    refine wlk rfl rfl ?_
    refine wla rfl rfl (q_pick_t (v := (.bool true)) rfl rfl rfl) ?_
    refine wl_nil ?_
    refine W_th ?_
    refine W_cond true rfl rfl (fun _ => ?_) (fun hb => by cases hb)
    refine W_seq ?_
    refine W_reg (by kernel_rfl) ?_
    obtain ⟨r4, hr4, H⟩ := Option.bind_eq_some_iff.1 H
    refine wls rfl rfl (stp_call (vs := []) Try.func12 rfl rfl rfl (ar0 ) (law08_lives_calls   r4 _  hr4) ?_)
    rintro _ w4 ⟨rfl, x4⟩
    refine ⟨_, rfl, ?_⟩
    have e5 := e2.trans x4
    refine wla rfl rfl (q_assign (v := (.bool r4)) rfl rfl) ?_
    refine wl_nil ?_
    refine W_th ?_
    refine W_ret ?_
    refine th_r ?_
    obtain rfl := Option.some.inj H
    refine rt1 (.bool r4) rfl rfl rfl rfl ?_
    exact ⟨rfl, e5⟩
  · replace H := (if_neg (ne_true_of_eq_false hb3)).symm.trans H
    refine wla rfl rfl (q_move (v := p2) rfl rfl) ?_
    refine wla rfl rfl (q_len rfl T22.sl rfl (hp2.lift (Lift.ext e2 _))) ?_
    refine wla rfl rfl (q_gtI rfl rfl rfl) ?_
    refine wla rfl rfl (q_pick_f (v := (.bool ((decide (20 < (a2secret.length : Int)))))) rfl rfl rfl) ?_
    refine wl_nil ?_
    refine W_th ?_
    refine W_cond _ rfl rfl (fun hb6 => ?_) (fun hb6 => ?_)
    · replace H := (if_pos (of_decide_eq_true hb6)).symm.trans H
      refine W_seq ?_
      refine W_reg (by kernel_rfl) ?_
      obtain ⟨r7, hr7, H⟩ := Option.bind_eq_some_iff.1 H
      refine wls rfl rfl (stp_call (vs := []) Try.func12 rfl rfl rfl (ar0 ) (law08_lives_calls   r7 _  hr7) ?_)
      rintro _ w7 ⟨rfl, x7⟩
      refine ⟨_, rfl, ?_⟩
      have e8 := e2.trans x7
      refine wla rfl rfl (q_assign (v := (.bool r7)) rfl rfl) ?_
      refine wl_nil ?_
      refine W_th ?_
      refine W_ret ?_
      refine th_r ?_
      obtain rfl := Option.some.inj H
      refine rt1 (.bool r7) rfl rfl rfl rfl ?_
      exact ⟨rfl, e8⟩
    · replace H := (if_neg (of_decide_eq_false hb6)).symm.trans H
      refine W_skip ?_
      refine W_th ?_
      refine W_seq ?_
      refine W_reg (by kernel_rfl) ?_
      refine wla rfl rfl (q_move (v := (i64 a0t)) rfl rfl) ?_
      refine wla rfl rfl (q_cvt64I rfl rfl rfl rfl) ?_
      refine wla rfl rfl (q_rem64 rfl rfl (cst64 (8 : UInt64) rfl) (by decide)) ?_
      refine wla rfl rfl (q_cvtI64 rfl rfl rfl rfl) ?_
      refine wla rfl rfl (q_addI rfl rfl rfl) ?_
      refine wla rfl rfl (q_assign (v := (i64 ((wI (1 + (wI ((((UInt64.ofInt a0t) % (8 : UInt64))).toNat : Int))))))) rfl rfl) ?_
      refine wl_nil ?_
      refine W_th ?_
      refine W_seq ?_
      refine W_reg (by kernel_rfl) ?_
      refine wla rfl rfl (q_move (v := p5) rfl rfl) ?_
      refine wla rfl rfl (q_move (v := (i64 ((wI (1 + (wI ((((UInt64.ofInt a0t) % (8 : UInt64))).toNat : Int))))))) rfl rfl) ?_
      refine wla rfl rfl (q_move (v := (i64 a1more)) rfl rfl) ?_
      refine wla rfl rfl (q_cvt64I rfl rfl rfl rfl) ?_
      refine wla rfl rfl (q_rem64 rfl rfl (cst64 (5 : UInt64) rfl) (by decide)) ?_
      refine wla rfl rfl (q_cvtI64 rfl rfl rfl rfl) ?_
      refine wla rfl rfl (q_addI rfl rfl rfl) ?_
      obtain ⟨r9, hr9, H⟩ := Option.bind_eq_some_iff.1 H
      refine wls rfl rfl (stp_call (vs := [p5, (i64 ((wI ((wI (1 + (wI ((((UInt64.ofInt a0t) % (8 : UInt64))).toNat : Int)))) + (wI ((((UInt64.ofInt a1more) % (5 : UInt64))).toNat : Int))))))]) Try.func23 rfl rfl rfl (ar2 rfl rfl) (law08_Unlike_calls a5xs (wI ((wI (1 + (wI ((((UInt64.ofInt a0t) % (8 : UInt64))).toNat : Int)))) + (wI ((((UInt64.ofInt a1more) % (5 : UInt64))).toNat : Int)))) p5 r9 _ (hp5.lift (Lift.ext e2 _)) hr9) ?_)
      rintro _ w9 ⟨v9, rfl, x9, n9_0, o9_0⟩
      refine ⟨_, rfl, ?_⟩
      have i9_0 : By w9 [] v9 r9 := OwK.slk (Sc.stab _) _ (OwK.scal o9_0 (v9 :: [])) (fun k hk => (Old.nil _) k (n9_0 k hk)) (fun _ h => h.2)
      have e10 := e2.trans x9
      refine wla rfl rfl (q_assign (v := v9) rfl rfl) ?_
      refine wl_nil ?_
      refine W_th ?_
      refine W_seq ?_
      refine W_reg (by kernel_rfl) ?_
      refine wla rfl rfl (q_move (v := p3) rfl rfl) ?_
      refine wla rfl rfl (q_move (v := (i64 ((wI (1 + (wI ((((UInt64.ofInt a0t) % (8 : UInt64))).toNat : Int))))))) rfl rfl) ?_
      refine wla rfl rfl (q_subI rfl rfl rfl) ?_
      refine wla rfl rfl (q_move (v := p2) rfl rfl) ?_
      refine wla rfl rfl (q_len rfl T22.sl rfl (hp2.lift (Lift.ext e10 _))) ?_
      refine wla rfl rfl (q_mulI rfl rfl rfl) ?_
      obtain ⟨r11, hr11, H⟩ := Option.bind_eq_some_iff.1 H
      refine wls rfl rfl (stp_call (vs := [p3, (i64 ((wI ((wI ((wI (1 + (wI ((((UInt64.ofInt a0t) % (8 : UInt64))).toNat : Int)))) - 1)) * (a2secret.length : Int)))))]) Try.func18 rfl rfl rfl (ar2 rfl rfl) (law08_Made_calls a3mask (wI ((wI ((wI (1 + (wI ((((UInt64.ofInt a0t) % (8 : UInt64))).toNat : Int)))) - 1)) * (a2secret.length : Int))) p3 r11 _ (hp3.lift (Lift.ext e10 _)) hr11) ?_)
      rintro _ w11 ⟨v11, rfl, x11, n11_0, o11_0⟩
      refine ⟨_, rfl, ?_⟩
      have i11_0 : By w11 [] v11 r11 := OwK.slk (Sc.stab _) _ (OwK.scal o11_0 (v11 :: [])) (fun k hk => (Old.nil _) k (n11_0 k hk)) (fun _ h => h.2)
      replace i9_0 := i9_0.lift (Lift.ext x11 _)
      have e12 := e10.trans x11
      refine wla rfl rfl (q_move (v := p4) rfl rfl) ?_
      refine wla rfl rfl (q_move (v := (i64 ((wI (1 + (wI ((((UInt64.ofInt a0t) % (8 : UInt64))).toNat : Int))))))) rfl rfl) ?_
      refine wla rfl rfl (q_subI rfl rfl rfl) ?_
      refine wla rfl rfl (q_move (v := p2) rfl rfl) ?_
      refine wla rfl rfl (q_len rfl T22.sl rfl (hp2.lift (Lift.ext e12 _))) ?_
      refine wla rfl rfl (q_mulI rfl rfl rfl) ?_
      obtain ⟨r13, hr13, H⟩ := Option.bind_eq_some_iff.1 H
      refine wls rfl rfl (stp_call (vs := [p4, (i64 ((wI ((wI ((wI (1 + (wI ((((UInt64.ofInt a0t) % (8 : UInt64))).toNat : Int)))) - 1)) * (a2secret.length : Int)))))]) Try.func18 rfl rfl rfl (ar2 rfl rfl) (law08_Made_calls a4delta (wI ((wI ((wI (1 + (wI ((((UInt64.ofInt a0t) % (8 : UInt64))).toNat : Int)))) - 1)) * (a2secret.length : Int))) p4 r13 _ (hp4.lift (Lift.ext e12 _)) hr13) ?_)
      rintro _ w13 ⟨v13, rfl, x13, n13_0, o13_0⟩
      refine ⟨_, rfl, ?_⟩
      have i13_0 : By w13 [] v13 r13 := OwK.slk (Sc.stab _) _ (OwK.scal o13_0 (v13 :: [])) (fun k hk => (Old.nil _) k (n13_0 k hk)) (fun _ h => h.2)
      replace i9_0 := i9_0.lift (Lift.ext x13 _)
      replace i11_0 := i11_0.lift (Lift.ext x13 _)
      have e14 := e12.trans x13
      refine wla rfl rfl (q_assign (v := v11) rfl rfl) ?_
      refine wla rfl rfl (q_assign (v := v13) rfl rfl) ?_
      refine wl_nil ?_
      refine W_th ?_
      refine W_seq ?_
      refine W_reg (by kernel_rfl) ?_
      obtain ⟨r15, hr15, H⟩ := Option.bind_eq_some_iff.1 H
      refine wls rfl rfl (stp_call (vs := []) Try.func14 rfl rfl rfl (ar0 ) (field_New_calls   r15 _ [] (Old.nil _)  hr15) ?_)
      rintro _ w15 ⟨v15, rfl, x15, i15_0⟩
      refine ⟨_, rfl, ?_⟩
      replace i9_0 := i9_0.lift (Lift.ext x15 _)
      replace i11_0 := i11_0.lift (Lift.ext x15 _)
      replace i13_0 := i13_0.lift (Lift.ext x15 _)
      have e16 := e14.trans x15
      refine wla rfl rfl (q_assign (v := v15) rfl rfl) ?_
      refine wl_nil ?_
      refine W_th ?_
      refine W_seq ?_
      refine W_reg (by kernel_rfl) ?_
      refine wla rfl rfl (q_move (v := v15) rfl rfl) ?_
      refine wla rfl rfl (q_move (v := (i64 ((wI (1 + (wI ((((UInt64.ofInt a0t) % (8 : UInt64))).toNat : Int))))))) rfl rfl) ?_
      refine wla rfl rfl (q_move (v := p2) rfl rfl) ?_
      refine wla rfl rfl (q_move (v := v11) rfl rfl) ?_
      refine wla rfl rfl (q_move (v := v9) rfl rfl) ?_
      obtain ⟨r17, hr17, H⟩ := Option.bind_eq_some_iff.1 H
      refine wls rfl rfl (stp_call (vs := [v15, (i64 ((wI (1 + (wI ((((UInt64.ofInt a0t) % (8 : UInt64))).toNat : Int)))))), p2, v11, v9]) Try.func19 rfl rfl rfl (ar5 rfl rfl rfl rfl rfl) (shamir_Split_calls r15 (wI (1 + (wI ((((UInt64.ofInt a0t) % (8 : UInt64))).toNat : Int)))) a2secret r11 r9 v15 p2 v11 v9 r17 _ [] (Old.nil _) (i15_0.lift (Lift.sub (fun _ _ => trivial))) (hp2.lift (Lift.ext e16 _)) (i11_0.lift (Lift.sub (fun _ _ => trivial))) (i9_0.lift (Lift.sub (fun _ _ => trivial))) hr17) ?_)
      rintro _ w17 ⟨v17_0, rfl, x17, n17_0, o17_0⟩
      refine ⟨_, rfl, ?_⟩
      have i17_0 : Rw w17 [] v17_0 r17.1 := OwK.slk (SlK.stab (Sc.stab _)) _ o17_0 (fun k hk => (Old.nil _) k (n17_0 k hk)) (fun _ h => h.2)
      replace i9_0 := i9_0.lift (Lift.ext x17 _)
      replace i11_0 := i11_0.lift (Lift.ext x17 _)
      replace i13_0 := i13_0.lift (Lift.ext x17 _)
      replace i15_0 := i15_0.lift (Lift.ext x17 _)
      have e18 := e16.trans x17
      refine wla rfl rfl (q_move (v := (.tuple #[v17_0, (i64 r17.2)])) rfl rfl) ?_
      refine wla rfl rfl (q_extract rfl rfl rfl) ?_
      refine wla rfl rfl (q_extract rfl rfl rfl) ?_
      refine wla rfl rfl (q_assign (v := v17_0) rfl rfl) ?_
      refine wla rfl rfl (q_assign (v := (i64 r17.2)) rfl rfl) ?_
      refine wl_nil ?_
      refine W_th ?_
      refine W_seq ?_
      refine W_reg (by kernel_rfl) ?_
      refine wla rfl rfl (q_move (v := v15) rfl rfl) ?_
      refine wla rfl rfl (q_move (v := (i64 ((wI (1 + (wI ((((UInt64.ofInt a0t) % (8 : UInt64))).toNat : Int))))))) rfl rfl) ?_
      refine wla rfl rfl (q_move (v := v13) rfl rfl) ?_
      refine wla rfl rfl (q_move (v := v9) rfl rfl) ?_
      refine wla rfl rfl (q_move (v := p2) rfl rfl) ?_
      refine wla rfl rfl (q_len rfl T22.sl rfl (hp2.lift (Lift.ext e18 _))) ?_
      obtain ⟨r19, hr19, H⟩ := Option.bind_eq_some_iff.1 H
      refine wls rfl rfl (stp_call (vs := [v15, (i64 ((wI (1 + (wI ((((UInt64.ofInt a0t) % (8 : UInt64))).toNat : Int)))))), v13, v9, (i64 ((a2secret.length : Int)))]) Try.func25 rfl rfl rfl (ar5 rfl rfl rfl rfl rfl) (shamir_Delta_calls r15 (wI (1 + (wI ((((UInt64.ofInt a0t) % (8 : UInt64))).toNat : Int)))) r13 r9 (a2secret.length : Int) v15 v13 v9 r19 _ [] (Old.nil _) (i15_0.lift (Lift.sub (fun _ _ => trivial))) (i13_0.lift (Lift.sub (fun _ _ => trivial))) (i9_0.lift (Lift.sub (fun _ _ => trivial))) hr19) ?_)
      rintro _ w19 ⟨v19_0, rfl, x19, n19_0, o19_0⟩
      refine ⟨_, rfl, ?_⟩
      have i19_0 : Rw w19 [] v19_0 r19.1 := OwK.slk (SlK.stab (Sc.stab _)) _ o19_0 (fun k hk => (Old.nil _) k (n19_0 k hk)) (fun _ h => h.2)
      replace i9_0 := i9_0.lift (Lift.ext x19 _)
      replace i11_0 := i11_0.lift (Lift.ext x19 _)
      replace i13_0 := i13_0.lift (Lift.ext x19 _)
      replace i15_0 := i15_0.lift (Lift.ext x19 _)
      replace i17_0 := i17_0.lift (Lift.ext x19 _)
      have e20 := e18.trans x19
      refine wla rfl rfl (q_move (v := (.tuple #[v19_0, (i64 r19.2)])) rfl rfl) ?_
      refine wla rfl rfl (q_extract rfl rfl rfl) ?_
      refine wla rfl rfl (q_extract rfl rfl rfl) ?_
      refine wla rfl rfl (q_assign (v := v19_0) rfl rfl) ?_
      refine wla rfl rfl (q_assign (v := (i64 r19.2)) rfl rfl) ?_
      refine wl_nil ?_
      refine W_th ?_
      refine W_seq ?_
      refine W_reg (by kernel_rfl) ?_
      refine wla rfl rfl (q_move (v := v17_0) rfl rfl) ?_
      refine wla rfl rfl (q_move (v := v19_0) rfl rfl) ?_
      obtain ⟨r21, hr21, H⟩ := Option.bind_eq_some_iff.1 H
      refine wls rfl rfl (stp_call (vs := [v17_0, v19_0]) Try.func24 rfl rfl rfl (ar2 rfl rfl) (shamir_Add_calls r17.1 r19.1 v17_0 v19_0 r21 _ [] (Old.nil _) (i17_0.lift (Lift.sub (fun _ _ => trivial))) (i19_0.lift (Lift.sub (fun _ _ => trivial))) hr21) ?_)
      rintro _ w21 ⟨v21_0, rfl, x21, n21_0, o21_0⟩
      refine ⟨_, rfl, ?_⟩
      have i21_0 : Rw w21 [] v21_0 r21.1 := OwK.slk (SlK.stab (Sc.stab _)) _ o21_0 (fun k hk => (Old.nil _) k (n21_0 k hk)) (fun _ h => h.2)
      replace i9_0 := i9_0.lift (Lift.ext x21 _)
      replace i11_0 := i11_0.lift (Lift.ext x21 _)
      replace i13_0 := i13_0.lift (Lift.ext x21 _)
      replace i15_0 := i15_0.lift (Lift.ext x21 _)
      replace i17_0 := i17_0.lift (Lift.ext x21 _)
      replace i19_0 := i19_0.lift (Lift.ext x21 _)
      have e22 := e20.trans x21
      refine wla rfl rfl (q_move (v := (.tuple #[v21_0, (i64 r21.2)])) rfl rfl) ?_
      refine wla rfl rfl (q_extract rfl rfl rfl) ?_
      refine wla rfl rfl (q_extract rfl rfl rfl) ?_
      refine wla rfl rfl (q_assign (v := v21_0) rfl rfl) ?_
      refine wla rfl rfl (q_assign (v := (i64 r21.2)) rfl rfl) ?_
      refine wl_nil ?_
      refine W_th ?_
      refine W_seq ?_
      refine W_seq ?_
      refine W_reg (by kernel_rfl) ?_
      refine wla rfl rfl (q_move (v := (i64 r17.2)) rfl rfl) ?_
      refine wla rfl rfl (q_neI rfl rfl rfl) ?_
      refine wlb rfl rfl (q_move (v := (.bool ((!decide (r17.2 = 0))))) rfl rfl) (fun hb23 => ?_) (fun hb23 => ?_)
      · replace H := (if_neg (ndec_t hb23)).symm.trans H
        refine wlk rfl rfl ?_
        refine wlk rfl rfl ?_
        refine wla rfl rfl (q_pick_t (v := (.bool true)) rfl rfl rfl) ?_
        refine wla rfl rfl (q_move (v := (.bool true)) rfl rfl) ?_
        refine wlk rfl rfl ?_
        refine wlk rfl rfl ?_
        refine wla rfl rfl (q_pick_t (v := (.bool true)) rfl rfl rfl) ?_
        refine wl_nil ?_
        refine W_th ?_
        refine W_cond true rfl rfl (fun _ => ?_) (fun hb => by cases hb)
        refine W_seq ?_
        refine W_reg (by kernel_rfl) ?_
        refine wla rfl rfl (q_assign (v := (.bool false)) rfl rfl) ?_
        refine wl_nil ?_
        refine W_th ?_
        refine W_ret ?_
        refine th_r ?_
        obtain rfl := Option.some.inj H
        refine rt1 (.bool false) rfl rfl rfl rfl ?_
        exact ⟨rfl, e22⟩
      · replace H := (if_pos (ndec_f hb23)).symm.trans H
        refine wla rfl rfl (q_move (v := (i64 r19.2)) rfl rfl) ?_
        refine wla rfl rfl (q_neI rfl rfl rfl) ?_
        refine wla rfl rfl (q_pick_f (v := (.bool ((!decide (r19.2 = 0))))) rfl rfl rfl) ?_
        refine wlb rfl rfl (q_move (v := (.bool ((!decide (r19.2 = 0))))) rfl rfl) (fun hb24 => ?_) (fun hb24 => ?_)
        · replace H := (if_neg (ndec_t hb24)).symm.trans H
          refine wlk rfl rfl ?_
          refine wlk rfl rfl ?_
          refine wla rfl rfl (q_pick_t (v := (.bool true)) rfl rfl rfl) ?_
          refine wl_nil ?_
          refine W_th ?_
          refine W_cond true rfl rfl (fun _ => ?_) (fun hb => by cases hb)
          refine W_seq ?_
          refine W_reg (by kernel_rfl) ?_
          refine wla rfl rfl (q_assign (v := (.bool false)) rfl rfl) ?_
          refine wl_nil ?_
          refine W_th ?_
          refine W_ret ?_
          refine th_r ?_
          obtain rfl := Option.some.inj H
          refine rt1 (.bool false) rfl rfl rfl rfl ?_
          exact ⟨rfl, e22⟩
        · replace H := (if_pos (ndec_f hb24)).symm.trans H
          refine wla rfl rfl (q_move (v := (i64 r21.2)) rfl rfl) ?_
          refine wla rfl rfl (q_neI rfl rfl rfl) ?_
          refine wla rfl rfl (q_pick_f (v := (.bool ((!decide (r21.2 = 0))))) rfl rfl rfl) ?_
          refine wl_nil ?_
          refine W_th ?_
          refine W_cond _ rfl rfl (fun hb25 => ?_) (fun hb25 => ?_)
          · replace H := (if_neg (ndec_t hb25)).symm.trans H
            refine W_seq ?_
            refine W_reg (by kernel_rfl) ?_
            refine wla rfl rfl (q_assign (v := (.bool false)) rfl rfl) ?_
            refine wl_nil ?_
            refine W_th ?_
            refine W_ret ?_
            refine th_r ?_
            obtain rfl := Option.some.inj H
            refine rt1 (.bool false) rfl rfl rfl rfl ?_
            exact ⟨rfl, e22⟩
          · replace H := (if_pos (ndec_f hb25)).symm.trans H
            refine W_skip ?_
            refine W_th ?_
            refine W_seq ?_
            obtain ⟨x26, H26, H⟩ := Option.bind_eq_some_iff.1 H
            refine W_mid (fun f w => f 0 = (i64 ((wI (1 + (wI ((((UInt64.ofInt a0t) % (8 : UInt64))).toNat : Int)))))) ∧ f 2 = p2 ∧ f 3 = v11 ∧ f 6 = (u8 x26) ∧ f 15 = v9 ∧ f 16 = v15 ∧ f 17 = v17_0 ∧ f 21 = v21_0 ∧ f 212 = undef ∧ Ext w0 w ∧ By w [] v11 r11 ∧ By w [] v9 r9 ∧ Fd w [] v15 r15 ∧ Rw w [] v17_0 r17.1 ∧ Rw w [] v21_0 r21.1) ?_ ?_
            · refine W_seq ?_
              refine W_reg (by kernel_rfl) ?_
              refine wla rfl rfl (q_move (v := (u8 a6x)) rfl rfl) ?_
              refine wla rfl rfl (q_eq8 rfl rfl (cst8 (0 : UInt8) rfl)) ?_
              refine wl_nil ?_
              refine W_th ?_
              refine W_cond _ rfl rfl (fun hb27 => ?_) (fun hb27 => ?_)
              · replace H26 := (if_pos (of_decide_eq_true hb27)).symm.trans H26
                refine W_reg (by kernel_rfl) ?_
                refine wla rfl rfl (q_assign (v := (u8 1)) rfl (cst8 (1 : UInt8) rfl)) ?_
                refine wl_nil ?_
                obtain rfl := Option.some.inj H26
                exact ⟨rfl, rfl, rfl, rfl, rfl, rfl, rfl, rfl, rfl, e22, i11_0, i9_0, i15_0, i17_0, i21_0⟩
              · replace H26 := (if_neg (of_decide_eq_false hb27)).symm.trans H26
                refine W_skip ?_
                obtain rfl := Option.some.inj H26
                exact ⟨rfl, rfl, rfl, rfl, rfl, rfl, rfl, rfl, rfl, e22, i11_0, i9_0, i15_0, i17_0, i21_0⟩
            · rintro _ w28 ⟨s0_28, s2_28, s3_28, s6_28, s15_28, s16_28, s17_28, s21_28, s212_28, hE28, i0_28, i1_28, i2_28, i3_28, i4_28⟩
              refine W_th ?_
              refine W_seq ?_
              refine W_reg (by kernel_rfl) ?_
              refine wla rfl rfl (q_move (v := v15) rfl s16_28) ?_
              refine wla rfl rfl (q_move (v := (i64 ((wI (1 + (wI ((((UInt64.ofInt a0t) % (8 : UInt64))).toNat : Int))))))) rfl s0_28) ?_
              refine wla rfl rfl (q_move (v := p2) rfl s2_28) ?_
              refine wla rfl rfl (q_move (v := v11) rfl s3_28) ?_
              refine wla rfl rfl (q_move (v := (u8 x26)) rfl s6_28) ?_
              obtain ⟨r29, hr29, H⟩ := Option.bind_eq_some_iff.1 H
              refine wls rfl rfl (stp_call (vs := [v15, (i64 ((wI (1 + (wI ((((UInt64.ofInt a0t) % (8 : UInt64))).toNat : Int)))))), p2, v11, (u8 x26)]) Try.func21 rfl rfl rfl (ar5 rfl rfl rfl rfl rfl) (shamir_Share_calls r15 (wI (1 + (wI ((((UInt64.ofInt a0t) % (8 : UInt64))).toNat : Int)))) a2secret r11 x26 v15 p2 v11 r29 _ (i2_28.lift (Lift.sub (fun _ _ => trivial))) (hp2.lift (Lift.ext hE28 _)) (i0_28.lift (Lift.sub (fun _ _ => trivial))) hr29) ?_)
              rintro _ w29 ⟨v29_0, rfl, x29, n29_0, o29_0⟩
              refine ⟨_, rfl, ?_⟩
              have i29_0 : By w29 [] v29_0 r29.1 := OwK.slk (Sc.stab _) _ (OwK.scal o29_0 (v29_0 :: [])) (fun k hk => (Old.nil _) k (n29_0 k hk)) (fun _ h => h.2)
              replace i0_28 := i0_28.lift (Lift.ext x29 _)
              replace i1_28 := i1_28.lift (Lift.ext x29 _)
              replace i2_28 := i2_28.lift (Lift.ext x29 _)
              replace i3_28 := i3_28.lift (Lift.ext x29 _)
              replace i4_28 := i4_28.lift (Lift.ext x29 _)
              have e30 := hE28.trans x29
              refine wla rfl rfl (q_move (v := (.tuple #[v29_0, (i64 r29.2)])) rfl rfl) ?_
              refine wla rfl rfl (q_extract rfl rfl rfl) ?_
              refine wla rfl rfl (q_extract rfl rfl rfl) ?_
              refine wla rfl rfl (q_assign (v := v29_0) rfl rfl) ?_
              refine wla rfl rfl (q_assign (v := (i64 r29.2)) rfl rfl) ?_
              refine wl_nil ?_
              refine W_th ?_
              refine W_seq ?_
              refine W_seq ?_
              refine W_reg (by kernel_rfl) ?_
              refine wla rfl rfl (q_move (v := (i64 ((wI (1 + (wI ((((UInt64.ofInt a0t) % (8 : UInt64))).toNat : Int))))))) rfl s0_28) ?_
              refine wla rfl rfl (q_assign (v := (i64 ((wI (1 + (wI ((((UInt64.ofInt a0t) % (8 : UInt64))).toNat : Int))))))) rfl rfl) ?_
              refine wl_nil ?_
              refine W_th ?_
              obtain ⟨x31, G31, H⟩ := Option.bind_eq_some_iff.1 H
              refine W_mid (fun f w => ∃ y31, x31 = .inl y31 ∧ f 17 = v17_0 ∧ f 212 = undef ∧ Ext w0 w ∧ Rw w [] v17_0 r17.1) ?_ ?_
              · refine W_block ?_
                refine W_loop (fun s31 f w => f 2 = p2 ∧ f 6 = (u8 x26) ∧ f 15 = v9 ∧ f 16 = v15 ∧ f 17 = v17_0 ∧ f 21 = v21_0 ∧ f 23 = v29_0 ∧ f 25 = (i64 s31) ∧ f 212 = undef ∧ Ext w0 w ∧ By w [] v9 r9 ∧ Fd w [] v15 r15 ∧ Rw w [] v17_0 r17.1 ∧ Rw w [] v21_0 r21.1 ∧ By w [] v29_0 r29.1) G31 ?_ ?_
                · exact ⟨s2_28, s6_28, s15_28, s16_28, s17_28, s21_28, rfl, rfl, s212_28, e30, i1_28, i2_28, i3_28, i4_28, i29_0⟩
                · rintro s31 _ _ w32 ⟨s2_32, s6_32, s15_32, s16_32, s17_32, s21_32, s23_32, s25_32, s212_32, hE32, i0_32, i1_32, i2_32, i3_32, i4_32⟩ H31 hr31
                  refine W_seq ?_
                  refine W_seq ?_
                  refine W_reg (by kernel_rfl) ?_
                  refine wla rfl rfl (q_move (v := (i64 s31)) rfl s25_32) ?_
                  refine wla rfl rfl (q_move (v := v9) rfl s15_32) ?_
                  refine wla rfl rfl (q_len rfl T22.sl rfl i0_32) ?_
                  refine wla rfl rfl (q_leI rfl rfl rfl) ?_
                  refine wl_nil ?_
                  refine W_th ?_
                  refine W_cond _ rfl rfl (fun hb33 => ?_) (fun hb33 => ?_)
                  · replace H31 := (if_pos (of_decide_eq_true hb33)).symm.trans H31
                    refine W_skip ?_
                    refine W_th ?_
                    refine W_seq ?_
                    refine W_block ?_
                    refine W_seq ?_
                    refine W_reg (by kernel_rfl) ?_
                    refine wla rfl rfl (q_move (v := v9) rfl s15_32) ?_
                    refine wla rfl rfl (q_move (v := v9) rfl s15_32) ?_
                    refine wla rfl rfl (q_len rfl T22.sl rfl i0_32) ?_
                    refine wla rfl rfl (q_move (v := (i64 s31)) rfl s25_32) ?_
                    refine wla rfl rfl (q_subI rfl rfl rfl) ?_
                    obtain ⟨c34, hc34, H31⟩ := Option.bind_eq_some_iff.1 H31
                    refine wla rfl rfl (q_slice (a := (wI ((r9.length : Int) - s31))) (b := (r9.length : Int)) rfl T22 rfl i0_32 rfl rfl hc34) ?_
                    refine wla rfl rfl (q_assign (v := (subV v9 ((wI ((r9.length : Int) - s31)) : Int).toNat ((r9.length : Int) : Int).toNat)) rfl rfl) ?_
                    refine wl_nil ?_
                    refine W_th ?_
                    refine W_seq ?_
                    refine W_reg (by kernel_rfl) ?_
                    refine wla rfl rfl (q_move (v := v15) rfl s16_32) ?_
                    refine wla rfl rfl (q_move (v := (subV v9 ((wI ((r9.length : Int) - s31)) : Int).toNat ((r9.length : Int) : Int).toNat)) rfl rfl) ?_
                    refine wla rfl rfl (q_move (v := v17_0) rfl s17_32) ?_
                    refine wla rfl rfl (q_move (v := v9) rfl s15_32) ?_
                    refine wla rfl rfl (q_len rfl T22.sl rfl i0_32) ?_
                    refine wla rfl rfl (q_move (v := (i64 s31)) rfl s25_32) ?_
                    refine wla rfl rfl (q_subI rfl rfl rfl) ?_
                    obtain ⟨c35, hc35, H31⟩ := Option.bind_eq_some_iff.1 H31
                    refine wla rfl rfl (q_slice (a := (wI ((r9.length : Int) - s31))) (b := (r17.1.length : Int)) rfl T23 rfl i2_32 rfl rfl hc35) ?_
                    obtain ⟨r36, hr36, H31⟩ := Option.bind_eq_some_iff.1 H31
                    refine wls rfl rfl (stp_call (vs := [v15, (subV v9 ((wI ((r9.length : Int) - s31)) : Int).toNat ((r9.length : Int) : Int).toNat), (subV v17_0 ((wI ((r9.length : Int) - s31)) : Int).toNat ((r17.1.length : Int) : Int).toNat)]) Try.func16 rfl rfl rfl (ar3 rfl rfl rfl) (shamir_Join_calls r15 c34 c35 v15 (subV v9 ((wI ((r9.length : Int) - s31)) : Int).toNat ((r9.length : Int) : Int).toNat) (subV v17_0 ((wI ((r9.length : Int) - s31)) : Int).toNat ((r17.1.length : Int) : Int).toNat) r36 _ (i1_32.lift (Lift.sub (fun _ _ => trivial))) (SlK.cut (L := []) (i0_32.lift (Lift.sub (fun _ _ => trivial))) hc34) (SlK.cut (L := []) (i2_32.lift (Lift.sub (fun _ _ => trivial))) hc35) hr36) ?_)
                    rintro _ w36 ⟨v36_0, rfl, x36, n36_0, o36_0⟩
                    refine ⟨_, rfl, ?_⟩
                    have i36_0 : By w36 [] v36_0 r36.1 := OwK.slk (Sc.stab _) _ (OwK.scal o36_0 (v36_0 :: [])) (fun k hk => (Old.nil _) k (n36_0 k hk)) (fun _ h => h.2)
                    replace i0_32 := i0_32.lift (Lift.ext x36 _)
                    replace i1_32 := i1_32.lift (Lift.ext x36 _)
                    replace i2_32 := i2_32.lift (Lift.ext x36 _)
                    replace i3_32 := i3_32.lift (Lift.ext x36 _)
                    replace i4_32 := i4_32.lift (Lift.ext x36 _)
                    have e37 := hE32.trans x36
                    refine wla rfl rfl (q_move (v := (.tuple #[v36_0, (i64 r36.2)])) rfl rfl) ?_
                    refine wla rfl rfl (q_extract rfl rfl rfl) ?_
                    refine wla rfl rfl (q_extract rfl rfl rfl) ?_
                    refine wla rfl rfl (q_assign (v := v36_0) rfl rfl) ?_
                    refine wla rfl rfl (q_assign (v := (i64 r36.2)) rfl rfl) ?_
                    refine wl_nil ?_
                    refine W_th ?_
                    refine W_seq ?_
                    refine W_reg (by kernel_rfl) ?_
                    refine wla rfl rfl (q_move (v := v15) rfl s16_32) ?_
                    refine wla rfl rfl (q_move (v := (subV v9 ((wI ((r9.length : Int) - s31)) : Int).toNat ((r9.length : Int) : Int).toNat)) rfl rfl) ?_
                    refine wla rfl rfl (q_move (v := v21_0) rfl s21_32) ?_
                    refine wla rfl rfl (q_move (v := v9) rfl s15_32) ?_
                    refine wla rfl rfl (q_len rfl T22.sl rfl i0_32) ?_
                    refine wla rfl rfl (q_move (v := (i64 s31)) rfl s25_32) ?_
                    refine wla rfl rfl (q_subI rfl rfl rfl) ?_
                    obtain ⟨c38, hc38, H31⟩ := Option.bind_eq_some_iff.1 H31
                    refine wla rfl rfl (q_slice (a := (wI ((r9.length : Int) - s31))) (b := (r21.1.length : Int)) rfl T23 rfl i3_32 rfl rfl hc38) ?_
                    obtain ⟨r39, hr39, H31⟩ := Option.bind_eq_some_iff.1 H31
                    refine wls rfl rfl (stp_call (vs := [v15, (subV v9 ((wI ((r9.length : Int) - s31)) : Int).toNat ((r9.length : Int) : Int).toNat), (subV v21_0 ((wI ((r9.length : Int) - s31)) : Int).toNat ((r21.1.length : Int) : Int).toNat)]) Try.func16 rfl rfl rfl (ar3 rfl rfl rfl) (shamir_Join_calls r15 c34 c38 v15 (subV v9 ((wI ((r9.length : Int) - s31)) : Int).toNat ((r9.length : Int) : Int).toNat) (subV v21_0 ((wI ((r9.length : Int) - s31)) : Int).toNat ((r21.1.length : Int) : Int).toNat) r39 _ (i1_32.lift (Lift.sub (fun _ _ => trivial))) (SlK.cut (L := []) (i0_32.lift (Lift.sub (fun _ _ => trivial))) hc34) (SlK.cut (L := []) (i3_32.lift (Lift.sub (fun _ _ => trivial))) hc38) hr39) ?_)
                    rintro _ w39 ⟨v39_0, rfl, x39, n39_0, o39_0⟩
                    refine ⟨_, rfl, ?_⟩
                    have i39_0 : By w39 [] v39_0 r39.1 := OwK.slk (Sc.stab _) _ (OwK.scal o39_0 (v39_0 :: [])) (fun k hk => (Old.nil _) k (n39_0 k hk)) (fun _ h => h.2)
                    replace i0_32 := i0_32.lift (Lift.ext x39 _)
                    replace i1_32 := i1_32.lift (Lift.ext x39 _)
                    replace i2_32 := i2_32.lift (Lift.ext x39 _)
                    replace i3_32 := i3_32.lift (Lift.ext x39 _)
                    replace i4_32 := i4_32.lift (Lift.ext x39 _)
                    replace i36_0 := i36_0.lift (Lift.ext x39 _)
                    have e40 := e37.trans x39
                    refine wla rfl rfl (q_move (v := (.tuple #[v39_0, (i64 r39.2)])) rfl rfl) ?_
                    refine wla rfl rfl (q_extract rfl rfl rfl) ?_
                    refine wla rfl rfl (q_extract rfl rfl rfl) ?_
                    refine wla rfl rfl (q_assign (v := v39_0) rfl rfl) ?_
                    refine wla rfl rfl (q_assign (v := (i64 r39.2)) rfl rfl) ?_
                    refine wl_nil ?_
                    refine W_th ?_
                    refine W_seq ?_
                    refine W_reg (by kernel_rfl) ?_
                    refine wla rfl rfl (q_move (v := v15) rfl s16_32) ?_
                    refine wla rfl rfl (q_move (v := (subV v9 ((wI ((r9.length : Int) - s31)) : Int).toNat ((r9.length : Int) : Int).toNat)) rfl rfl) ?_
                    refine wla rfl rfl (q_move (v := v17_0) rfl s17_32) ?_
                    refine wla rfl rfl (q_move (v := v9) rfl s15_32) ?_
                    refine wla rfl rfl (q_len rfl T22.sl rfl i0_32) ?_
                    refine wla rfl rfl (q_move (v := (i64 s31)) rfl s25_32) ?_
                    refine wla rfl rfl (q_subI rfl rfl rfl) ?_
                    obtain ⟨c41, hc41, H31⟩ := Option.bind_eq_some_iff.1 H31
                    refine wla rfl rfl (q_slice (a := (wI ((r9.length : Int) - s31))) (b := (r17.1.length : Int)) rfl T23 rfl i2_32 rfl rfl hc41) ?_
                    refine wla rfl rfl (q_move (v := (u8 x26)) rfl s6_32) ?_
                    obtain ⟨r42, hr42, H31⟩ := Option.bind_eq_some_iff.1 H31
                    refine wls rfl rfl (stp_call (vs := [v15, (subV v9 ((wI ((r9.length : Int) - s31)) : Int).toNat ((r9.length : Int) : Int).toNat), (subV v17_0 ((wI ((r9.length : Int) - s31)) : Int).toNat ((r17.1.length : Int) : Int).toNat), (u8 x26)]) Try.func15 rfl rfl rfl (ar4 rfl rfl rfl rfl) (shamir_At_calls r15 c34 c41 x26 v15 (subV v9 ((wI ((r9.length : Int) - s31)) : Int).toNat ((r9.length : Int) : Int).toNat) (subV v17_0 ((wI ((r9.length : Int) - s31)) : Int).toNat ((r17.1.length : Int) : Int).toNat) r42 _ (i1_32.lift (Lift.sub (fun _ _ => trivial))) (SlK.cut (L := []) (i0_32.lift (Lift.sub (fun _ _ => trivial))) hc34) (SlK.cut (L := []) (i2_32.lift (Lift.sub (fun _ _ => trivial))) hc41) hr42) ?_)
                    rintro _ w42 ⟨v42_0, rfl, x42, n42_0, o42_0⟩
                    refine ⟨_, rfl, ?_⟩
                    have i42_0 : By w42 [] v42_0 r42.1 := OwK.slk (Sc.stab _) _ (OwK.scal o42_0 (v42_0 :: [])) (fun k hk => (Old.nil _) k (n42_0 k hk)) (fun _ h => h.2)
                    replace i0_32 := i0_32.lift (Lift.ext x42 _)
                    replace i1_32 := i1_32.lift (Lift.ext x42 _)
                    replace i2_32 := i2_32.lift (Lift.ext x42 _)
                    replace i3_32 := i3_32.lift (Lift.ext x42 _)
                    replace i4_32 := i4_32.lift (Lift.ext x42 _)
                    replace i36_0 := i36_0.lift (Lift.ext x42 _)
                    replace i39_0 := i39_0.lift (Lift.ext x42 _)
                    have e43 := e40.trans x42
                    refine wla rfl rfl (q_move (v := (.tuple #[v42_0, (i64 r42.2)])) rfl rfl) ?_
                    refine wla rfl rfl (q_extract rfl rfl rfl) ?_
                    refine wla rfl rfl (q_extract rfl rfl rfl) ?_
                    refine wla rfl rfl (q_assign (v := v42_0) rfl rfl) ?_
                    refine wla rfl rfl (q_assign (v := (i64 r42.2)) rfl rfl) ?_
                    refine wl_nil ?_
                    refine W_th ?_
                    refine W_seq ?_
                    refine W_reg (by kernel_rfl) ?_
                    refine wla rfl rfl (q_move (v := (i64 r36.2)) rfl rfl) ?_
                    refine wla rfl rfl (q_neI rfl rfl rfl) ?_
                    refine wlb rfl rfl (q_move (v := (.bool ((!decide (r36.2 = 0))))) rfl rfl) (fun hb44 => ?_) (fun hb44 => ?_)
                    · replace H31 := (if_neg (ndec_t hb44)).symm.trans H31
                      refine wlk rfl rfl ?_
                      refine wlk rfl rfl ?_
                      refine wla rfl rfl (q_pick_t (v := (.bool true)) rfl rfl rfl) ?_
                      refine wla rfl rfl (q_move (v := (.bool true)) rfl rfl) ?_
                      refine wlk rfl rfl ?_
                      refine wlk rfl rfl ?_
                      refine wla rfl rfl (q_pick_t (v := (.bool true)) rfl rfl rfl) ?_
                      refine wla rfl rfl (q_move (v := (.bool true)) rfl rfl) ?_
                      refine wlk rfl rfl ?_
                      refine wlk rfl rfl ?_
                      refine wlk rfl rfl ?_
                      refine wlk rfl rfl ?_
                      refine wlk rfl rfl ?_
                      refine wla rfl rfl (q_pick_t (v := (.bool true)) rfl rfl rfl) ?_
                      refine wla rfl rfl (q_move (v := (.bool true)) rfl rfl) ?_
                      refine wlk rfl rfl ?_
                      refine wlk rfl rfl ?_
                      refine wlk rfl rfl ?_
                      refine wlk rfl rfl ?_
                      refine wlk rfl rfl ?_
                      refine wla rfl rfl (q_pick_t (v := (.bool true)) rfl rfl rfl) ?_
                      refine wla rfl rfl (q_move (v := (.bool true)) rfl rfl) ?_
                      refine wlk rfl rfl ?_
                      refine wlk rfl rfl ?_
                      refine wlk rfl rfl ?_
                      refine wlk rfl rfl ?_
                      refine wlk rfl rfl ?_
                      refine wla rfl rfl (q_pick_t (v := (.bool true)) rfl rfl rfl) ?_
                      refine wl_nil ?_
                      refine W_th ?_
                      refine W_cond true rfl rfl (fun _ => ?_) (fun hb => by cases hb)
                      refine W_seq ?_
                      refine W_reg (by kernel_rfl) ?_
                      refine wla rfl rfl (q_assign (v := (.bool false)) rfl rfl) ?_
                      refine wl_nil ?_
                      refine W_th ?_
                      refine W_ret ?_
                      refine bk_r ?_
                      refine th_r ?_
                      obtain rfl := Option.some.inj H31
                      obtain rfl := hr31 _ rfl
                      simp only [Sum.elim_inr] at H
                      refine th_r ?_
                      refine bk_r ?_
                      refine th_r ?_
                      refine th_r ?_
                      obtain rfl := Option.some.inj H
                      refine rt1 (.bool false) rfl rfl rfl s212_32 ?_
                      exact ⟨rfl, e43⟩
                    · replace H31 := (if_pos (ndec_f hb44)).symm.trans H31
                      refine wla rfl rfl (q_move (v := (i64 r39.2)) rfl rfl) ?_
                      refine wla rfl rfl (q_neI rfl rfl rfl) ?_
                      refine wla rfl rfl (q_pick_f (v := (.bool ((!decide (r39.2 = 0))))) rfl rfl rfl) ?_
                      refine wlb rfl rfl (q_move (v := (.bool ((!decide (r39.2 = 0))))) rfl rfl) (fun hb45 => ?_) (fun hb45 => ?_)
                      · replace H31 := (if_neg (ndec_t hb45)).symm.trans H31
                        refine wlk rfl rfl ?_
                        refine wlk rfl rfl ?_
                        refine wla rfl rfl (q_pick_t (v := (.bool true)) rfl rfl rfl) ?_
                        refine wla rfl rfl (q_move (v := (.bool true)) rfl rfl) ?_
                        refine wlk rfl rfl ?_
                        refine wlk rfl rfl ?_
                        refine wlk rfl rfl ?_
                        refine wlk rfl rfl ?_
                        refine wlk rfl rfl ?_
                        refine wla rfl rfl (q_pick_t (v := (.bool true)) rfl rfl rfl) ?_
                        refine wla rfl rfl (q_move (v := (.bool true)) rfl rfl) ?_
                        refine wlk rfl rfl ?_
                        refine wlk rfl rfl ?_
                        refine wlk rfl rfl ?_
                        refine wlk rfl rfl ?_
                        refine wlk rfl rfl ?_
                        refine wla rfl rfl (q_pick_t (v := (.bool true)) rfl rfl rfl) ?_
                        refine wla rfl rfl (q_move (v := (.bool true)) rfl rfl) ?_
                        refine wlk rfl rfl ?_
                        refine wlk rfl rfl ?_
                        refine wlk rfl rfl ?_
                        refine wlk rfl rfl ?_
                        refine wlk rfl rfl ?_
                        refine wla rfl rfl (q_pick_t (v := (.bool true)) rfl rfl rfl) ?_
                        refine wl_nil ?_
                        refine W_th ?_
                        refine W_cond true rfl rfl (fun _ => ?_) (fun hb => by cases hb)
                        refine W_seq ?_
                        refine W_reg (by kernel_rfl) ?_
                        refine wla rfl rfl (q_assign (v := (.bool false)) rfl rfl) ?_
                        refine wl_nil ?_
                        refine W_th ?_
                        refine W_ret ?_
                        refine bk_r ?_
                        refine th_r ?_
                        obtain rfl := Option.some.inj H31
                        obtain rfl := hr31 _ rfl
                        simp only [Sum.elim_inr] at H
                        refine th_r ?_
                        refine bk_r ?_
                        refine th_r ?_
                        refine th_r ?_
                        obtain rfl := Option.some.inj H
                        refine rt1 (.bool false) rfl rfl rfl s212_32 ?_
                        exact ⟨rfl, e43⟩
                      · replace H31 := (if_pos (ndec_f hb45)).symm.trans H31
                        refine wla rfl rfl (q_move (v := (i64 r42.2)) rfl rfl) ?_
                        refine wla rfl rfl (q_neI rfl rfl rfl) ?_
                        refine wla rfl rfl (q_pick_f (v := (.bool ((!decide (r42.2 = 0))))) rfl rfl rfl) ?_
                        refine wlb rfl rfl (q_move (v := (.bool ((!decide (r42.2 = 0))))) rfl rfl) (fun hb46 => ?_) (fun hb46 => ?_)
                        · replace H31 := (if_neg (ndec_t hb46)).symm.trans H31
                          refine wlk rfl rfl ?_
                          refine wlk rfl rfl ?_
                          refine wlk rfl rfl ?_
                          refine wlk rfl rfl ?_
                          refine wlk rfl rfl ?_
                          refine wla rfl rfl (q_pick_t (v := (.bool true)) rfl rfl rfl) ?_
                          refine wla rfl rfl (q_move (v := (.bool true)) rfl rfl) ?_
                          refine wlk rfl rfl ?_
                          refine wlk rfl rfl ?_
                          refine wlk rfl rfl ?_
                          refine wlk rfl rfl ?_
                          refine wlk rfl rfl ?_
                          refine wla rfl rfl (q_pick_t (v := (.bool true)) rfl rfl rfl) ?_
                          refine wla rfl rfl (q_move (v := (.bool true)) rfl rfl) ?_
                          refine wlk rfl rfl ?_
                          refine wlk rfl rfl ?_
                          refine wlk rfl rfl ?_
                          refine wlk rfl rfl ?_
                          refine wlk rfl rfl ?_
                          refine wla rfl rfl (q_pick_t (v := (.bool true)) rfl rfl rfl) ?_
                          refine wl_nil ?_
                          refine W_th ?_
                          refine W_cond true rfl rfl (fun _ => ?_) (fun hb => by cases hb)
                          refine W_seq ?_
                          refine W_reg (by kernel_rfl) ?_
                          refine wla rfl rfl (q_assign (v := (.bool false)) rfl rfl) ?_
                          refine wl_nil ?_
                          refine W_th ?_
                          refine W_ret ?_
                          refine bk_r ?_
                          refine th_r ?_
                          obtain rfl := Option.some.inj H31
                          obtain rfl := hr31 _ rfl
                          simp only [Sum.elim_inr] at H
                          refine th_r ?_
                          refine bk_r ?_
                          refine th_r ?_
                          refine th_r ?_
                          obtain rfl := Option.some.inj H
                          refine rt1 (.bool false) rfl rfl rfl s212_32 ?_
                          exact ⟨rfl, e43⟩
                        · replace H31 := (if_pos (ndec_f hb46)).symm.trans H31
                          refine wla rfl rfl (q_move (v := v36_0) rfl rfl) ?_
                          refine wlq rfl rfl (q_str rfl T22 rfl rfl rfl i36_0) ?_
                          refine wla rfl rfl (q_move (v := p2) rfl s2_32) ?_
                          refine wlq rfl rfl (q_str rfl T22 rfl rfl rfl (hp2.lift (Lift.ext e43 _))) ?_
                          refine wla rfl rfl (q_neS rfl rfl rfl) ?_
                          refine wla rfl rfl (q_pick_f (v := (.bool ((!decide (r36.1 = a2secret))))) rfl rfl rfl) ?_
                          refine wlb rfl rfl (q_move (v := (.bool ((!decide (r36.1 = a2secret))))) rfl rfl) (fun hb47 => ?_) (fun hb47 => ?_)
                          · replace H31 := (if_neg (ndec_t hb47)).symm.trans H31
                            refine wlk rfl rfl ?_
                            refine wlk rfl rfl ?_
                            refine wlk rfl rfl ?_
                            refine wlk rfl rfl ?_
                            refine wlk rfl rfl ?_
                            refine wla rfl rfl (q_pick_t (v := (.bool true)) rfl rfl rfl) ?_
                            refine wla rfl rfl (q_move (v := (.bool true)) rfl rfl) ?_
                            refine wlk rfl rfl ?_
                            refine wlk rfl rfl ?_
                            refine wlk rfl rfl ?_
                            refine wlk rfl rfl ?_
                            refine wlk rfl rfl ?_
                            refine wla rfl rfl (q_pick_t (v := (.bool true)) rfl rfl rfl) ?_
                            refine wl_nil ?_
                            refine W_th ?_
                            refine W_cond true rfl rfl (fun _ => ?_) (fun hb => by cases hb)
                            refine W_seq ?_
                            refine W_reg (by kernel_rfl) ?_
                            refine wla rfl rfl (q_assign (v := (.bool false)) rfl rfl) ?_
                            refine wl_nil ?_
                            refine W_th ?_
                            refine W_ret ?_
                            refine bk_r ?_
                            refine th_r ?_
                            obtain rfl := Option.some.inj H31
                            obtain rfl := hr31 _ rfl
                            simp only [Sum.elim_inr] at H
                            refine th_r ?_
                            refine bk_r ?_
                            refine th_r ?_
                            refine th_r ?_
                            obtain rfl := Option.some.inj H
                            refine rt1 (.bool false) rfl rfl rfl s212_32 ?_
                            exact ⟨rfl, e43⟩
                          · replace H31 := (if_pos (ndec_f hb47)).symm.trans H31
                            refine wla rfl rfl (q_move (v := v39_0) rfl rfl) ?_
                            refine wlq rfl rfl (q_str rfl T22 rfl rfl rfl i39_0) ?_
                            refine wla rfl rfl (q_move (v := p2) rfl s2_32) ?_
                            refine wlq rfl rfl (q_str rfl T22 rfl rfl rfl (hp2.lift (Lift.ext e43 _))) ?_
                            refine wla rfl rfl (q_neS rfl rfl rfl) ?_
                            refine wla rfl rfl (q_pick_f (v := (.bool ((!decide (r39.1 = a2secret))))) rfl rfl rfl) ?_
                            refine wlb rfl rfl (q_move (v := (.bool ((!decide (r39.1 = a2secret))))) rfl rfl) (fun hb48 => ?_) (fun hb48 => ?_)
                            · replace H31 := (if_neg (ndec_t hb48)).symm.trans H31
                              refine wlk rfl rfl ?_
                              refine wlk rfl rfl ?_
                              refine wlk rfl rfl ?_
                              refine wlk rfl rfl ?_
                              refine wlk rfl rfl ?_
                              refine wla rfl rfl (q_pick_t (v := (.bool true)) rfl rfl rfl) ?_
                              refine wl_nil ?_
                              refine W_th ?_
                              refine W_cond true rfl rfl (fun _ => ?_) (fun hb => by cases hb)
                              refine W_seq ?_
                              refine W_reg (by kernel_rfl) ?_
                              refine wla rfl rfl (q_assign (v := (.bool false)) rfl rfl) ?_
                              refine wl_nil ?_
                              refine W_th ?_
                              refine W_ret ?_
                              refine bk_r ?_
                              refine th_r ?_
                              obtain rfl := Option.some.inj H31
                              obtain rfl := hr31 _ rfl
                              simp only [Sum.elim_inr] at H
                              refine th_r ?_
                              refine bk_r ?_
                              refine th_r ?_
                              refine th_r ?_
                              obtain rfl := Option.some.inj H
                              refine rt1 (.bool false) rfl rfl rfl s212_32 ?_
                              exact ⟨rfl, e43⟩
                            · replace H31 := (if_pos (ndec_f hb48)).symm.trans H31
                              refine wla rfl rfl (q_move (v := v42_0) rfl rfl) ?_
                              refine wlq rfl rfl (q_str rfl T22 rfl rfl rfl i42_0) ?_
                              refine wla rfl rfl (q_move (v := v29_0) rfl s23_32) ?_
                              refine wlq rfl rfl (q_str rfl T22 rfl rfl rfl i4_32) ?_
                              refine wla rfl rfl (q_neS rfl rfl rfl) ?_
                              refine wla rfl rfl (q_pick_f (v := (.bool ((!decide (r42.1 = r29.1))))) rfl rfl rfl) ?_
                              refine wl_nil ?_
                              refine W_th ?_
                              refine W_cond _ rfl rfl (fun hb49 => ?_) (fun hb49 => ?_)
                              · replace H31 := (if_neg (ndec_t hb49)).symm.trans H31
                                refine W_seq ?_
                                refine W_reg (by kernel_rfl) ?_
                                refine wla rfl rfl (q_assign (v := (.bool false)) rfl rfl) ?_
                                refine wl_nil ?_
                                refine W_th ?_
                                refine W_ret ?_
                                refine bk_r ?_
                                refine th_r ?_
                                obtain rfl := Option.some.inj H31
                                obtain rfl := hr31 _ rfl
                                simp only [Sum.elim_inr] at H
                                refine th_r ?_
                                refine bk_r ?_
                                refine th_r ?_
                                refine th_r ?_
                                obtain rfl := Option.some.inj H
                                refine rt1 (.bool false) rfl rfl rfl s212_32 ?_
                                exact ⟨rfl, e43⟩
                              · replace H31 := (if_pos (ndec_f hb49)).symm.trans H31
                                refine W_skip ?_
                                refine bk_n ?_
                                refine W_th ?_
                                refine W_reg (by kernel_rfl) ?_
                                refine wla rfl rfl (q_move (v := (i64 s31)) rfl s25_32) ?_
                                refine wla rfl rfl (q_addI rfl rfl rfl) ?_
                                refine wla rfl rfl (q_assign (v := (i64 ((wI (s31 + 1))))) rfl rfl) ?_
                                refine wl_nil ?_
                                obtain rfl := Option.some.inj H31
                                exact ⟨_, rfl, s2_32, s6_32, s15_32, s16_32, s17_32, s21_32, s23_32, rfl, s212_32, e43, i0_32, i1_32, i2_32, i3_32, i4_32⟩
                  · replace H31 := (if_neg (of_decide_eq_false hb33)).symm.trans H31
                    refine W_exit ?_
                    refine th_x ?_
                    obtain rfl := Option.some.inj H31
                    obtain rfl := hr31 _ rfl
                    refine th_x ?_
                    refine bk_x ?_
                    exact ⟨_, rfl, s17_32, s212_32, hE32, i2_32⟩
              · rintro _ w51 ⟨y31, rfl, s17_51, s212_51, hE51, i0_51⟩
                simp only [Sum.elim_inl] at H
                refine W_th ?_
                refine W_seq ?_
                refine W_reg (by kernel_rfl) ?_
                refine wla rfl rfl (q_move (v := v17_0) rfl s17_51) ?_
                refine wla rfl rfl (q_move (v := v17_0) rfl s17_51) ?_
                obtain ⟨c52, hc52, H⟩ := Option.bind_eq_some_iff.1 H
                refine wla rfl rfl (q_slice (a := 1) (b := (r17.1.length : Int)) rfl T23 rfl i0_51 rfl rfl hc52) ?_
                obtain ⟨r53, hr53, H⟩ := Option.bind_eq_some_iff.1 H
                refine wls rfl rfl (stp_call (vs := [v17_0, (subV v17_0 (1 : Int).toNat ((r17.1.length : Int) : Int).toNat)]) Try.func24 rfl rfl rfl (ar2 rfl rfl) (shamir_Add_calls r17.1 c52 v17_0 (subV v17_0 (1 : Int).toNat ((r17.1.length : Int) : Int).toNat) r53 _ [] (Old.nil _) (i0_51.lift (Lift.sub (fun _ _ => trivial))) (SlK.cut (L := []) (i0_51.lift (Lift.sub (fun _ _ => trivial))) hc52) hr53) ?_)
                rintro _ w53 ⟨v53_0, rfl, x53, n53_0, o53_0⟩
                refine ⟨_, rfl, ?_⟩
                have i53_0 : Rw w53 [] v53_0 r53.1 := OwK.slk (SlK.stab (Sc.stab _)) _ o53_0 (fun k hk => (Old.nil _) k (n53_0 k hk)) (fun _ h => h.2)
                replace i0_51 := i0_51.lift (Lift.ext x53 _)
                have e54 := hE51.trans x53
                refine wla rfl rfl (q_move (v := (.tuple #[v53_0, (i64 r53.2)])) rfl rfl) ?_
                refine wla rfl rfl (q_extract rfl rfl rfl) ?_
                refine wla rfl rfl (q_extract rfl rfl rfl) ?_
                refine wla rfl rfl (q_assign (v := v53_0) rfl rfl) ?_
                refine wla rfl rfl (q_assign (v := (i64 r53.2)) rfl rfl) ?_
                refine wl_nil ?_
                refine W_th ?_
                refine W_seq ?_
                refine W_reg (by kernel_rfl) ?_
                refine wla rfl rfl (q_move (v := (i64 r53.2)) rfl rfl) ?_
                refine wla rfl rfl (q_eqI rfl rfl rfl) ?_
                refine wlb rfl rfl (q_move (v := (.bool ((decide (r53.2 = 1))))) rfl rfl) (fun hb55 => ?_) (fun hb55 => ?_)
                · replace H := (if_pos (of_decide_eq_true hb55)).symm.trans H
                  refine wlk rfl rfl ?_
                  refine wlk rfl rfl ?_
                  refine wlk rfl rfl ?_
                  refine wla rfl rfl (q_pick_t (v := (.bool true)) rfl rfl rfl) ?_
                  refine wla rfl rfl (q_assign (v := (.bool true)) rfl rfl) ?_
                  refine wl_nil ?_
                  refine W_th ?_
                  refine W_ret ?_
                  obtain rfl := Option.some.inj H
                  refine rt1 (.bool true) rfl rfl rfl s212_51 ?_
                  exact ⟨rfl, e54⟩
                · replace H := (if_neg (of_decide_eq_false hb55)).symm.trans H
                  refine wla rfl rfl (q_move (v := v17_0) rfl s17_51) ?_
                  refine wla rfl rfl (q_len rfl T23.sl rfl i0_51) ?_
                  refine wla rfl rfl (q_eqI rfl rfl rfl) ?_
                  refine wla rfl rfl (q_pick_f (v := (.bool ((decide ((r17.1.length : Int) = 0))))) rfl rfl rfl) ?_
                  refine wla rfl rfl (q_assign (v := (.bool ((decide ((r17.1.length : Int) = 0))))) rfl rfl) ?_
                  refine wl_nil ?_
                  refine W_th ?_
                  refine W_ret ?_
                  obtain rfl := Option.some.inj H
                  refine rt1 (.bool ((decide ((r17.1.length : Int) = 0)))) rfl rfl rfl s212_51 ?_
                  exact ⟨rfl, e54⟩

end Gk

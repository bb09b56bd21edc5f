/- Printed by gen.py: for each Go function a pure function, and that the Go code comes to it. No condition beside the equation that says what the pure function gives. -/
import Derived.Test.YtabcmfkmddlaaaaL8a
set_option linter.unusedVariables false
set_option linter.unusedSimpArgs false
namespace Gk
open Go Go.Proofs

/-! largesse/largesselaw08.ShamirAdds -/
noncomputable def law08_ShamirAdds (a0t : Int) (a1secret : List UInt8) (a2other : List UInt8) (a3mask : List UInt8) (a4delta : List UInt8) (a5xs : List UInt8) : Option Bool :=
((law08_lives ).bind fun r1 =>
(if (!r1) = true then
((law08_lives ).bind fun r4 => some r4)
else
(if 20 < (a1secret.length : Int) then
((law08_lives ).bind fun r7 => some r7)
else
((law08_Made a2other (a1secret.length : Int)).bind fun r9 =>
((law08_Made a3mask (wI ((wI ((wI (1 + (wI ((((UInt64.ofInt a0t) % (8 : UInt64))).toNat : Int)))) - 1)) * (a1secret.length : Int)))).bind fun r12 =>
((law08_Made a4delta (wI ((wI ((wI (1 + (wI ((((UInt64.ofInt a0t) % (8 : UInt64))).toNat : Int)))) - 1)) * (a1secret.length : Int)))).bind fun r14 =>
((law08_Unlike a5xs (wI ((wI (1 + (wI ((((UInt64.ofInt a0t) % (8 : UInt64))).toNat : Int)))) + 2))).bind fun r18 =>
((field_New ).bind fun r20 =>
((shamir_Split r20 (wI (1 + (wI ((((UInt64.ofInt a0t) % (8 : UInt64))).toNat : Int)))) a1secret r12 r18).bind fun r22 =>
((shamir_Split r20 (wI (1 + (wI ((((UInt64.ofInt a0t) % (8 : UInt64))).toNat : Int)))) r9 r14 r18).bind fun r24 =>
((shamir_Add r22.1 r24.1).bind fun r26 =>
((iterC (fun s28 : List UInt8 × Int =>
(if s28.2 < (r9.length : Int) then
((idx s28.1 s28.2).bind fun c33 =>
((idx a1secret s28.2).bind fun c34 => some (.inl ((s28.1.set (s28.2 : Int).toNat ((c33 ^^^ c34))), (wI (s28.2 + 1))))))
else some (.inr s28.1))) (r9, 0)).bind fun x28 =>
((iterC (fun s39 : List UInt8 × Int =>
(if s39.2 < (r14.length : Int) then
((idx s39.1 s39.2).bind fun c44 =>
((idx r12 s39.2).bind fun c45 => some (.inl ((s39.1.set (s39.2 : Int).toNat ((c44 ^^^ c45))), (wI (s39.2 + 1))))))
else some (.inr s39.1))) (r14, 0)).bind fun x39 =>
((shamir_Split r20 (wI (1 + (wI ((((UInt64.ofInt a0t) % (8 : UInt64))).toNat : Int)))) x28 x39 r18).bind fun r50 =>
(if r22.2 = 0 then
(if r24.2 = 0 then
(if r26.2 = 0 then
(if r50.2 = 0 then
(if (r26.1.length : Int) = (r50.1.length : Int) then
((iterC (fun s57 : Int =>
(if s57 < (r50.1.length : Int) then
((idx r50.1 s57).bind fun c62 =>
((idx r26.1 s57).bind fun c64 =>
(if c62 = c64 then some (.inl (wI (s57 + 1)))
else some (.inr (.inr false)))))
else some (.inr (.inl ())))) 0).bind (Sum.elim (fun y57 => some true) (fun q57 => some q57)))
else some false)
else some false)
else some false)
else some false)
else some false)))))))))))))))
set_option maxRecDepth 100000 in
set_option maxHeartbeats 8000000 in
theorem law08_ShamirAdds_calls (a0t : Int) (a1secret : List UInt8) (a2other : List UInt8) (a3mask : List UInt8) (a4delta : List UInt8) (a5xs : List UInt8) (p1 : Value) (p2 : Value) (p3 : Value) (p4 : Value) (p5 : Value) (r : Bool) (w0 : World) (hp1 : By w0 [] p1 a1secret) (hp2 : By w0 [] p2 a2other) (hp3 : By w0 [] p3 a3mask) (hp4 : By w0 [] p4 a4delta) (hp5 : By w0 [] p5 a5xs) (H : law08_ShamirAdds a0t a1secret a2other a3mask a4delta a5xs = some r) :
    Calls Try.prog 5 [(i64 a0t), p1, p2, p3, p4, p5].toArray w0 (fun e w' => e = .returned (.bool r) ∧ Ext w0 w') := by
  have hE : Ext w0 w0 := Ext.refl w0
  unfold law08_ShamirAdds at H
  refine calls_W (n := 165) Try.func5 rfl rfl rfl ?_
  refine W_seq ?_
  refine W_reg (by kernel_rfl) ?_
  refine wla rfl rfl (q_assign (v := (.bool false)) rfl rfl) ?_
  refine wl_nil ?_
  refine W_th ?_
  refine W_seq ?_
  refine W_seq ?_
  refine W_reg (by kernel_rfl) ?_
  obtain ⟨r1, hr1, H⟩ := Option.bind_eq_some_iff.1 H
  refine wls rfl rfl (stp_call (vs := []) Try.func12 rfl rfl rfl (ar0 ) (law08_lives_calls   r1 _  hr1) ?_)
  rintro _ w1 ⟨rfl, x1⟩
  refine ⟨_, rfl, ?_⟩
  have e2 := hE.trans x1
  refine wla rfl rfl (q_not rfl rfl) ?_
  refine wlb rfl rfl (q_move (v := (.bool ((!r1)))) rfl rfl) (fun hb3 => ?_) (fun hb3 => ?_)
  · replace H := (if_pos hb3).symm.trans H
    refine wlk rfl rfl ?_
    refine wlk rfl rfl ?_
    refine wlk rfl rfl ?_
    refine wla rfl rfl (q_pick_t (v := (.bool true)) rfl rfl rfl) ?_
    refine wl_nil ?_
    refine W_th ?_
    refine W_cond true rfl rfl (fun _ => ?_) (fun hb => by cases hb)
    refine W_seq ?_
    refine W_reg (by kernel_rfl) ?_
    obtain ⟨r4, hr4, H⟩ := Option.bind_eq_some_iff.1 H
    refine wls rfl rfl (stp_call (vs := []) Try.func12 rfl rfl rfl (ar0 ) (law08_lives_calls   r4 _  hr4) ?_)
    rintro _ w4 ⟨rfl, x4⟩
    refine ⟨_, rfl, ?_⟩
    have e5 := e2.trans x4
    refine wla rfl rfl (q_assign (v := (.bool r4)) rfl rfl) ?_
    refine wl_nil ?_
    refine W_th ?_
    refine W_ret ?_
    refine th_r ?_
    obtain rfl := Option.some.inj H
    refine rt1 (.bool r4) rfl rfl rfl rfl ?_
    exact ⟨rfl, e5⟩
  · replace H := (if_neg (ne_true_of_eq_false hb3)).symm.trans H
    refine wla rfl rfl (q_move (v := p1) rfl rfl) ?_
    refine wla rfl rfl (q_len rfl T22.sl rfl (hp1.lift (Lift.ext e2 _))) ?_
    refine wla rfl rfl (q_gtI rfl rfl rfl) ?_
    refine wla rfl rfl (q_pick_f (v := (.bool ((decide (20 < (a1secret.length : Int)))))) rfl rfl rfl) ?_
    refine wl_nil ?_
    refine W_th ?_
    refine W_cond _ rfl rfl (fun hb6 => ?_) (fun hb6 => ?_)
    · replace H := (if_pos (of_decide_eq_true hb6)).symm.trans H
      refine W_seq ?_
      refine W_reg (by kernel_rfl) ?_
      obtain ⟨r7, hr7, H⟩ := Option.bind_eq_some_iff.1 H
      refine wls rfl rfl (stp_call (vs := []) Try.func12 rfl rfl rfl (ar0 ) (law08_lives_calls   r7 _  hr7) ?_)
      rintro _ w7 ⟨rfl, x7⟩
      refine ⟨_, rfl, ?_⟩
      have e8 := e2.trans x7
      refine wla rfl rfl (q_assign (v := (.bool r7)) rfl rfl) ?_
      refine wl_nil ?_
      refine W_th ?_
      refine W_ret ?_
      refine th_r ?_
      obtain rfl := Option.some.inj H
      refine rt1 (.bool r7) rfl rfl rfl rfl ?_
      exact ⟨rfl, e8⟩
    · replace H := (if_neg (of_decide_eq_false hb6)).symm.trans H
      refine W_skip ?_
      refine W_th ?_
      refine W_seq ?_
      refine W_reg (by kernel_rfl) ?_
      refine wla rfl rfl (q_move (v := (i64 a0t)) rfl rfl) ?_
      refine wla rfl rfl (q_cvt64I rfl rfl rfl rfl) ?_
      refine wla rfl rfl (q_rem64 rfl rfl (cst64 (8 : UInt64) rfl) (by decide)) ?_
      refine wla rfl rfl (q_cvtI64 rfl rfl rfl rfl) ?_
      refine wla rfl rfl (q_addI rfl rfl rfl) ?_
      refine wla rfl rfl (q_assign (v := (i64 ((wI (1 + (wI ((((UInt64.ofInt a0t) % (8 : UInt64))).toNat : Int))))))) rfl rfl) ?_
      refine wl_nil ?_
      refine W_th ?_
      refine W_seq ?_
      refine W_reg (by kernel_rfl) ?_
      refine wla rfl rfl (q_move (v := p1) rfl rfl) ?_
      refine wla rfl rfl (q_len rfl T22.sl rfl (hp1.lift (Lift.ext e2 _))) ?_
      refine wla rfl rfl (q_assign (v := (i64 ((a1secret.length : Int)))) rfl rfl) ?_
      refine wl_nil ?_
      refine W_th ?_
      refine W_seq ?_
      refine W_reg (by kernel_rfl) ?_
      refine wla rfl rfl (q_move (v := p2) rfl rfl) ?_
      refine wla rfl rfl (q_move (v := (i64 ((a1secret.length : Int)))) rfl rfl) ?_
      obtain ⟨r9, hr9, H⟩ := Option.bind_eq_some_iff.1 H
      refine wls rfl rfl (stp_call (vs := [p2, (i64 ((a1secret.length : Int)))]) Try.func18 rfl rfl rfl (ar2 rfl rfl) (law08_Made_calls a2other (a1secret.length : Int) p2 r9 _ (hp2.lift (Lift.ext e2 _)) hr9) ?_)
      rintro _ w9 ⟨v9, rfl, x9, n9_0, o9_0⟩
      refine ⟨_, rfl, ?_⟩
      have o9 : OwK (Sc u8) w9 (v9 :: []) 5 v9 r9 := OwK.scal o9_0 _
      have n11 := Nw.ext e2 n9_0
      have e10 := e2.trans x9
      refine wla rfl rfl (q_move (v := p3) rfl rfl) ?_
      refine wla rfl rfl (q_move (v := (i64 ((wI (1 + (wI ((((UInt64.ofInt a0t) % (8 : UInt64))).toNat : Int))))))) rfl rfl) ?_
      refine wla rfl rfl (q_subI rfl rfl rfl) ?_
      refine wla rfl rfl (q_move (v := (i64 ((a1secret.length : Int)))) rfl rfl) ?_
      refine wla rfl rfl (q_mulI rfl rfl rfl) ?_
      obtain ⟨r12, hr12, H⟩ := Option.bind_eq_some_iff.1 H
      refine wls rfl rfl (stp_call (vs := [p3, (i64 ((wI ((wI ((wI (1 + (wI ((((UInt64.ofInt a0t) % (8 : UInt64))).toNat : Int)))) - 1)) * (a1secret.length : Int)))))]) Try.func18 rfl rfl rfl (ar2 rfl rfl) (law08_Made_calls a3mask (wI ((wI ((wI (1 + (wI ((((UInt64.ofInt a0t) % (8 : UInt64))).toNat : Int)))) - 1)) * (a1secret.length : Int))) p3 r12 _ (hp3.lift (Lift.ext e10 _)) hr12) ?_)
      rintro _ w12 ⟨v12, rfl, x12, n12_0, o12_0⟩
      refine ⟨_, rfl, ?_⟩
      have i12_0 : By w12 [v9] v12 r12 := OwK.slk (Sc.stab _) _ (OwK.scal o12_0 (v12 :: [v9])) (fun k hk => (Old.cons (Old.nil _) o9.lt) k (n12_0 k hk)) (fun _ h => h.2)
      replace o9 := o9.extL (Sc.stab _) x12 (Lift.ext x12 _)
      have e13 := e10.trans x12
      refine wla rfl rfl (q_move (v := p4) rfl rfl) ?_
      refine wla rfl rfl (q_move (v := (i64 ((wI (1 + (wI ((((UInt64.ofInt a0t) % (8 : UInt64))).toNat : Int))))))) rfl rfl) ?_
      refine wla rfl rfl (q_subI rfl rfl rfl) ?_
      refine wla rfl rfl (q_move (v := (i64 ((a1secret.length : Int)))) rfl rfl) ?_
      refine wla rfl rfl (q_mulI rfl rfl rfl) ?_
      obtain ⟨r14, hr14, H⟩ := Option.bind_eq_some_iff.1 H
      refine wls rfl rfl (stp_call (vs := [p4, (i64 ((wI ((wI ((wI (1 + (wI ((((UInt64.ofInt a0t) % (8 : UInt64))).toNat : Int)))) - 1)) * (a1secret.length : Int)))))]) Try.func18 rfl rfl rfl (ar2 rfl rfl) (law08_Made_calls a4delta (wI ((wI ((wI (1 + (wI ((((UInt64.ofInt a0t) % (8 : UInt64))).toNat : Int)))) - 1)) * (a1secret.length : Int))) p4 r14 _ (hp4.lift (Lift.ext e13 _)) hr14) ?_)
      rintro _ w14 ⟨v14, rfl, x14, n14_0, o14_0⟩
      refine ⟨_, rfl, ?_⟩
      have o14 : OwK (Sc u8) w14 (v14 :: [v9]) 5 v14 r14 := OwK.scal o14_0 _
      have q15 : Nq v9 v14 := o9.nq n14_0
      replace i12_0 := i12_0.lift (Lift.call _ x14 n14_0)
      replace o9 := o9.extL (Sc.stab _) x14 (Lift.call _ x14 n14_0)
      have n17 := Nw.ext e13 n14_0
      have e16 := e13.trans x14
      refine wla rfl rfl (q_assign (v := v9) rfl rfl) ?_
      refine wla rfl rfl (q_assign (v := v12) rfl rfl) ?_
      refine wla rfl rfl (q_assign (v := v14) rfl rfl) ?_
      refine wl_nil ?_
      refine W_th ?_
      refine W_seq ?_
      refine W_reg (by kernel_rfl) ?_
      refine wla rfl rfl (q_move (v := p5) rfl rfl) ?_
      refine wla rfl rfl (q_move (v := (i64 ((wI (1 + (wI ((((UInt64.ofInt a0t) % (8 : UInt64))).toNat : Int))))))) rfl rfl) ?_
      refine wla rfl rfl (q_addI rfl rfl rfl) ?_
      obtain ⟨r18, hr18, H⟩ := Option.bind_eq_some_iff.1 H
      refine wls rfl rfl (stp_call (vs := [p5, (i64 ((wI ((wI (1 + (wI ((((UInt64.ofInt a0t) % (8 : UInt64))).toNat : Int)))) + 2))))]) Try.func23 rfl rfl rfl (ar2 rfl rfl) (law08_Unlike_calls a5xs (wI ((wI (1 + (wI ((((UInt64.ofInt a0t) % (8 : UInt64))).toNat : Int)))) + 2)) p5 r18 _ (hp5.lift (Lift.ext e16 _)) hr18) ?_)
      rintro _ w18 ⟨v18, rfl, x18, n18_0, o18_0⟩
      refine ⟨_, rfl, ?_⟩
      have i18_0 : By w18 [v14, v9] v18 r18 := OwK.slk (Sc.stab _) _ (OwK.scal o18_0 (v18 :: [v14, v9])) (fun k hk => (Old.cons (Old.cons (Old.nil _) o9.lt) o14.lt) k (n18_0 k hk)) (fun _ h => h.2)
      replace i12_0 := i12_0.lift (Lift.ext x18 _)
      replace o14 := o14.extL (Sc.stab _) x18 (Lift.ext x18 _)
      replace o9 := o9.extL (Sc.stab _) x18 (Lift.ext x18 _)
      have e19 := e16.trans x18
      refine wla rfl rfl (q_assign (v := v18) rfl rfl) ?_
      refine wl_nil ?_
      refine W_th ?_
      refine W_seq ?_
      refine W_reg (by kernel_rfl) ?_
      obtain ⟨r20, hr20, H⟩ := Option.bind_eq_some_iff.1 H
      refine wls rfl rfl (stp_call (vs := []) Try.func14 rfl rfl rfl (ar0 ) (field_New_calls   r20 _ [v14, v9] (Old.cons (Old.cons (Old.nil _) o9.lt) o14.lt)  hr20) ?_)
      rintro _ w20 ⟨v20, rfl, x20, i20_0⟩
      refine ⟨_, rfl, ?_⟩
      replace i12_0 := i12_0.lift (Lift.ext x20 _)
      replace i18_0 := i18_0.lift (Lift.ext x20 _)
      replace o14 := o14.extL (Sc.stab _) x20 (Lift.ext x20 _)
      replace o9 := o9.extL (Sc.stab _) x20 (Lift.ext x20 _)
      have e21 := e19.trans x20
      refine wla rfl rfl (q_assign (v := v20) rfl rfl) ?_
      refine wl_nil ?_
      refine W_th ?_
      refine W_seq ?_
      refine W_reg (by kernel_rfl) ?_
      refine wla rfl rfl (q_move (v := v20) rfl rfl) ?_
      refine wla rfl rfl (q_move (v := (i64 ((wI (1 + (wI ((((UInt64.ofInt a0t) % (8 : UInt64))).toNat : Int))))))) rfl rfl) ?_
      refine wla rfl rfl (q_move (v := p1) rfl rfl) ?_
      refine wla rfl rfl (q_move (v := v12) rfl rfl) ?_
      refine wla rfl rfl (q_move (v := v18) rfl rfl) ?_
      obtain ⟨r22, hr22, H⟩ := Option.bind_eq_some_iff.1 H
      refine wls rfl rfl (stp_call (vs := [v20, (i64 ((wI (1 + (wI ((((UInt64.ofInt a0t) % (8 : UInt64))).toNat : Int)))))), p1, v12, v18]) Try.func19 rfl rfl rfl (ar5 rfl rfl rfl rfl rfl) (shamir_Split_calls r20 (wI (1 + (wI ((((UInt64.ofInt a0t) % (8 : UInt64))).toNat : Int)))) a1secret r12 r18 v20 p1 v12 v18 r22 _ [v14, v9] (Old.cons (Old.cons (Old.nil _) o9.lt) o14.lt) (i20_0.lift (Lift.sub (fun _ _ => trivial))) (hp1.lift (Lift.ext e21 _)) (i12_0.lift (Lift.sub (fun _ _ => trivial))) (i18_0.lift (Lift.sub (fun _ _ => trivial))) hr22) ?_)
      rintro _ w22 ⟨v22_0, rfl, x22, n22_0, o22_0⟩
      refine ⟨_, rfl, ?_⟩
      have i22_0 : Rw w22 [v14, v9] v22_0 r22.1 := OwK.slk (SlK.stab (Sc.stab _)) _ o22_0 (fun k hk => (Old.cons (Old.cons (Old.nil _) o9.lt) o14.lt) k (n22_0 k hk)) (fun _ h => h.2)
      replace i12_0 := i12_0.lift (Lift.ext x22 _)
      replace i18_0 := i18_0.lift (Lift.ext x22 _)
      replace i20_0 := i20_0.lift (Lift.ext x22 _)
      replace o14 := o14.extL (Sc.stab _) x22 (Lift.ext x22 _)
      replace o9 := o9.extL (Sc.stab _) x22 (Lift.ext x22 _)
      have e23 := e21.trans x22
      refine wla rfl rfl (q_move (v := (.tuple #[v22_0, (i64 r22.2)])) rfl rfl) ?_
      refine wla rfl rfl (q_extract rfl rfl rfl) ?_
      refine wla rfl rfl (q_extract rfl rfl rfl) ?_
      refine wla rfl rfl (q_assign (v := v22_0) rfl rfl) ?_
      refine wla rfl rfl (q_assign (v := (i64 r22.2)) rfl rfl) ?_
      refine wl_nil ?_
      refine W_th ?_
      refine W_seq ?_
      refine W_reg (by kernel_rfl) ?_
      refine wla rfl rfl (q_move (v := v20) rfl rfl) ?_
      refine wla rfl rfl (q_move (v := (i64 ((wI (1 + (wI ((((UInt64.ofInt a0t) % (8 : UInt64))).toNat : Int))))))) rfl rfl) ?_
      refine wla rfl rfl (q_move (v := v9) rfl rfl) ?_
      refine wla rfl rfl (q_move (v := v14) rfl rfl) ?_
      refine wla rfl rfl (q_move (v := v18) rfl rfl) ?_
      obtain ⟨r24, hr24, H⟩ := Option.bind_eq_some_iff.1 H
      refine wls rfl rfl (stp_call (vs := [v20, (i64 ((wI (1 + (wI ((((UInt64.ofInt a0t) % (8 : UInt64))).toNat : Int)))))), v9, v14, v18]) Try.func19 rfl rfl rfl (ar5 rfl rfl rfl rfl rfl) (shamir_Split_calls r20 (wI (1 + (wI ((((UInt64.ofInt a0t) % (8 : UInt64))).toNat : Int)))) r9 r14 r18 v20 v9 v14 v18 r24 _ [v14, v9] (Old.cons (Old.cons (Old.nil _) o9.lt) o14.lt) (i20_0.lift (Lift.sub (fun _ _ => trivial))) (o9.rd (Sc.stab _)) (o14.rd (Sc.stab _)) (i18_0.lift (Lift.sub (fun _ _ => trivial))) hr24) ?_)
      rintro _ w24 ⟨v24_0, rfl, x24, n24_0, o24_0⟩
      refine ⟨_, rfl, ?_⟩
      have i24_0 : Rw w24 [v14, v9] v24_0 r24.1 := OwK.slk (SlK.stab (Sc.stab _)) _ o24_0 (fun k hk => (Old.cons (Old.cons (Old.nil _) o9.lt) o14.lt) k (n24_0 k hk)) (fun _ h => h.2)
      replace i12_0 := i12_0.lift (Lift.ext x24 _)
      replace i18_0 := i18_0.lift (Lift.ext x24 _)
      replace i20_0 := i20_0.lift (Lift.ext x24 _)
      replace i22_0 := i22_0.lift (Lift.ext x24 _)
      replace o14 := o14.extL (Sc.stab _) x24 (Lift.ext x24 _)
      replace o9 := o9.extL (Sc.stab _) x24 (Lift.ext x24 _)
      have e25 := e23.trans x24
      refine wla rfl rfl (q_move (v := (.tuple #[v24_0, (i64 r24.2)])) rfl rfl) ?_
      refine wla rfl rfl (q_extract rfl rfl rfl) ?_
      refine wla rfl rfl (q_extract rfl rfl rfl) ?_
      refine wla rfl rfl (q_assign (v := v24_0) rfl rfl) ?_
      refine wla rfl rfl (q_assign (v := (i64 r24.2)) rfl rfl) ?_
      refine wl_nil ?_
      refine W_th ?_
      refine W_seq ?_
      refine W_reg (by kernel_rfl) ?_
      refine wla rfl rfl (q_move (v := v22_0) rfl rfl) ?_
      refine wla rfl rfl (q_move (v := v24_0) rfl rfl) ?_
      obtain ⟨r26, hr26, H⟩ := Option.bind_eq_some_iff.1 H
      refine wls rfl rfl (stp_call (vs := [v22_0, v24_0]) Try.func24 rfl rfl rfl (ar2 rfl rfl) (shamir_Add_calls r22.1 r24.1 v22_0 v24_0 r26 _ [v14, v9] (Old.cons (Old.cons (Old.nil _) o9.lt) o14.lt) (i22_0.lift (Lift.sub (fun _ _ => trivial))) (i24_0.lift (Lift.sub (fun _ _ => trivial))) hr26) ?_)
      rintro _ w26 ⟨v26_0, rfl, x26, n26_0, o26_0⟩
      refine ⟨_, rfl, ?_⟩
      have i26_0 : Rw w26 [v14, v9] v26_0 r26.1 := OwK.slk (SlK.stab (Sc.stab _)) _ o26_0 (fun k hk => (Old.cons (Old.cons (Old.nil _) o9.lt) o14.lt) k (n26_0 k hk)) (fun _ h => h.2)
      replace i12_0 := i12_0.lift (Lift.ext x26 _)
      replace i18_0 := i18_0.lift (Lift.ext x26 _)
      replace i20_0 := i20_0.lift (Lift.ext x26 _)
      replace i22_0 := i22_0.lift (Lift.ext x26 _)
      replace i24_0 := i24_0.lift (Lift.ext x26 _)
      replace o14 := o14.extL (Sc.stab _) x26 (Lift.ext x26 _)
      replace o9 := o9.extL (Sc.stab _) x26 (Lift.ext x26 _)
      have e27 := e25.trans x26
      refine wla rfl rfl (q_move (v := (.tuple #[v26_0, (i64 r26.2)])) rfl rfl) ?_
      refine wla rfl rfl (q_extract rfl rfl rfl) ?_
      refine wla rfl rfl (q_extract rfl rfl rfl) ?_
      refine wla rfl rfl (q_assign (v := v26_0) rfl rfl) ?_
      refine wla rfl rfl (q_assign (v := (i64 r26.2)) rfl rfl) ?_
      refine wl_nil ?_
      refine W_th ?_
      refine W_seq ?_
      refine W_seq ?_
      refine W_reg (by kernel_rfl) ?_
      refine wla rfl rfl (q_move (v := v9) rfl rfl) ?_
      refine wla rfl rfl (q_len rfl T22.sl rfl (o9.rd (Sc.stab _))) ?_
      refine wla rfl rfl (q_move (v := (i64 0)) rfl rfl) ?_
      refine wl_nil ?_
      refine W_th ?_
      obtain ⟨x28, G28, H⟩ := Option.bind_eq_some_iff.1 H
      refine W_mid (fun f w => f 0 = (i64 ((wI (1 + (wI ((((UInt64.ofInt a0t) % (8 : UInt64))).toNat : Int)))))) ∧ f 2 = v9 ∧ f 3 = v12 ∧ f 4 = v14 ∧ f 14 = v18 ∧ f 15 = v20 ∧ f 17 = (i64 r22.2) ∧ f 19 = (i64 r24.2) ∧ f 20 = v26_0 ∧ f 21 = (i64 r26.2) ∧ f 165 = undef ∧ Ext w0 w ∧ OwK (Sc u8) w [v9, v14] 5 v9 x28 ∧ Nw w0 v9 ∧ OwK (Sc u8) w [v9, v14] 5 v14 r14 ∧ Nw w0 v14 ∧ Nq v9 v14 ∧ By w [v9, v14] v12 r12 ∧ By w [v9, v14] v18 r18 ∧ Fd w [v9, v14] v20 r20 ∧ Rw w [v9, v14] v26_0 r26.1) ?_ ?_
      · refine W_block ?_
        refine W_loop (fun s28 f w => f 0 = (i64 ((wI (1 + (wI ((((UInt64.ofInt a0t) % (8 : UInt64))).toNat : Int)))))) ∧ f 1 = p1 ∧ f 2 = v9 ∧ f 3 = v12 ∧ f 4 = v14 ∧ f 14 = v18 ∧ f 15 = v20 ∧ f 17 = (i64 r22.2) ∧ f 19 = (i64 r24.2) ∧ f 20 = v26_0 ∧ f 21 = (i64 r26.2) ∧ f 87 = (i64 ((r9.length : Int))) ∧ f 88 = (i64 s28.2) ∧ f 165 = undef ∧ Ext w0 w ∧ OwK (Sc u8) w [v9, v14] 5 v9 s28.1 ∧ Nw w0 v9 ∧ OwK (Sc u8) w [v9, v14] 5 v14 r14 ∧ Nw w0 v14 ∧ Nq v9 v14 ∧ By w [v9, v14] v12 r12 ∧ By w [v9, v14] v18 r18 ∧ Fd w [v9, v14] v20 r20 ∧ Rw w [v9, v14] v26_0 r26.1) G28 ?_ ?_
        · exact ⟨rfl, rfl, rfl, rfl, rfl, rfl, rfl, rfl, rfl, rfl, rfl, rfl, rfl, rfl, e27, (o9.weak (Sc.stab _) (fun _ h => ⟨h.2.1, h.1, trivial⟩)), n11, (o14.weak (Sc.stab _) (fun _ h => ⟨h.2.1, h.1, trivial⟩)), n17, q15, (i12_0.lift (Lift.sub (fun _ h => ⟨h.2.1, h.1, trivial⟩))), (i18_0.lift (Lift.sub (fun _ h => ⟨h.2.1, h.1, trivial⟩))), (i20_0.lift (Lift.sub (fun _ h => ⟨h.2.1, h.1, trivial⟩))), (i26_0.lift (Lift.sub (fun _ h => ⟨h.2.1, h.1, trivial⟩)))⟩
        · rintro s28 _ _ w29 ⟨s0_29, s1_29, s2_29, s3_29, s4_29, s14_29, s15_29, s17_29, s19_29, s20_29, s21_29, s87_29, s88_29, s165_29, hE29, o0_29, n0_29, o1_29, n1_29, q0_1_29, i0_29, i1_29, i2_29, i3_29⟩ H28 hr28
          refine W_seq ?_
          refine W_reg (by kernel_rfl) ?_
          refine wla rfl rfl (q_ltI rfl s88_29 s87_29) ?_
          refine wl_nil ?_
          refine W_th ?_
          refine W_seq ?_
          refine W_cond _ rfl rfl (fun hb30 => ?_) (fun hb30 => ?_)
          · replace H28 := (if_pos (of_decide_eq_true hb30)).symm.trans H28
            refine W_skip ?_
            refine W_th ?_
            refine W_seq ?_
            refine W_block ?_
            refine W_seq ?_
            refine W_reg (by kernel_rfl) ?_
            refine wla rfl rfl (q_move (v := (i64 s28.2)) rfl s88_29) ?_
            refine wla rfl rfl (q_assign (v := (i64 s28.2)) rfl rfl) ?_
            refine wl_nil ?_
            refine W_th ?_
            refine W_draw [3, 7] [(0, 0), (1, 0), (2, 0), (3, 1), (4, 0), (5, 0), (6, 0), (7, 1), (8, 0), (9, 0), (10, 2)] mixed (by kernel_rfl) (by kernel_rfl) (by kernel_rfl) (by kernel_rfl) ?_
            have x31 := Ext.drew w29
            replace i0_29 := i0_29.lift (Lift.ext x31 _)
            replace i1_29 := i1_29.lift (Lift.ext x31 _)
            replace i2_29 := i2_29.lift (Lift.ext x31 _)
            replace i3_29 := i3_29.lift (Lift.ext x31 _)
            replace o0_29 := o0_29.extL (Sc.stab _) x31 (Lift.ext x31 _)
            replace o1_29 := o1_29.extL (Sc.stab _) x31 (Lift.ext x31 _)
            have e32 := hE29.trans x31
            refine wsa rfl rfl rfl (q_move (v := v9) rfl s2_29) ?_
            refine wsa rfl rfl rfl (q_move (v := (i64 s28.2)) rfl rfl) ?_
            obtain ⟨c33, hc33, H28⟩ := Option.bind_eq_some_iff.1 H28
            refine wsa rfl rfl rfl (q_adr rfl T22 rfl rfl (o0_29.rd (Sc.stab _)) hc33) ?_
            refine wsq rfl rfl rfl (q_loadS rfl T22 rfl (o0_29.rd (Sc.stab _)) hc33) ?_
            refine wsa rfl rfl rfl (q_move (v := p1) rfl s1_29) ?_
            refine wsa rfl rfl rfl (q_move (v := (i64 s28.2)) rfl rfl) ?_
            obtain ⟨c34, hc34, H28⟩ := Option.bind_eq_some_iff.1 H28
            refine wsa rfl rfl rfl (q_adr rfl T22 rfl rfl (hp1.lift (Lift.ext e32 _)) hc34) ?_
            refine wsq rfl rfl rfl (q_loadS rfl T22 rfl (hp1.lift (Lift.ext e32 _)) hc34) ?_
            refine wsa rfl rfl rfl (q_xor8 rfl rfl rfl) ?_
            refine wsa rfl rfl rfl (q_adr rfl T22 rfl rfl (o0_29.rd (Sc.stab _)) hc33) ?_
            refine wsn rfl (by kernel_rfl) rfl rfl (stp_store (R := (Sc u8)) (u := (u8 ((c33 ^^^ c34)))) (Sc.stab _) [] [v14] rfl T22 rfl rfl o0_29 (put_of ((c33 ^^^ c34)) hc33) rfl rfl ?_)
            intro w35 o35 g35 l35
            replace i0_29 := i0_29.lift l35
            replace i1_29 := i1_29.lift l35
            replace i2_29 := i2_29.lift l35
            replace i3_29 := i3_29.lift l35
            replace o1_29 := o1_29.other (Sc.stab _) g35 q0_1_29.symm l35
            have e36 := e32.grown g35 n0_29
            refine ws_nil ?_
            refine bk_n ?_
            refine W_th ?_
            refine W_reg (by kernel_rfl) ?_
            refine wla rfl rfl (q_addI rfl s88_29 rfl) ?_
            refine wla rfl rfl (q_move (v := (i64 ((wI (s28.2 + 1))))) rfl rfl) ?_
            refine wl_nil ?_
            obtain rfl := Option.some.inj H28
            exact ⟨_, rfl, s0_29, s1_29, s2_29, s3_29, s4_29, s14_29, s15_29, s17_29, s19_29, s20_29, s21_29, s87_29, rfl, s165_29, e36, o35, n0_29, o1_29, n1_29, q0_1_29, i0_29, i1_29, i2_29, i3_29⟩
          · replace H28 := (if_neg (of_decide_eq_false hb30)).symm.trans H28
            refine W_exit ?_
            refine th_x ?_
            obtain rfl := Option.some.inj H28
            obtain rfl := hr28 _ rfl
            refine th_x ?_
            refine bk_x ?_
            exact ⟨s0_29, s2_29, s3_29, s4_29, s14_29, s15_29, s17_29, s19_29, s20_29, s21_29, s165_29, hE29, o0_29, n0_29, o1_29, n1_29, q0_1_29, i0_29, i1_29, i2_29, i3_29⟩
      · rintro _ w38 ⟨s0_38, s2_38, s3_38, s4_38, s14_38, s15_38, s17_38, s19_38, s20_38, s21_38, s165_38, hE38, o0_38, n0_38, o1_38, n1_38, q0_1_38, i0_38, i1_38, i2_38, i3_38⟩
        refine W_th ?_
        refine W_seq ?_
        refine W_seq ?_
        refine W_reg (by kernel_rfl) ?_
        refine wla rfl rfl (q_move (v := v14) rfl s4_38) ?_
        refine wla rfl rfl (q_len rfl T22.sl rfl (o1_38.rd (Sc.stab _))) ?_
        refine wla rfl rfl (q_move (v := (i64 0)) rfl rfl) ?_
        refine wl_nil ?_
        refine W_th ?_
        obtain ⟨x39, G39, H⟩ := Option.bind_eq_some_iff.1 H
        refine W_mid (fun f w => f 0 = (i64 ((wI (1 + (wI ((((UInt64.ofInt a0t) % (8 : UInt64))).toNat : Int)))))) ∧ f 2 = v9 ∧ f 4 = v14 ∧ f 14 = v18 ∧ f 15 = v20 ∧ f 17 = (i64 r22.2) ∧ f 19 = (i64 r24.2) ∧ f 20 = v26_0 ∧ f 21 = (i64 r26.2) ∧ f 165 = undef ∧ Ext w0 w ∧ OwK (Sc u8) w [v9, v14] 5 v9 x28 ∧ Nw w0 v9 ∧ OwK (Sc u8) w [v9, v14] 5 v14 x39 ∧ Nw w0 v14 ∧ Nq v9 v14 ∧ By w [v9, v14] v18 r18 ∧ Fd w [v9, v14] v20 r20 ∧ Rw w [v9, v14] v26_0 r26.1) ?_ ?_
        · refine W_block ?_
          refine W_loop (fun s39 f w => f 0 = (i64 ((wI (1 + (wI ((((UInt64.ofInt a0t) % (8 : UInt64))).toNat : Int)))))) ∧ f 2 = v9 ∧ f 3 = v12 ∧ f 4 = v14 ∧ f 14 = v18 ∧ f 15 = v20 ∧ f 17 = (i64 r22.2) ∧ f 19 = (i64 r24.2) ∧ f 20 = v26_0 ∧ f 21 = (i64 r26.2) ∧ f 103 = (i64 ((r14.length : Int))) ∧ f 104 = (i64 s39.2) ∧ f 165 = undef ∧ Ext w0 w ∧ OwK (Sc u8) w [v9, v14] 5 v9 x28 ∧ Nw w0 v9 ∧ OwK (Sc u8) w [v9, v14] 5 v14 s39.1 ∧ Nw w0 v14 ∧ Nq v9 v14 ∧ By w [v9, v14] v12 r12 ∧ By w [v9, v14] v18 r18 ∧ Fd w [v9, v14] v20 r20 ∧ Rw w [v9, v14] v26_0 r26.1) G39 ?_ ?_
          · exact ⟨s0_38, s2_38, s3_38, s4_38, s14_38, s15_38, s17_38, s19_38, s20_38, s21_38, rfl, rfl, s165_38, hE38, o0_38, n0_38, o1_38, n1_38, q0_1_38, i0_38, i1_38, i2_38, i3_38⟩
          · rintro s39 _ _ w40 ⟨s0_40, s2_40, s3_40, s4_40, s14_40, s15_40, s17_40, s19_40, s20_40, s21_40, s103_40, s104_40, s165_40, hE40, o0_40, n0_40, o1_40, n1_40, q0_1_40, i0_40, i1_40, i2_40, i3_40⟩ H39 hr39
            refine W_seq ?_
            refine W_reg (by kernel_rfl) ?_
            refine wla rfl rfl (q_ltI rfl s104_40 s103_40) ?_
            refine wl_nil ?_
            refine W_th ?_
            refine W_seq ?_
            refine W_cond _ rfl rfl (fun hb41 => ?_) (fun hb41 => ?_)
            · replace H39 := (if_pos (of_decide_eq_true hb41)).symm.trans H39
              refine W_skip ?_
              refine W_th ?_
              refine W_seq ?_
              refine W_block ?_
              refine W_seq ?_
              refine W_reg (by kernel_rfl) ?_
              refine wla rfl rfl (q_move (v := (i64 s39.2)) rfl s104_40) ?_
              refine wla rfl rfl (q_assign (v := (i64 s39.2)) rfl rfl) ?_
              refine wl_nil ?_
              refine W_th ?_
              refine W_draw [3, 7] [(0, 0), (1, 0), (2, 0), (3, 1), (4, 0), (5, 0), (6, 0), (7, 1), (8, 0), (9, 0), (10, 2)] mixed (by kernel_rfl) (by kernel_rfl) (by kernel_rfl) (by kernel_rfl) ?_
              have x42 := Ext.drew w40
              replace i0_40 := i0_40.lift (Lift.ext x42 _)
              replace i1_40 := i1_40.lift (Lift.ext x42 _)
              replace i2_40 := i2_40.lift (Lift.ext x42 _)
              replace i3_40 := i3_40.lift (Lift.ext x42 _)
              replace o0_40 := o0_40.extL (Sc.stab _) x42 (Lift.ext x42 _)
              replace o1_40 := o1_40.extL (Sc.stab _) x42 (Lift.ext x42 _)
              have e43 := hE40.trans x42
              refine wsa rfl rfl rfl (q_move (v := v14) rfl s4_40) ?_
              refine wsa rfl rfl rfl (q_move (v := (i64 s39.2)) rfl rfl) ?_
              obtain ⟨c44, hc44, H39⟩ := Option.bind_eq_some_iff.1 H39
              refine wsa rfl rfl rfl (q_adr rfl T22 rfl rfl (o1_40.rd (Sc.stab _)) hc44) ?_
              refine wsq rfl rfl rfl (q_loadS rfl T22 rfl (o1_40.rd (Sc.stab _)) hc44) ?_
              refine wsa rfl rfl rfl (q_move (v := v12) rfl s3_40) ?_
              refine wsa rfl rfl rfl (q_move (v := (i64 s39.2)) rfl rfl) ?_
              obtain ⟨c45, hc45, H39⟩ := Option.bind_eq_some_iff.1 H39
              refine wsa rfl rfl rfl (q_adr rfl T22 rfl rfl i0_40 hc45) ?_
              refine wsq rfl rfl rfl (q_loadS rfl T22 rfl i0_40 hc45) ?_
              refine wsa rfl rfl rfl (q_xor8 rfl rfl rfl) ?_
              refine wsa rfl rfl rfl (q_adr rfl T22 rfl rfl (o1_40.rd (Sc.stab _)) hc44) ?_
              refine wsn rfl (by kernel_rfl) rfl rfl (stp_store (R := (Sc u8)) (u := (u8 ((c44 ^^^ c45)))) (Sc.stab _) [v9] [] rfl T22 rfl rfl o1_40 (put_of ((c44 ^^^ c45)) hc44) rfl rfl ?_)
              intro w46 o46 g46 l46
              replace i0_40 := i0_40.lift l46
              replace i1_40 := i1_40.lift l46
              replace i2_40 := i2_40.lift l46
              replace i3_40 := i3_40.lift l46
              replace o0_40 := o0_40.other (Sc.stab _) g46 q0_1_40 l46
              have e47 := e43.grown g46 n1_40
              refine ws_nil ?_
              refine bk_n ?_
              refine W_th ?_
              refine W_reg (by kernel_rfl) ?_
              refine wla rfl rfl (q_addI rfl s104_40 rfl) ?_
              refine wla rfl rfl (q_move (v := (i64 ((wI (s39.2 + 1))))) rfl rfl) ?_
              refine wl_nil ?_
              obtain rfl := Option.some.inj H39
              exact ⟨_, rfl, s0_40, s2_40, s3_40, s4_40, s14_40, s15_40, s17_40, s19_40, s20_40, s21_40, s103_40, rfl, s165_40, e47, o0_40, n0_40, o46, n1_40, q0_1_40, i0_40, i1_40, i2_40, i3_40⟩
            · replace H39 := (if_neg (of_decide_eq_false hb41)).symm.trans H39
              refine W_exit ?_
              refine th_x ?_
              obtain rfl := Option.some.inj H39
              obtain rfl := hr39 _ rfl
              refine th_x ?_
              refine bk_x ?_
              exact ⟨s0_40, s2_40, s4_40, s14_40, s15_40, s17_40, s19_40, s20_40, s21_40, s165_40, hE40, o0_40, n0_40, o1_40, n1_40, q0_1_40, i1_40, i2_40, i3_40⟩
        · rintro _ w49 ⟨s0_49, s2_49, s4_49, s14_49, s15_49, s17_49, s19_49, s20_49, s21_49, s165_49, hE49, o0_49, n0_49, o1_49, n1_49, q0_1_49, i0_49, i1_49, i2_49⟩
          refine W_th ?_
          refine W_seq ?_
          refine W_reg (by kernel_rfl) ?_
          refine wla rfl rfl (q_move (v := v20) rfl s15_49) ?_
          refine wla rfl rfl (q_move (v := (i64 ((wI (1 + (wI ((((UInt64.ofInt a0t) % (8 : UInt64))).toNat : Int))))))) rfl s0_49) ?_
          refine wla rfl rfl (q_move (v := v9) rfl s2_49) ?_
          refine wla rfl rfl (q_move (v := v14) rfl s4_49) ?_
          refine wla rfl rfl (q_move (v := v18) rfl s14_49) ?_
          obtain ⟨r50, hr50, H⟩ := Option.bind_eq_some_iff.1 H
          refine wls rfl rfl (stp_call (vs := [v20, (i64 ((wI (1 + (wI ((((UInt64.ofInt a0t) % (8 : UInt64))).toNat : Int)))))), v9, v14, v18]) Try.func19 rfl rfl rfl (ar5 rfl rfl rfl rfl rfl) (shamir_Split_calls r20 (wI (1 + (wI ((((UInt64.ofInt a0t) % (8 : UInt64))).toNat : Int)))) x28 x39 r18 v20 v9 v14 v18 r50 _ [v9, v14] (Old.cons (Old.cons (Old.nil _) o1_49.lt) o0_49.lt) (i1_49.lift (Lift.sub (fun _ _ => trivial))) (o0_49.rd (Sc.stab _)) (o1_49.rd (Sc.stab _)) (i0_49.lift (Lift.sub (fun _ _ => trivial))) hr50) ?_)
          rintro _ w50 ⟨v50_0, rfl, x50, n50_0, o50_0⟩
          refine ⟨_, rfl, ?_⟩
          have i50_0 : Rw w50 [v9, v14] v50_0 r50.1 := OwK.slk (SlK.stab (Sc.stab _)) _ o50_0 (fun k hk => (Old.cons (Old.cons (Old.nil _) o1_49.lt) o0_49.lt) k (n50_0 k hk)) (fun _ h => h.2)
          replace i0_49 := i0_49.lift (Lift.ext x50 _)
          replace i1_49 := i1_49.lift (Lift.ext x50 _)
          replace i2_49 := i2_49.lift (Lift.ext x50 _)
          replace o0_49 := o0_49.extL (Sc.stab _) x50 (Lift.ext x50 _)
          replace o1_49 := o1_49.extL (Sc.stab _) x50 (Lift.ext x50 _)
          have e51 := hE49.trans x50
          refine wla rfl rfl (q_move (v := (.tuple #[v50_0, (i64 r50.2)])) rfl rfl) ?_
          refine wla rfl rfl (q_extract rfl rfl rfl) ?_
          refine wla rfl rfl (q_extract rfl rfl rfl) ?_
          refine wla rfl rfl (q_assign (v := v50_0) rfl rfl) ?_
          refine wla rfl rfl (q_assign (v := (i64 r50.2)) rfl rfl) ?_
          refine wl_nil ?_
          refine W_th ?_
          refine W_seq ?_
          refine W_seq ?_
          refine W_reg (by kernel_rfl) ?_
          refine wla rfl rfl (q_move (v := (i64 r22.2)) rfl s17_49) ?_
          refine wla rfl rfl (q_neI rfl rfl rfl) ?_
          refine wlb rfl rfl (q_move (v := (.bool ((!decide (r22.2 = 0))))) rfl rfl) (fun hb52 => ?_) (fun hb52 => ?_)
          · replace H := (if_neg (ndec_t hb52)).symm.trans H
            refine wlk rfl rfl ?_
            refine wlk rfl rfl ?_
            refine wla rfl rfl (q_pick_t (v := (.bool true)) rfl rfl rfl) ?_
            refine wla rfl rfl (q_move (v := (.bool true)) rfl rfl) ?_
            refine wlk rfl rfl ?_
            refine wlk rfl rfl ?_
            refine wla rfl rfl (q_pick_t (v := (.bool true)) rfl rfl rfl) ?_
            refine wla rfl rfl (q_move (v := (.bool true)) rfl rfl) ?_
            refine wlk rfl rfl ?_
            refine wlk rfl rfl ?_
            refine wla rfl rfl (q_pick_t (v := (.bool true)) rfl rfl rfl) ?_
            refine wla rfl rfl (q_move (v := (.bool true)) rfl rfl) ?_
            refine wlk rfl rfl ?_
            refine wlk rfl rfl ?_
            refine wlk rfl rfl ?_
            refine wlk rfl rfl ?_
            refine wlk rfl rfl ?_
            refine wla rfl rfl (q_pick_t (v := (.bool true)) rfl rfl rfl) ?_
            refine wl_nil ?_
            refine W_th ?_
            refine W_cond true rfl rfl (fun _ => ?_) (fun hb => by cases hb)
            refine W_seq ?_
            refine W_reg (by kernel_rfl) ?_
            refine wla rfl rfl (q_assign (v := (.bool false)) rfl rfl) ?_
            refine wl_nil ?_
            refine W_th ?_
            refine W_ret ?_
            refine th_r ?_
            obtain rfl := Option.some.inj H
            refine rt1 (.bool false) rfl rfl rfl s165_49 ?_
            exact ⟨rfl, e51⟩
          · replace H := (if_pos (ndec_f hb52)).symm.trans H
            refine wla rfl rfl (q_move (v := (i64 r24.2)) rfl s19_49) ?_
            refine wla rfl rfl (q_neI rfl rfl rfl) ?_
            refine wla rfl rfl (q_pick_f (v := (.bool ((!decide (r24.2 = 0))))) rfl rfl rfl) ?_
            refine wlb rfl rfl (q_move (v := (.bool ((!decide (r24.2 = 0))))) rfl rfl) (fun hb53 => ?_) (fun hb53 => ?_)
            · replace H := (if_neg (ndec_t hb53)).symm.trans H
              refine wlk rfl rfl ?_
              refine wlk rfl rfl ?_
              refine wla rfl rfl (q_pick_t (v := (.bool true)) rfl rfl rfl) ?_
              refine wla rfl rfl (q_move (v := (.bool true)) rfl rfl) ?_
              refine wlk rfl rfl ?_
              refine wlk rfl rfl ?_
              refine wla rfl rfl (q_pick_t (v := (.bool true)) rfl rfl rfl) ?_
              refine wla rfl rfl (q_move (v := (.bool true)) rfl rfl) ?_
              refine wlk rfl rfl ?_
              refine wlk rfl rfl ?_
              refine wlk rfl rfl ?_
              refine wlk rfl rfl ?_
              refine wlk rfl rfl ?_
              refine wla rfl rfl (q_pick_t (v := (.bool true)) rfl rfl rfl) ?_
              refine wl_nil ?_
              refine W_th ?_
              refine W_cond true rfl rfl (fun _ => ?_) (fun hb => by cases hb)
              refine W_seq ?_
              refine W_reg (by kernel_rfl) ?_
              refine wla rfl rfl (q_assign (v := (.bool false)) rfl rfl) ?_
              refine wl_nil ?_
              refine W_th ?_
              refine W_ret ?_
              refine th_r ?_
              obtain rfl := Option.some.inj H
              refine rt1 (.bool false) rfl rfl rfl s165_49 ?_
              exact ⟨rfl, e51⟩
            · replace H := (if_pos (ndec_f hb53)).symm.trans H
              refine wla rfl rfl (q_move (v := (i64 r26.2)) rfl s21_49) ?_
              refine wla rfl rfl (q_neI rfl rfl rfl) ?_
              refine wla rfl rfl (q_pick_f (v := (.bool ((!decide (r26.2 = 0))))) rfl rfl rfl) ?_
              refine wlb rfl rfl (q_move (v := (.bool ((!decide (r26.2 = 0))))) rfl rfl) (fun hb54 => ?_) (fun hb54 => ?_)
              · replace H := (if_neg (ndec_t hb54)).symm.trans H
                refine wlk rfl rfl ?_
                refine wlk rfl rfl ?_
                refine wla rfl rfl (q_pick_t (v := (.bool true)) rfl rfl rfl) ?_
                refine wla rfl rfl (q_move (v := (.bool true)) rfl rfl) ?_
                refine wlk rfl rfl ?_
                refine wlk rfl rfl ?_
                refine wlk rfl rfl ?_
                refine wlk rfl rfl ?_
                refine wlk rfl rfl ?_
                refine wla rfl rfl (q_pick_t (v := (.bool true)) rfl rfl rfl) ?_
                refine wl_nil ?_
                refine W_th ?_
                refine W_cond true rfl rfl (fun _ => ?_) (fun hb => by cases hb)
                refine W_seq ?_
                refine W_reg (by kernel_rfl) ?_
                refine wla rfl rfl (q_assign (v := (.bool false)) rfl rfl) ?_
                refine wl_nil ?_
                refine W_th ?_
                refine W_ret ?_
                refine th_r ?_
                obtain rfl := Option.some.inj H
                refine rt1 (.bool false) rfl rfl rfl s165_49 ?_
                exact ⟨rfl, e51⟩
              · replace H := (if_pos (ndec_f hb54)).symm.trans H
                refine wla rfl rfl (q_move (v := (i64 r50.2)) rfl rfl) ?_
                refine wla rfl rfl (q_neI rfl rfl rfl) ?_
                refine wla rfl rfl (q_pick_f (v := (.bool ((!decide (r50.2 = 0))))) rfl rfl rfl) ?_
                refine wlb rfl rfl (q_move (v := (.bool ((!decide (r50.2 = 0))))) rfl rfl) (fun hb55 => ?_) (fun hb55 => ?_)
                · replace H := (if_neg (ndec_t hb55)).symm.trans H
                  refine wlk rfl rfl ?_
                  refine wlk rfl rfl ?_
                  refine wlk rfl rfl ?_
                  refine wlk rfl rfl ?_
                  refine wlk rfl rfl ?_
                  refine wla rfl rfl (q_pick_t (v := (.bool true)) rfl rfl rfl) ?_
                  refine wl_nil ?_
                  refine W_th ?_
                  refine W_cond true rfl rfl (fun _ => ?_) (fun hb => by cases hb)
                  refine W_seq ?_
                  refine W_reg (by kernel_rfl) ?_
                  refine wla rfl rfl (q_assign (v := (.bool false)) rfl rfl) ?_
                  refine wl_nil ?_
                  refine W_th ?_
                  refine W_ret ?_
                  refine th_r ?_
                  obtain rfl := Option.some.inj H
                  refine rt1 (.bool false) rfl rfl rfl s165_49 ?_
                  exact ⟨rfl, e51⟩
                · replace H := (if_pos (ndec_f hb55)).symm.trans H
                  refine wla rfl rfl (q_move (v := v26_0) rfl s20_49) ?_
                  refine wla rfl rfl (q_len rfl T23.sl rfl i2_49) ?_
                  refine wla rfl rfl (q_move (v := v50_0) rfl rfl) ?_
                  refine wla rfl rfl (q_len rfl T23.sl rfl i50_0) ?_
                  refine wla rfl rfl (q_neI rfl rfl rfl) ?_
                  refine wla rfl rfl (q_pick_f (v := (.bool ((!decide ((r26.1.length : Int) = (r50.1.length : Int)))))) rfl rfl rfl) ?_
                  refine wl_nil ?_
                  refine W_th ?_
                  refine W_cond _ rfl rfl (fun hb56 => ?_) (fun hb56 => ?_)
                  · replace H := (if_neg (ndec_t hb56)).symm.trans H
                    refine W_seq ?_
                    refine W_reg (by kernel_rfl) ?_
                    refine wla rfl rfl (q_assign (v := (.bool false)) rfl rfl) ?_
                    refine wl_nil ?_
                    refine W_th ?_
                    refine W_ret ?_
                    refine th_r ?_
                    obtain rfl := Option.some.inj H
                    refine rt1 (.bool false) rfl rfl rfl s165_49 ?_
                    exact ⟨rfl, e51⟩
                  · replace H := (if_pos (ndec_f hb56)).symm.trans H
                    refine W_skip ?_
                    refine W_th ?_
                    refine W_seq ?_
                    refine W_seq ?_
                    refine W_reg (by kernel_rfl) ?_
                    refine wla rfl rfl (q_move (v := v50_0) rfl rfl) ?_
                    refine wla rfl rfl (q_len rfl T23.sl rfl i50_0) ?_
                    refine wla rfl rfl (q_move (v := (i64 0)) rfl rfl) ?_
                    refine wl_nil ?_
                    refine W_th ?_
                    obtain ⟨x57, G57, H⟩ := Option.bind_eq_some_iff.1 H
                    refine W_mid (fun f w => ∃ y57, x57 = .inl y57 ∧ f 165 = undef ∧ Ext w0 w) ?_ ?_
                    · refine W_block ?_
                      refine W_loop (fun s57 f w => f 20 = v26_0 ∧ f 24 = v50_0 ∧ f 149 = (i64 ((r50.1.length : Int))) ∧ f 150 = (i64 s57) ∧ f 165 = undef ∧ Ext w0 w ∧ Rw w [] v26_0 r26.1 ∧ Rw w [] v50_0 r50.1) G57 ?_ ?_
                      · exact ⟨s20_49, rfl, rfl, rfl, s165_49, e51, (i2_49.lift (Lift.sub (fun _ h => trivial))), (i50_0.lift (Lift.sub (fun _ h => trivial)))⟩
                      · rintro s57 _ _ w58 ⟨s20_58, s24_58, s149_58, s150_58, s165_58, hE58, i0_58, i1_58⟩ H57 hr57
                        refine W_seq ?_
                        refine W_reg (by kernel_rfl) ?_
                        refine wla rfl rfl (q_ltI rfl s150_58 s149_58) ?_
                        refine wl_nil ?_
                        refine W_th ?_
                        refine W_seq ?_
                        refine W_cond _ rfl rfl (fun hb59 => ?_) (fun hb59 => ?_)
                        · replace H57 := (if_pos (of_decide_eq_true hb59)).symm.trans H57
                          refine W_skip ?_
                          refine W_th ?_
                          refine W_seq ?_
                          refine W_block ?_
                          refine W_seq ?_
                          refine W_reg (by kernel_rfl) ?_
                          refine wla rfl rfl (q_move (v := (i64 s57)) rfl s150_58) ?_
                          refine wla rfl rfl (q_assign (v := (i64 s57)) rfl rfl) ?_
                          refine wl_nil ?_
                          refine W_th ?_
                          refine W_seq ?_
                          refine W_draw [3, 4, 8, 9] [(0, 0), (1, 0), (2, 0), (3, 1), (4, 1), (5, 0), (6, 0), (7, 0), (8, 1), (9, 1), (10, 0)] mixed (by kernel_rfl) (by kernel_rfl) (by kernel_rfl) (by kernel_rfl) ?_
                          have x60 := Ext.drew w58
                          replace i0_58 := i0_58.lift (Lift.ext x60 _)
                          replace i1_58 := i1_58.lift (Lift.ext x60 _)
                          have e61 := hE58.trans x60
                          refine wsa rfl rfl rfl (q_move (v := v50_0) rfl s24_58) ?_
                          refine wsa rfl rfl rfl (q_move (v := (i64 s57)) rfl rfl) ?_
                          obtain ⟨c62, hc62, H57⟩ := Option.bind_eq_some_iff.1 H57
                          refine wsa rfl rfl rfl (q_adr rfl T23 rfl rfl i1_58 hc62) ?_
                          refine wsq_load rfl rfl rfl rfl T23 rfl i1_58 hc62 (Ext.refl _) (fun v63 i63 => ?_)
                          refine wsq rfl rfl rfl (q_str rfl T22 rfl rfl rfl i63) ?_
                          refine wsa rfl rfl rfl (q_move (v := v26_0) rfl s20_58) ?_
                          refine wsa rfl rfl rfl (q_move (v := (i64 s57)) rfl rfl) ?_
                          obtain ⟨c64, hc64, H57⟩ := Option.bind_eq_some_iff.1 H57
                          refine wsa rfl rfl rfl (q_adr rfl T23 rfl rfl i0_58 hc64) ?_
                          refine wsq_load rfl rfl rfl rfl T23 rfl i0_58 hc64 (Ext.refl _) (fun v65 i65 => ?_)
                          refine wsq rfl rfl rfl (q_str rfl T22 rfl rfl rfl i65) ?_
                          refine wsa rfl rfl rfl (q_neS rfl rfl rfl) ?_
                          refine ws_nil ?_
                          refine W_th ?_
                          refine W_cond _ rfl rfl (fun hb66 => ?_) (fun hb66 => ?_)
                          · replace H57 := (if_neg (ndec_t hb66)).symm.trans H57
                            refine W_seq ?_
                            refine W_reg (by kernel_rfl) ?_
                            refine wla rfl rfl (q_assign (v := (.bool false)) rfl rfl) ?_
                            refine wl_nil ?_
                            refine W_th ?_
                            refine W_ret ?_
                            refine bk_r ?_
                            refine th_r ?_
                            obtain rfl := Option.some.inj H57
                            obtain rfl := hr57 _ rfl
                            simp only [Sum.elim_inr] at H
                            refine th_r ?_
                            refine bk_r ?_
                            refine th_r ?_
                            refine th_r ?_
                            obtain rfl := Option.some.inj H
                            refine rt1 (.bool false) rfl rfl rfl s165_58 ?_
                            exact ⟨rfl, e61⟩
                          · replace H57 := (if_pos (ndec_f hb66)).symm.trans H57
                            refine W_skip ?_
                            refine bk_n ?_
                            refine W_th ?_
                            refine W_reg (by kernel_rfl) ?_
                            refine wla rfl rfl (q_addI rfl s150_58 rfl) ?_
                            refine wla rfl rfl (q_move (v := (i64 ((wI (s57 + 1))))) rfl rfl) ?_
                            refine wl_nil ?_
                            obtain rfl := Option.some.inj H57
                            exact ⟨_, rfl, s20_58, s24_58, s149_58, rfl, s165_58, e61, i0_58, i1_58⟩
                        · replace H57 := (if_neg (of_decide_eq_false hb59)).symm.trans H57
                          refine W_exit ?_
                          refine th_x ?_
                          obtain rfl := Option.some.inj H57
                          obtain rfl := hr57 _ rfl
                          refine th_x ?_
                          refine bk_x ?_
                          exact ⟨_, rfl, s165_58, hE58⟩
                    · rintro _ w68 ⟨y57, rfl, s165_68, hE68⟩
                      simp only [Sum.elim_inl] at H
                      refine W_th ?_
                      refine W_seq ?_
                      refine W_reg (by kernel_rfl) ?_
                      refine wla rfl rfl (q_assign (v := (.bool true)) rfl rfl) ?_
                      refine wl_nil ?_
                      refine W_th ?_
                      refine W_ret ?_
                      obtain rfl := Option.some.inj H
                      refine rt1 (.bool true) rfl rfl rfl s165_68 ?_
                      exact ⟨rfl, hE68⟩

end Gk

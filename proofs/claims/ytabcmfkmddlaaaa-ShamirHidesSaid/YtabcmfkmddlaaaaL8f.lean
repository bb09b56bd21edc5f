/- Printed by gen.py: for each Go function a pure function, and that the Go code comes to it. No condition beside the equation that says what the pure function gives. -/
import Derived.Test.YtabcmfkmddlaaaaL8a
set_option linter.unusedVariables false
set_option linter.unusedSimpArgs false
namespace Gk
open Go Go.Proofs

/-! largesse/largesselaw08.ShamirHides -/
noncomputable def law08_ShamirHides (a0t : Int) (a1secret : List UInt8) (a2other : List UInt8) (a3mask : List UInt8) (a4xs : List UInt8) (a5bent : Int) : Option Bool :=
((law08_lives ).bind fun r1 =>
(if (!r1) = true then
((law08_lives ).bind fun r4 => some r4)
else
(if 8 < (a1secret.length : Int) then
((law08_lives ).bind fun r7 => some r7)
else
((law08_Made a2other (a1secret.length : Int)).bind fun r9 =>
((law08_Made a3mask (wI ((wI ((wI (1 + (wI ((((UInt64.ofInt a0t) % (8 : UInt64))).toNat : Int)))) - 1)) * (a1secret.length : Int)))).bind fun r11 =>
((law08_Unlike a4xs (wI ((wI (1 + (wI ((((UInt64.ofInt a0t) % (8 : UInt64))).toNat : Int)))) - 1))).bind fun r13 =>
((field_New ).bind fun r15 =>
((poly_Vanish r15 r13).bind fun r17 =>
((appL (([(0 : UInt8)] : List UInt8)) r13).bind fun c22 =>
((poly_Weights r15 c22 (0 : UInt8)).bind fun r25 =>
((idx r17.1 0).bind fun c27 =>
((field_Inv r15 c27).bind fun r28 =>
(if r28.2 = 0 then
(if (r25.1.length : Int) = (wI (1 + (wI ((((UInt64.ofInt a0t) % (8 : UInt64))).toNat : Int)))) then
((appL (([] : List UInt8)) r11).bind fun c36 =>
((iterC (fun s40 : List UInt8 × Int =>
(if s40.2 < (a1secret.length : Int) then
((idx a1secret s40.2).bind fun c45 =>
((idx r9 s40.2).bind fun c46 =>
((field_Mul r15 r28.1 (c45 ^^^ c46)).bind fun r47 =>
((iterC (fun s49 : List UInt8 × Int =>
(if s49.2 < (wI (1 + (wI ((((UInt64.ofInt a0t) % (8 : UInt64))).toNat : Int)))) then
((idx s49.1 ((wI ((wI ((wI (s49.2 - 1)) * (a1secret.length : Int))) + s40.2)))).bind fun c54 =>
((idx r17.1 s49.2).bind fun c55 =>
((field_Mul r15 r47 c55).bind fun r56 => some (.inl ((s49.1.set ((wI ((wI ((wI (s49.2 - 1)) * (a1secret.length : Int))) + s40.2)) : Int).toNat ((c54 ^^^ r56))), (wI (s49.2 + 1)))))))
else some (.inr s49.1))) (s40.1, 1)).bind fun x49 => some (.inl (x49, (wI (s40.2 + 1))))))))
else some (.inr s40.1))) (c36, 0)).bind fun x40 =>
((shamir_Split r15 (wI (1 + (wI ((((UInt64.ofInt a0t) % (8 : UInt64))).toNat : Int)))) a1secret r11 r13).bind fun r65 =>
((shamir_Split r15 (wI (1 + (wI ((((UInt64.ofInt a0t) % (8 : UInt64))).toNat : Int)))) r9 x40 r13).bind fun r67 =>
(if r65.2 = 0 then
(if r67.2 = 0 then
(if (r65.1.length : Int) = (r67.1.length : Int) then
((iterC (fun s72 : Int =>
(if s72 < (r65.1.length : Int) then
((idx r65.1 s72).bind fun c77 =>
((idx r67.1 s72).bind fun c79 =>
(if c77 = c79 then some (.inl (wI (s72 + 1)))
else some (.inr (.inr false)))))
else some (.inr (.inl ())))) 0).bind (Sum.elim (fun y72 =>
(if (x40.length : Int) = 0 then some true
else
((nz ((UInt64.ofInt ((x40.length : Int))))).bind fun c85 =>
((idx x40 ((wI ((((UInt64.ofInt a5bent) % (UInt64.ofInt ((x40.length : Int))))).toNat : Int)))).bind fun c86 =>
((shamir_Split r15 (wI (1 + (wI ((((UInt64.ofInt a0t) % (8 : UInt64))).toNat : Int)))) r9 (x40.set ((wI ((((UInt64.ofInt a5bent) % (UInt64.ofInt ((x40.length : Int))))).toNat : Int)) : Int).toNat ((c86 ^^^ ((1 : UInt8) + ((((UInt64.ofInt a5bent) % (255 : UInt64))).toUInt8))))) r13).bind fun r89 =>
((iterC (fun s91 : Int =>
(if s91 < (r65.1.length : Int) then
((idx r65.1 s91).bind fun c96 =>
((idx r89.1 s91).bind fun c98 =>
(if c96 = c98 then some (.inl (wI (s91 + 1)))
else some (.inr (.inr true)))))
else some (.inr (.inl ())))) 0).bind (Sum.elim (fun y91 => some false) (fun q91 => some q91)))))))) (fun q72 => some q72)))
else some false)
else some false)
else some false)))))
else some false)
else some false)))))))))))))
set_option maxRecDepth 100000 in
set_option maxHeartbeats 8000000 in
theorem law08_ShamirHides_calls (a0t : Int) (a1secret : List UInt8) (a2other : List UInt8) (a3mask : List UInt8) (a4xs : List UInt8) (a5bent : Int) (p1 : Value) (p2 : Value) (p3 : Value) (p4 : Value) (r : Bool) (w0 : World) (hp1 : By w0 [] p1 a1secret) (hp2 : By w0 [] p2 a2other) (hp3 : By w0 [] p3 a3mask) (hp4 : By w0 [] p4 a4xs) (H : law08_ShamirHides a0t a1secret a2other a3mask a4xs a5bent = some r) :
    Calls Try.prog 7 [(i64 a0t), p1, p2, p3, p4, (i64 a5bent)].toArray w0 (fun e w' => e = .returned (.bool r) ∧ Ext w0 w') := by
  have hE : Ext w0 w0 := Ext.refl w0
  unfold law08_ShamirHides at H
  refine calls_W (n := 230) Try.func7 rfl rfl rfl ?_
  refine W_seq ?_
  refine W_reg (by kernel_rfl) ?_
  refine wla rfl rfl (q_assign (v := (.bool false)) rfl rfl) ?_
  refine wl_nil ?_
  refine W_th ?_
  refine W_seq ?_
  refine W_seq ?_
  refine W_reg (by kernel_rfl) ?_
  obtain ⟨r1, hr1, H⟩ := Option.bind_eq_some_iff.1 H
  refine wls rfl rfl (stp_call (vs := []) Try.func12 rfl rfl rfl (ar0 ) (law08_lives_calls   r1 _  hr1) ?_)
  rintro _ w1 ⟨rfl, x1⟩
  refine ⟨_, rfl, ?_⟩
  have e2 := hE.trans x1
  refine wla rfl rfl (q_not rfl rfl) ?_
  refine wlb rfl rfl (q_move (v := (.bool ((!r1)))) rfl rfl) (fun hb3 => ?_) (fun hb3 => ?_)
  · replace H := (if_pos hb3).symm.trans H
    refine wlk rfl rfl ?_
    refine wlk rfl rfl ?_
    refine wlk rfl rfl ?_
    refine wla rfl rfl (q_pick_t (v := (.bool true)) rfl rfl rfl) ?_
    refine wl_nil ?_
    refine W_th ?_
    refine W_cond true rfl rfl (fun _ => ?_) (fun hb => by cases hb)
    refine W_seq ?_
    refine W_reg (by kernel_rfl) ?_
    obtain ⟨r4, hr4, H⟩ := Option.bind_eq_some_iff.1 H
    refine wls rfl rfl (stp_call (vs := []) Try.func12 rfl rfl rfl (ar0 ) (law08_lives_calls   r4 _  hr4) ?_)
    rintro _ w4 ⟨rfl, x4⟩
    refine ⟨_, rfl, ?_⟩
    have e5 := e2.trans x4
    refine wla rfl rfl (q_assign (v := (.bool r4)) rfl rfl) ?_
    refine wl_nil ?_
    refine W_th ?_
    refine W_ret ?_
    refine th_r ?_
    obtain rfl := Option.some.inj H
    refine rt1 (.bool r4) rfl rfl rfl rfl ?_
    exact ⟨rfl, e5⟩
  · replace H := (if_neg (ne_true_of_eq_false hb3)).symm.trans H
    refine wla rfl rfl (q_move (v := p1) rfl rfl) ?_
    refine wla rfl rfl (q_len rfl T22.sl rfl (hp1.lift (Lift.ext e2 _))) ?_
    refine wla rfl rfl (q_gtI rfl rfl rfl) ?_
    refine wla rfl rfl (q_pick_f (v := (.bool ((decide (8 < (a1secret.length : Int)))))) rfl rfl rfl) ?_
    refine wl_nil ?_
    refine W_th ?_
    refine W_cond _ rfl rfl (fun hb6 => ?_) (fun hb6 => ?_)
    · replace H := (if_pos (of_decide_eq_true hb6)).symm.trans H
      refine W_seq ?_
      refine W_reg (by kernel_rfl) ?_
      obtain ⟨r7, hr7, H⟩ := Option.bind_eq_some_iff.1 H
      refine wls rfl rfl (stp_call (vs := []) Try.func12 rfl rfl rfl (ar0 ) (law08_lives_calls   r7 _  hr7) ?_)
      rintro _ w7 ⟨rfl, x7⟩
      refine ⟨_, rfl, ?_⟩
      have e8 := e2.trans x7
      refine wla rfl rfl (q_assign (v := (.bool r7)) rfl rfl) ?_
      refine wl_nil ?_
      refine W_th ?_
      refine W_ret ?_
      refine th_r ?_
      obtain rfl := Option.some.inj H
      refine rt1 (.bool r7) rfl rfl rfl rfl ?_
      exact ⟨rfl, e8⟩
    · replace H := (if_neg (of_decide_eq_false hb6)).symm.trans H
      refine W_skip ?_
      refine W_th ?_
      refine W_seq ?_
      refine W_reg (by kernel_rfl) ?_
      refine wla rfl rfl (q_move (v := (i64 a0t)) rfl rfl) ?_
      refine wla rfl rfl (q_cvt64I rfl rfl rfl rfl) ?_
      refine wla rfl rfl (q_rem64 rfl rfl (cst64 (8 : UInt64) rfl) (by decide)) ?_
      refine wla rfl rfl (q_cvtI64 rfl rfl rfl rfl) ?_
      refine wla rfl rfl (q_addI rfl rfl rfl) ?_
      refine wla rfl rfl (q_assign (v := (i64 ((wI (1 + (wI ((((UInt64.ofInt a0t) % (8 : UInt64))).toNat : Int))))))) rfl rfl) ?_
      refine wl_nil ?_
      refine W_th ?_
      refine W_seq ?_
      refine W_reg (by kernel_rfl) ?_
      refine wla rfl rfl (q_move (v := p1) rfl rfl) ?_
      refine wla rfl rfl (q_len rfl T22.sl rfl (hp1.lift (Lift.ext e2 _))) ?_
      refine wla rfl rfl (q_assign (v := (i64 ((a1secret.length : Int)))) rfl rfl) ?_
      refine wl_nil ?_
      refine W_th ?_
      refine W_seq ?_
      refine W_reg (by kernel_rfl) ?_
      refine wla rfl rfl (q_move (v := p2) rfl rfl) ?_
      refine wla rfl rfl (q_move (v := (i64 ((a1secret.length : Int)))) rfl rfl) ?_
      obtain ⟨r9, hr9, H⟩ := Option.bind_eq_some_iff.1 H
      refine wls rfl rfl (stp_call (vs := [p2, (i64 ((a1secret.length : Int)))]) Try.func18 rfl rfl rfl (ar2 rfl rfl) (law08_Made_calls a2other (a1secret.length : Int) p2 r9 _ (hp2.lift (Lift.ext e2 _)) hr9) ?_)
      rintro _ w9 ⟨v9, rfl, x9, n9_0, o9_0⟩
      refine ⟨_, rfl, ?_⟩
      have i9_0 : By w9 [] v9 r9 := OwK.slk (Sc.stab _) _ (OwK.scal o9_0 (v9 :: [])) (fun k hk => (Old.nil _) k (n9_0 k hk)) (fun _ h => h.2)
      have e10 := e2.trans x9
      refine wla rfl rfl (q_move (v := p3) rfl rfl) ?_
      refine wla rfl rfl (q_move (v := (i64 ((wI (1 + (wI ((((UInt64.ofInt a0t) % (8 : UInt64))).toNat : Int))))))) rfl rfl) ?_
      refine wla rfl rfl (q_subI rfl rfl rfl) ?_
      refine wla rfl rfl (q_move (v := (i64 ((a1secret.length : Int)))) rfl rfl) ?_
      refine wla rfl rfl (q_mulI rfl rfl rfl) ?_
      obtain ⟨r11, hr11, H⟩ := Option.bind_eq_some_iff.1 H
      refine wls rfl rfl (stp_call (vs := [p3, (i64 ((wI ((wI ((wI (1 + (wI ((((UInt64.ofInt a0t) % (8 : UInt64))).toNat : Int)))) - 1)) * (a1secret.length : Int)))))]) Try.func18 rfl rfl rfl (ar2 rfl rfl) (law08_Made_calls a3mask (wI ((wI ((wI (1 + (wI ((((UInt64.ofInt a0t) % (8 : UInt64))).toNat : Int)))) - 1)) * (a1secret.length : Int))) p3 r11 _ (hp3.lift (Lift.ext e10 _)) hr11) ?_)
      rintro _ w11 ⟨v11, rfl, x11, n11_0, o11_0⟩
      refine ⟨_, rfl, ?_⟩
      have i11_0 : By w11 [] v11 r11 := OwK.slk (Sc.stab _) _ (OwK.scal o11_0 (v11 :: [])) (fun k hk => (Old.nil _) k (n11_0 k hk)) (fun _ h => h.2)
      replace i9_0 := i9_0.lift (Lift.ext x11 _)
      have e12 := e10.trans x11
      refine wla rfl rfl (q_assign (v := v9) rfl rfl) ?_
      refine wla rfl rfl (q_assign (v := v11) rfl rfl) ?_
      refine wl_nil ?_
      refine W_th ?_
      refine W_seq ?_
      refine W_reg (by kernel_rfl) ?_
      refine wla rfl rfl (q_move (v := p4) rfl rfl) ?_
      refine wla rfl rfl (q_move (v := (i64 ((wI (1 + (wI ((((UInt64.ofInt a0t) % (8 : UInt64))).toNat : Int))))))) rfl rfl) ?_
      refine wla rfl rfl (q_subI rfl rfl rfl) ?_
      obtain ⟨r13, hr13, H⟩ := Option.bind_eq_some_iff.1 H
      refine wls rfl rfl (stp_call (vs := [p4, (i64 ((wI ((wI (1 + (wI ((((UInt64.ofInt a0t) % (8 : UInt64))).toNat : Int)))) - 1))))]) Try.func23 rfl rfl rfl (ar2 rfl rfl) (law08_Unlike_calls a4xs (wI ((wI (1 + (wI ((((UInt64.ofInt a0t) % (8 : UInt64))).toNat : Int)))) - 1)) p4 r13 _ (hp4.lift (Lift.ext e12 _)) hr13) ?_)
      rintro _ w13 ⟨v13, rfl, x13, n13_0, o13_0⟩
      refine ⟨_, rfl, ?_⟩
      have i13_0 : By w13 [] v13 r13 := OwK.slk (Sc.stab _) _ (OwK.scal o13_0 (v13 :: [])) (fun k hk => (Old.nil _) k (n13_0 k hk)) (fun _ h => h.2)
      replace i9_0 := i9_0.lift (Lift.ext x13 _)
      replace i11_0 := i11_0.lift (Lift.ext x13 _)
      have e14 := e12.trans x13
      refine wla rfl rfl (q_assign (v := v13) rfl rfl) ?_
      refine wl_nil ?_
      refine W_th ?_
      refine W_seq ?_
      refine W_reg (by kernel_rfl) ?_
      obtain ⟨r15, hr15, H⟩ := Option.bind_eq_some_iff.1 H
      refine wls rfl rfl (stp_call (vs := []) Try.func14 rfl rfl rfl (ar0 ) (field_New_calls   r15 _ [] (Old.nil _)  hr15) ?_)
      rintro _ w15 ⟨v15, rfl, x15, i15_0⟩
      refine ⟨_, rfl, ?_⟩
      replace i9_0 := i9_0.lift (Lift.ext x15 _)
      replace i11_0 := i11_0.lift (Lift.ext x15 _)
      replace i13_0 := i13_0.lift (Lift.ext x15 _)
      have e16 := e14.trans x15
      refine wla rfl rfl (q_assign (v := v15) rfl rfl) ?_
      refine wl_nil ?_
      refine W_th ?_
      refine W_seq ?_
      refine W_reg (by kernel_rfl) ?_
      refine wla rfl rfl (q_move (v := v15) rfl rfl) ?_
      refine wla rfl rfl (q_move (v := v13) rfl rfl) ?_
      obtain ⟨r17, hr17, H⟩ := Option.bind_eq_some_iff.1 H
      refine wls rfl rfl (stp_call (vs := [v15, v13]) Try.func26 rfl rfl rfl (ar2 rfl rfl) (poly_Vanish_calls r15 r13 v15 v13 r17 _ (i15_0.lift (Lift.sub (fun _ _ => trivial))) (i13_0.lift (Lift.sub (fun _ _ => trivial))) hr17) ?_)
      rintro _ w17 ⟨v17_0, rfl, x17, n17_0, o17_0⟩
      refine ⟨_, rfl, ?_⟩
      have i17_0 : By w17 [] v17_0 r17.1 := OwK.slk (Sc.stab _) _ (OwK.scal o17_0 (v17_0 :: [])) (fun k hk => (Old.nil _) k (n17_0 k hk)) (fun _ h => h.2)
      replace i9_0 := i9_0.lift (Lift.ext x17 _)
      replace i11_0 := i11_0.lift (Lift.ext x17 _)
      replace i13_0 := i13_0.lift (Lift.ext x17 _)
      replace i15_0 := i15_0.lift (Lift.ext x17 _)
      have e18 := e16.trans x17
      refine wla rfl rfl (q_move (v := (.tuple #[v17_0, (i64 r17.2)])) rfl rfl) ?_
      refine wla rfl rfl (q_extract rfl rfl rfl) ?_
      refine wla rfl rfl (q_extract rfl rfl rfl) ?_
      refine wla rfl rfl (q_assign (v := v17_0) rfl rfl) ?_
      refine wla rfl rfl (q_assign (v := (i64 r17.2)) rfl rfl) ?_
      refine wl_nil ?_
      refine W_th ?_
      refine W_seq ?_
      refine W_reg (by kernel_rfl) ?_
      refine wla rfl rfl (q_move (v := v15) rfl rfl) ?_
      refine wls rfl rfl (stp_lit (L := []) (R := (Sc u8)) [(u8 0)] ([(0 : UInt8)] : List UInt8) rfl T22 rfl (by exact ⟨rfl, (cst8 (0 : UInt8) rfl), trivial⟩) rfl (litC u8 (oneC_u8) (us := [(u8 0)]) (l := ([(0 : UInt8)] : List UInt8)) rfl) rfl (litS u8 (us := [(u8 0)]) (l := ([(0 : UInt8)] : List UInt8)) rfl) ?_)
      intro v19 w19 o19 n19 g19 l19
      have x19 := grown_ext g19
      replace i9_0 := i9_0.lift (Lift.call _ x19 n19)
      replace i11_0 := i11_0.lift (Lift.call _ x19 n19)
      replace i13_0 := i13_0.lift (Lift.call _ x19 n19)
      replace i15_0 := i15_0.lift (Lift.call _ x19 n19)
      replace i17_0 := i17_0.lift (Lift.call _ x19 n19)
      have n21 := Nw.ext e18 n19
      have e20 := e18.trans x19
      refine wla rfl rfl (q_move (v := v13) rfl rfl) ?_
      obtain ⟨c22, hc22, H⟩ := Option.bind_eq_some_iff.1 H
      refine wls rfl rfl (stp_append (R := (Sc u8)) (v := v19) (u := v13) (Sc.stab _) [] [] rfl T22 rfl rfl o19 i13_0 (fun _ _ h => h) hc22 oc_u8 ?_)
      intro v22 w22 o22 g22 nx22 l22
      replace i9_0 := i9_0.lift l22
      replace i11_0 := i11_0.lift l22
      replace i13_0 := i13_0.lift l22
      replace i15_0 := i15_0.lift l22
      replace i17_0 := i17_0.lift l22
      have e23 := e20.grown g22 n21
      have n24 := Nw.nxt e20 n21 nx22
      obtain ⟨r25, hr25, H⟩ := Option.bind_eq_some_iff.1 H
      refine wls rfl rfl (stp_call (vs := [v15, v22, (u8 0)]) Try.func27 rfl rfl rfl (ar3 rfl rfl (cst8 (0 : UInt8) rfl)) (poly_Weights_calls r15 c22 (0 : UInt8) v15 v22 r25 _ (i15_0.lift (Lift.sub (fun _ _ => trivial))) (o22.rd (Sc.stab _)) hr25) ?_)
      rintro _ w25 ⟨v25_0, rfl, x25, n25_0, o25_0⟩
      refine ⟨_, rfl, ?_⟩
      have i25_0 : By w25 [v22] v25_0 r25.1 := OwK.slk (Sc.stab _) _ (OwK.scal o25_0 (v25_0 :: [v22])) (fun k hk => (Old.cons (Old.nil _) o22.lt) k (n25_0 k hk)) (fun _ h => h.2)
      replace i9_0 := i9_0.lift (Lift.ext x25 _)
      replace i11_0 := i11_0.lift (Lift.ext x25 _)
      replace i13_0 := i13_0.lift (Lift.ext x25 _)
      replace i15_0 := i15_0.lift (Lift.ext x25 _)
      replace i17_0 := i17_0.lift (Lift.ext x25 _)
      replace o22 := o22.extL (Sc.stab _) x25 (Lift.ext x25 _)
      have e26 := e23.trans x25
      refine wla rfl rfl (q_move (v := (.tuple #[v25_0, (i64 r25.2)])) rfl rfl) ?_
      refine wla rfl rfl (q_extract rfl rfl rfl) ?_
      refine wla rfl rfl (q_extract rfl rfl rfl) ?_
      refine wla rfl rfl (q_assign (v := v25_0) rfl rfl) ?_
      refine wla rfl rfl (q_assign (v := (i64 r25.2)) rfl rfl) ?_
      refine wl_nil ?_
      refine W_th ?_
      refine W_seq ?_
      refine W_reg (by kernel_rfl) ?_
      refine wla rfl rfl (q_move (v := v15) rfl rfl) ?_
      refine wla rfl rfl (q_move (v := v17_0) rfl rfl) ?_
      obtain ⟨c27, hc27, H⟩ := Option.bind_eq_some_iff.1 H
      refine wla rfl rfl (q_adr rfl T22 rfl rfl i17_0 hc27) ?_
      refine wlq rfl rfl (q_loadS rfl T22 rfl i17_0 hc27) ?_
      obtain ⟨r28, hr28, H⟩ := Option.bind_eq_some_iff.1 H
      refine wls rfl rfl (stp_call (vs := [v15, (u8 c27)]) Try.func28 rfl rfl rfl (ar2 rfl rfl) (field_Inv_calls r15 c27 v15 r28 _ (i15_0.lift (Lift.sub (fun _ _ => trivial))) hr28) ?_)
      rintro _ w28 ⟨rfl, x28⟩
      refine ⟨_, rfl, ?_⟩
      replace i9_0 := i9_0.lift (Lift.ext x28 _)
      replace i11_0 := i11_0.lift (Lift.ext x28 _)
      replace i13_0 := i13_0.lift (Lift.ext x28 _)
      replace i15_0 := i15_0.lift (Lift.ext x28 _)
      replace i17_0 := i17_0.lift (Lift.ext x28 _)
      replace i25_0 := i25_0.lift (Lift.ext x28 _)
      replace o22 := o22.extL (Sc.stab _) x28 (Lift.ext x28 _)
      have e29 := e26.trans x28
      refine wla rfl rfl (q_move (v := (.tuple #[(u8 r28.1), (i64 r28.2)])) rfl rfl) ?_
      refine wla rfl rfl (q_extract rfl rfl rfl) ?_
      refine wla rfl rfl (q_extract rfl rfl rfl) ?_
      refine wla rfl rfl (q_assign (v := (u8 r28.1)) rfl rfl) ?_
      refine wla rfl rfl (q_assign (v := (i64 r28.2)) rfl rfl) ?_
      refine wl_nil ?_
      refine W_th ?_
      refine W_seq ?_
      refine W_seq ?_
      refine W_reg (by kernel_rfl) ?_
      refine wla rfl rfl (q_move (v := (i64 r28.2)) rfl rfl) ?_
      refine wla rfl rfl (q_neI rfl rfl rfl) ?_
      refine wlb rfl rfl (q_move (v := (.bool ((!decide (r28.2 = 0))))) rfl rfl) (fun hb30 => ?_) (fun hb30 => ?_)
      · replace H := (if_neg (ndec_t hb30)).symm.trans H
        refine wlk rfl rfl ?_
        refine wlk rfl rfl ?_
        refine wlk rfl rfl ?_
        refine wlk rfl rfl ?_
        refine wla rfl rfl (q_pick_t (v := (.bool true)) rfl rfl rfl) ?_
        refine wl_nil ?_
        refine W_th ?_
        refine W_cond true rfl rfl (fun _ => ?_) (fun hb => by cases hb)
        refine W_seq ?_
        refine W_reg (by kernel_rfl) ?_
        refine wla rfl rfl (q_assign (v := (.bool false)) rfl rfl) ?_
        refine wl_nil ?_
        refine W_th ?_
        refine W_ret ?_
        refine th_r ?_
        obtain rfl := Option.some.inj H
        refine rt1 (.bool false) rfl rfl rfl rfl ?_
        exact ⟨rfl, e29⟩
      · replace H := (if_pos (ndec_f hb30)).symm.trans H
        refine wla rfl rfl (q_move (v := v25_0) rfl rfl) ?_
        refine wla rfl rfl (q_len rfl T22.sl rfl i25_0) ?_
        refine wla rfl rfl (q_move (v := (i64 ((wI (1 + (wI ((((UInt64.ofInt a0t) % (8 : UInt64))).toNat : Int))))))) rfl rfl) ?_
        refine wla rfl rfl (q_neI rfl rfl rfl) ?_
        refine wla rfl rfl (q_pick_f (v := (.bool ((!decide ((r25.1.length : Int) = (wI (1 + (wI ((((UInt64.ofInt a0t) % (8 : UInt64))).toNat : Int))))))))) rfl rfl rfl) ?_
        refine wl_nil ?_
        refine W_th ?_
        refine W_cond _ rfl rfl (fun hb31 => ?_) (fun hb31 => ?_)
        · replace H := (if_neg (ndec_t hb31)).symm.trans H
          refine W_seq ?_
          refine W_reg (by kernel_rfl) ?_
          refine wla rfl rfl (q_assign (v := (.bool false)) rfl rfl) ?_
          refine wl_nil ?_
          refine W_th ?_
          refine W_ret ?_
          refine th_r ?_
          obtain rfl := Option.some.inj H
          refine rt1 (.bool false) rfl rfl rfl rfl ?_
          exact ⟨rfl, e29⟩
        · replace H := (if_pos (ndec_f hb31)).symm.trans H
          refine W_skip ?_
          refine W_th ?_
          refine W_seq ?_
          refine W_reg (by kernel_rfl) ?_
          refine wls rfl rfl (stp_lit (L := [v22]) (R := (Sc u8)) [] ([] : List UInt8) rfl T22 rfl (by exact trivial) rfl (litC u8 (oneC_u8) (us := []) (l := ([] : List UInt8)) rfl) rfl (litS u8 (us := []) (l := ([] : List UInt8)) rfl) ?_)
          intro v32 w32 o32 n32 g32 l32
          have x32 := grown_ext g32
          have q33 : Nq v22 v32 := o22.nq n32
          replace i9_0 := i9_0.lift (Lift.call _ x32 n32)
          replace i11_0 := i11_0.lift (Lift.call _ x32 n32)
          replace i13_0 := i13_0.lift (Lift.call _ x32 n32)
          replace i15_0 := i15_0.lift (Lift.call _ x32 n32)
          replace i17_0 := i17_0.lift (Lift.call _ x32 n32)
          replace i25_0 := i25_0.lift (Lift.call _ x32 n32)
          replace o22 := o22.extL (Sc.stab _) x32 (Lift.call _ x32 n32)
          have n35 := Nw.ext e29 n32
          have e34 := e29.trans x32
          refine wla rfl rfl (q_move (v := v11) rfl rfl) ?_
          obtain ⟨c36, hc36, H⟩ := Option.bind_eq_some_iff.1 H
          refine wls rfl rfl (stp_append (R := (Sc u8)) (v := v32) (u := v11) (Sc.stab _) [] [v22] rfl T22 rfl rfl o32 i11_0 (fun _ _ h => h) hc36 oc_u8 ?_)
          intro v36 w36 o36 g36 nx36 l36
          replace i9_0 := i9_0.lift l36
          replace i11_0 := i11_0.lift l36
          replace i13_0 := i13_0.lift l36
          replace i15_0 := i15_0.lift l36
          replace i17_0 := i17_0.lift l36
          replace i25_0 := i25_0.lift l36
          have q37 : Nq v22 v36 := o22.nxt q33 nx36
          replace o22 := o22.other (Sc.stab _) g36 q33 l36
          have e38 := e34.grown g36 n35
          have n39 := Nw.nxt e34 n35 nx36
          refine wla rfl rfl (q_assign (v := v36) rfl rfl) ?_
          refine wl_nil ?_
          refine W_th ?_
          refine W_seq ?_
          refine W_seq ?_
          refine W_reg (by kernel_rfl) ?_
          refine wla rfl rfl (q_move (v := (i64 ((a1secret.length : Int)))) rfl rfl) ?_
          refine wla rfl rfl (q_move (v := (i64 0)) rfl rfl) ?_
          refine wl_nil ?_
          refine W_th ?_
          obtain ⟨x40, G40, H⟩ := Option.bind_eq_some_iff.1 H
          refine W_mid (fun f w => f 0 = (i64 ((wI (1 + (wI ((((UInt64.ofInt a0t) % (8 : UInt64))).toNat : Int)))))) ∧ f 1 = p1 ∧ f 2 = v9 ∧ f 3 = v11 ∧ f 5 = (i64 a5bent) ∧ f 14 = v13 ∧ f 15 = v15 ∧ f 22 = v36 ∧ f 230 = undef ∧ Ext w0 w ∧ OwK (Sc u8) w [v36] 5 v36 x40 ∧ Nw w0 v36 ∧ By w [v36] v9 r9 ∧ By w [v36] v11 r11 ∧ By w [v36] v13 r13 ∧ Fd w [v36] v15 r15) ?_ ?_
          · refine W_block ?_
            refine W_loop (fun s40 f w => f 0 = (i64 ((wI (1 + (wI ((((UInt64.ofInt a0t) % (8 : UInt64))).toNat : Int)))))) ∧ f 1 = p1 ∧ f 2 = v9 ∧ f 3 = v11 ∧ f 5 = (i64 a5bent) ∧ f 13 = (i64 ((a1secret.length : Int))) ∧ f 14 = v13 ∧ f 15 = v15 ∧ f 16 = v17_0 ∧ f 20 = (u8 r28.1) ∧ f 22 = v36 ∧ f 96 = (i64 ((a1secret.length : Int))) ∧ f 97 = (i64 s40.2) ∧ f 230 = undef ∧ Ext w0 w ∧ OwK (Sc u8) w [v36] 5 v36 s40.1 ∧ Nw w0 v36 ∧ By w [v36] v9 r9 ∧ By w [v36] v11 r11 ∧ By w [v36] v13 r13 ∧ Fd w [v36] v15 r15 ∧ By w [v36] v17_0 r17.1) G40 ?_ ?_
            · exact ⟨rfl, rfl, rfl, rfl, rfl, rfl, rfl, rfl, rfl, rfl, rfl, rfl, rfl, rfl, e38, (o36.weak (Sc.stab _) (fun _ h => ⟨h.1, trivial⟩)), n39, (i9_0.lift (Lift.sub (fun _ h => ⟨h.1, trivial⟩))), (i11_0.lift (Lift.sub (fun _ h => ⟨h.1, trivial⟩))), (i13_0.lift (Lift.sub (fun _ h => ⟨h.1, trivial⟩))), (i15_0.lift (Lift.sub (fun _ h => ⟨h.1, trivial⟩))), (i17_0.lift (Lift.sub (fun _ h => ⟨h.1, trivial⟩)))⟩
            · rintro s40 _ _ w41 ⟨s0_41, s1_41, s2_41, s3_41, s5_41, s13_41, s14_41, s15_41, s16_41, s20_41, s22_41, s96_41, s97_41, s230_41, hE41, o0_41, n0_41, i0_41, i1_41, i2_41, i3_41, i4_41⟩ H40 hr40
              refine W_seq ?_
              refine W_reg (by kernel_rfl) ?_
              refine wla rfl rfl (q_ltI rfl s97_41 s96_41) ?_
              refine wl_nil ?_
              refine W_th ?_
              refine W_seq ?_
              refine W_cond _ rfl rfl (fun hb42 => ?_) (fun hb42 => ?_)
              · replace H40 := (if_pos (of_decide_eq_true hb42)).symm.trans H40
                refine W_skip ?_
                refine W_th ?_
                refine W_seq ?_
                refine W_block ?_
                refine W_seq ?_
                refine W_reg (by kernel_rfl) ?_
                refine wla rfl rfl (q_move (v := (i64 s40.2)) rfl s97_41) ?_
                refine wla rfl rfl (q_assign (v := (i64 s40.2)) rfl rfl) ?_
                refine wl_nil ?_
                refine W_th ?_
                refine W_seq ?_
                refine W_draw [5, 9] [(0, 0), (1, 0), (2, 0), (3, 0), (4, 0), (5, 1), (6, 0), (7, 0), (8, 0), (9, 1), (10, 0), (11, 2), (12, 0)] mixed (by kernel_rfl) (by kernel_rfl) (by kernel_rfl) (by kernel_rfl) ?_
                have x43 := Ext.drew w41
                replace i0_41 := i0_41.lift (Lift.ext x43 _)
                replace i1_41 := i1_41.lift (Lift.ext x43 _)
                replace i2_41 := i2_41.lift (Lift.ext x43 _)
                replace i3_41 := i3_41.lift (Lift.ext x43 _)
                replace i4_41 := i4_41.lift (Lift.ext x43 _)
                replace o0_41 := o0_41.extL (Sc.stab _) x43 (Lift.ext x43 _)
                have e44 := hE41.trans x43
                refine wsa rfl rfl rfl (q_move (v := v15) rfl s15_41) ?_
                refine wsa rfl rfl rfl (q_move (v := (u8 r28.1)) rfl s20_41) ?_
                refine wsa rfl rfl rfl (q_move (v := p1) rfl s1_41) ?_
                refine wsa rfl rfl rfl (q_move (v := (i64 s40.2)) rfl rfl) ?_
                obtain ⟨c45, hc45, H40⟩ := Option.bind_eq_some_iff.1 H40
                refine wsa rfl rfl rfl (q_adr rfl T22 rfl rfl (hp1.lift (Lift.ext e44 _)) hc45) ?_
                refine wsq rfl rfl rfl (q_loadS rfl T22 rfl (hp1.lift (Lift.ext e44 _)) hc45) ?_
                refine wsa rfl rfl rfl (q_move (v := v9) rfl s2_41) ?_
                refine wsa rfl rfl rfl (q_move (v := (i64 s40.2)) rfl rfl) ?_
                obtain ⟨c46, hc46, H40⟩ := Option.bind_eq_some_iff.1 H40
                refine wsa rfl rfl rfl (q_adr rfl T22 rfl rfl i0_41 hc46) ?_
                refine wsq rfl rfl rfl (q_loadS rfl T22 rfl i0_41 hc46) ?_
                refine wsa rfl rfl rfl (q_xor8 rfl rfl rfl) ?_
                obtain ⟨r47, hr47, H40⟩ := Option.bind_eq_some_iff.1 H40
                refine wsc rfl (by kernel_rfl) rfl rfl (stp_call (vs := [v15, (u8 r28.1), (u8 ((c45 ^^^ c46)))]) Try.func29 rfl rfl rfl (ar3 rfl rfl rfl) (field_Mul_calls r15 r28.1 (c45 ^^^ c46) v15 r47 _ (i3_41.lift (Lift.sub (fun _ _ => trivial))) hr47) ?_)
                rintro _ w47 ⟨rfl, x47⟩
                refine ⟨_, rfl, ?_⟩
                replace i0_41 := i0_41.lift (Lift.ext x47 _)
                replace i1_41 := i1_41.lift (Lift.ext x47 _)
                replace i2_41 := i2_41.lift (Lift.ext x47 _)
                replace i3_41 := i3_41.lift (Lift.ext x47 _)
                replace i4_41 := i4_41.lift (Lift.ext x47 _)
                replace o0_41 := o0_41.extL (Sc.stab _) x47 (Lift.ext x47 _)
                have e48 := e44.trans x47
                refine wsa rfl rfl rfl (q_assign (v := (u8 r47)) rfl rfl) ?_
                refine ws_nil ?_
                refine W_th ?_
                refine W_seq ?_
                refine W_reg (by kernel_rfl) ?_
                refine wla rfl rfl (q_assign (v := (i64 1)) rfl rfl) ?_
                refine wl_nil ?_
                refine W_th ?_
                obtain ⟨x49, G49, H40⟩ := Option.bind_eq_some_iff.1 H40
                refine W_mid (fun f w => f 0 = (i64 ((wI (1 + (wI ((((UInt64.ofInt a0t) % (8 : UInt64))).toNat : Int)))))) ∧ f 1 = p1 ∧ f 2 = v9 ∧ f 3 = v11 ∧ f 5 = (i64 a5bent) ∧ f 13 = (i64 ((a1secret.length : Int))) ∧ f 14 = v13 ∧ f 15 = v15 ∧ f 16 = v17_0 ∧ f 20 = (u8 r28.1) ∧ f 22 = v36 ∧ f 96 = (i64 ((a1secret.length : Int))) ∧ f 97 = (i64 s40.2) ∧ f 230 = undef ∧ Ext w0 w ∧ OwK (Sc u8) w [v36] 5 v36 x49 ∧ Nw w0 v36 ∧ By w [v36] v9 r9 ∧ By w [v36] v11 r11 ∧ By w [v36] v13 r13 ∧ Fd w [v36] v15 r15 ∧ By w [v36] v17_0 r17.1) ?_ ?_
                · refine W_block ?_
                  refine W_loop (fun s49 f w => f 0 = (i64 ((wI (1 + (wI ((((UInt64.ofInt a0t) % (8 : UInt64))).toNat : Int)))))) ∧ f 1 = p1 ∧ f 2 = v9 ∧ f 3 = v11 ∧ f 5 = (i64 a5bent) ∧ f 13 = (i64 ((a1secret.length : Int))) ∧ f 14 = v13 ∧ f 15 = v15 ∧ f 16 = v17_0 ∧ f 20 = (u8 r28.1) ∧ f 22 = v36 ∧ f 23 = (i64 s40.2) ∧ f 24 = (u8 r47) ∧ f 25 = (i64 s49.2) ∧ f 96 = (i64 ((a1secret.length : Int))) ∧ f 97 = (i64 s40.2) ∧ f 230 = undef ∧ Ext w0 w ∧ OwK (Sc u8) w [v36] 5 v36 s49.1 ∧ Nw w0 v36 ∧ By w [v36] v9 r9 ∧ By w [v36] v11 r11 ∧ By w [v36] v13 r13 ∧ Fd w [v36] v15 r15 ∧ By w [v36] v17_0 r17.1) G49 ?_ ?_
                  · exact ⟨s0_41, s1_41, s2_41, s3_41, s5_41, s13_41, s14_41, s15_41, s16_41, s20_41, s22_41, rfl, rfl, rfl, s96_41, s97_41, s230_41, e48, o0_41, n0_41, i0_41, i1_41, i2_41, i3_41, i4_41⟩
                  · rintro s49 _ _ w50 ⟨s0_50, s1_50, s2_50, s3_50, s5_50, s13_50, s14_50, s15_50, s16_50, s20_50, s22_50, s23_50, s24_50, s25_50, s96_50, s97_50, s230_50, hE50, o0_50, n0_50, i0_50, i1_50, i2_50, i3_50, i4_50⟩ H49 hr49
                    refine W_seq ?_
                    refine W_seq ?_
                    refine W_reg (by kernel_rfl) ?_
                    refine wla rfl rfl (q_move (v := (i64 s49.2)) rfl s25_50) ?_
                    refine wla rfl rfl (q_move (v := (i64 ((wI (1 + (wI ((((UInt64.ofInt a0t) % (8 : UInt64))).toNat : Int))))))) rfl s0_50) ?_
                    refine wla rfl rfl (q_ltI rfl rfl rfl) ?_
                    refine wl_nil ?_
                    refine W_th ?_
                    refine W_cond _ rfl rfl (fun hb51 => ?_) (fun hb51 => ?_)
                    · replace H49 := (if_pos (of_decide_eq_true hb51)).symm.trans H49
                      refine W_skip ?_
                      refine W_th ?_
                      refine W_seq ?_
                      refine W_block ?_
                      refine W_draw [8, 14] [(0, 0), (1, 0), (2, 0), (3, 0), (4, 0), (5, 0), (6, 0), (7, 0), (8, 1), (9, 0), (10, 0), (11, 0), (12, 0), (13, 0), (14, 1), (15, 2), (16, 0), (17, 0), (18, 2)] mixed (by kernel_rfl) (by kernel_rfl) (by kernel_rfl) (by kernel_rfl) ?_
                      have x52 := Ext.drew w50
                      replace i0_50 := i0_50.lift (Lift.ext x52 _)
                      replace i1_50 := i1_50.lift (Lift.ext x52 _)
                      replace i2_50 := i2_50.lift (Lift.ext x52 _)
                      replace i3_50 := i3_50.lift (Lift.ext x52 _)
                      replace i4_50 := i4_50.lift (Lift.ext x52 _)
                      replace o0_50 := o0_50.extL (Sc.stab _) x52 (Lift.ext x52 _)
                      have e53 := hE50.trans x52
                      refine wsa rfl rfl rfl (q_move (v := v36) rfl s22_50) ?_
                      refine wsa rfl rfl rfl (q_move (v := (i64 s49.2)) rfl s25_50) ?_
                      refine wsa rfl rfl rfl (q_subI rfl rfl rfl) ?_
                      refine wsa rfl rfl rfl (q_move (v := (i64 ((a1secret.length : Int)))) rfl s13_50) ?_
                      refine wsa rfl rfl rfl (q_mulI rfl rfl rfl) ?_
                      refine wsa rfl rfl rfl (q_move (v := (i64 s40.2)) rfl s23_50) ?_
                      refine wsa rfl rfl rfl (q_addI rfl rfl rfl) ?_
                      obtain ⟨c54, hc54, H49⟩ := Option.bind_eq_some_iff.1 H49
                      refine wsa rfl rfl rfl (q_adr rfl T22 rfl rfl (o0_50.rd (Sc.stab _)) hc54) ?_
                      refine wsq rfl rfl rfl (q_loadS rfl T22 rfl (o0_50.rd (Sc.stab _)) hc54) ?_
                      refine wsa rfl rfl rfl (q_move (v := v15) rfl s15_50) ?_
                      refine wsa rfl rfl rfl (q_move (v := (u8 r47)) rfl s24_50) ?_
                      refine wsa rfl rfl rfl (q_move (v := v17_0) rfl s16_50) ?_
                      refine wsa rfl rfl rfl (q_move (v := (i64 s49.2)) rfl s25_50) ?_
                      obtain ⟨c55, hc55, H49⟩ := Option.bind_eq_some_iff.1 H49
                      refine wsa rfl rfl rfl (q_adr rfl T22 rfl rfl i4_50 hc55) ?_
                      refine wsq rfl rfl rfl (q_loadS rfl T22 rfl i4_50 hc55) ?_
                      obtain ⟨r56, hr56, H49⟩ := Option.bind_eq_some_iff.1 H49
                      refine wss rfl rfl rfl (stp_call (vs := [v15, (u8 r47), (u8 c55)]) Try.func29 rfl rfl rfl (ar3 rfl rfl rfl) (field_Mul_calls r15 r47 c55 v15 r56 _ (i3_50.lift (Lift.sub (fun _ _ => trivial))) hr56) ?_)
                      rintro _ w56 ⟨rfl, x56⟩
                      refine ⟨_, rfl, x56, ?_⟩
                      replace i0_50 := i0_50.lift (Lift.ext x56 _)
                      replace i1_50 := i1_50.lift (Lift.ext x56 _)
                      replace i2_50 := i2_50.lift (Lift.ext x56 _)
                      replace i3_50 := i3_50.lift (Lift.ext x56 _)
                      replace i4_50 := i4_50.lift (Lift.ext x56 _)
                      replace o0_50 := o0_50.extL (Sc.stab _) x56 (Lift.ext x56 _)
                      have e57 := e53.trans x56
                      refine wsa rfl rfl rfl (q_xor8 rfl rfl rfl) ?_
                      refine wsa rfl rfl rfl (q_adr rfl T22 rfl rfl (o0_50.rd (Sc.stab _)) hc54) ?_
                      refine wsn rfl (by kernel_rfl) rfl rfl (stp_store (R := (Sc u8)) (u := (u8 ((c54 ^^^ r56)))) (Sc.stab _) [] [] rfl T22 rfl rfl o0_50 (put_of ((c54 ^^^ r56)) hc54) rfl rfl ?_)
                      intro w58 o58 g58 l58
                      replace i0_50 := i0_50.lift l58
                      replace i1_50 := i1_50.lift l58
                      replace i2_50 := i2_50.lift l58
                      replace i3_50 := i3_50.lift l58
                      replace i4_50 := i4_50.lift l58
                      have e59 := e57.grown g58 n0_50
                      refine ws_nil ?_
                      refine bk_n ?_
                      refine W_th ?_
                      refine W_reg (by kernel_rfl) ?_
                      refine wla rfl rfl (q_move (v := (i64 s49.2)) rfl s25_50) ?_
                      refine wla rfl rfl (q_addI rfl rfl rfl) ?_
                      refine wla rfl rfl (q_assign (v := (i64 ((wI (s49.2 + 1))))) rfl rfl) ?_
                      refine wl_nil ?_
                      obtain rfl := Option.some.inj H49
                      exact ⟨_, rfl, s0_50, s1_50, s2_50, s3_50, s5_50, s13_50, s14_50, s15_50, s16_50, s20_50, s22_50, s23_50, s24_50, rfl, s96_50, s97_50, s230_50, e59, o58, n0_50, i0_50, i1_50, i2_50, i3_50, i4_50⟩
                    · replace H49 := (if_neg (of_decide_eq_false hb51)).symm.trans H49
                      refine W_exit ?_
                      refine th_x ?_
                      obtain rfl := Option.some.inj H49
                      obtain rfl := hr49 _ rfl
                      refine th_x ?_
                      refine bk_x ?_
                      exact ⟨s0_50, s1_50, s2_50, s3_50, s5_50, s13_50, s14_50, s15_50, s16_50, s20_50, s22_50, s96_50, s97_50, s230_50, hE50, o0_50, n0_50, i0_50, i1_50, i2_50, i3_50, i4_50⟩
                · rintro _ w61 ⟨s0_61, s1_61, s2_61, s3_61, s5_61, s13_61, s14_61, s15_61, s16_61, s20_61, s22_61, s96_61, s97_61, s230_61, hE61, o0_61, n0_61, i0_61, i1_61, i2_61, i3_61, i4_61⟩
                  refine bk_n ?_
                  refine W_th ?_
                  refine W_reg (by kernel_rfl) ?_
                  refine wla rfl rfl (q_addI rfl s97_61 rfl) ?_
                  refine wla rfl rfl (q_move (v := (i64 ((wI (s40.2 + 1))))) rfl rfl) ?_
                  refine wl_nil ?_
                  obtain rfl := Option.some.inj H40
                  exact ⟨_, rfl, s0_61, s1_61, s2_61, s3_61, s5_61, s13_61, s14_61, s15_61, s16_61, s20_61, s22_61, s96_61, rfl, s230_61, hE61, o0_61, n0_61, i0_61, i1_61, i2_61, i3_61, i4_61⟩
              · replace H40 := (if_neg (of_decide_eq_false hb42)).symm.trans H40
                refine W_exit ?_
                refine th_x ?_
                obtain rfl := Option.some.inj H40
                obtain rfl := hr40 _ rfl
                refine th_x ?_
                refine bk_x ?_
                exact ⟨s0_41, s1_41, s2_41, s3_41, s5_41, s14_41, s15_41, s22_41, s230_41, hE41, o0_41, n0_41, i0_41, i1_41, i2_41, i3_41⟩
          · rintro _ w64 ⟨s0_64, s1_64, s2_64, s3_64, s5_64, s14_64, s15_64, s22_64, s230_64, hE64, o0_64, n0_64, i0_64, i1_64, i2_64, i3_64⟩
            refine W_th ?_
            refine W_seq ?_
            refine W_reg (by kernel_rfl) ?_
            refine wla rfl rfl (q_move (v := v15) rfl s15_64) ?_
            refine wla rfl rfl (q_move (v := (i64 ((wI (1 + (wI ((((UInt64.ofInt a0t) % (8 : UInt64))).toNat : Int))))))) rfl s0_64) ?_
            refine wla rfl rfl (q_move (v := p1) rfl s1_64) ?_
            refine wla rfl rfl (q_move (v := v11) rfl s3_64) ?_
            refine wla rfl rfl (q_move (v := v13) rfl s14_64) ?_
            obtain ⟨r65, hr65, H⟩ := Option.bind_eq_some_iff.1 H
            refine wls rfl rfl (stp_call (vs := [v15, (i64 ((wI (1 + (wI ((((UInt64.ofInt a0t) % (8 : UInt64))).toNat : Int)))))), p1, v11, v13]) Try.func19 rfl rfl rfl (ar5 rfl rfl rfl rfl rfl) (shamir_Split_calls r15 (wI (1 + (wI ((((UInt64.ofInt a0t) % (8 : UInt64))).toNat : Int)))) a1secret r11 r13 v15 p1 v11 v13 r65 _ [v36] (Old.cons (Old.nil _) o0_64.lt) (i3_64.lift (Lift.sub (fun _ _ => trivial))) (hp1.lift (Lift.ext hE64 _)) (i1_64.lift (Lift.sub (fun _ _ => trivial))) (i2_64.lift (Lift.sub (fun _ _ => trivial))) hr65) ?_)
            rintro _ w65 ⟨v65_0, rfl, x65, n65_0, o65_0⟩
            refine ⟨_, rfl, ?_⟩
            have i65_0 : Rw w65 [v36] v65_0 r65.1 := OwK.slk (SlK.stab (Sc.stab _)) _ o65_0 (fun k hk => (Old.cons (Old.nil _) o0_64.lt) k (n65_0 k hk)) (fun _ h => h.2)
            replace i0_64 := i0_64.lift (Lift.ext x65 _)
            replace i1_64 := i1_64.lift (Lift.ext x65 _)
            replace i2_64 := i2_64.lift (Lift.ext x65 _)
            replace i3_64 := i3_64.lift (Lift.ext x65 _)
            replace o0_64 := o0_64.extL (Sc.stab _) x65 (Lift.ext x65 _)
            have e66 := hE64.trans x65
            refine wla rfl rfl (q_move (v := (.tuple #[v65_0, (i64 r65.2)])) rfl rfl) ?_
            refine wla rfl rfl (q_extract rfl rfl rfl) ?_
            refine wla rfl rfl (q_extract rfl rfl rfl) ?_
            refine wla rfl rfl (q_assign (v := v65_0) rfl rfl) ?_
            refine wla rfl rfl (q_assign (v := (i64 r65.2)) rfl rfl) ?_
            refine wl_nil ?_
            refine W_th ?_
            refine W_seq ?_
            refine W_reg (by kernel_rfl) ?_
            refine wla rfl rfl (q_move (v := v15) rfl s15_64) ?_
            refine wla rfl rfl (q_move (v := (i64 ((wI (1 + (wI ((((UInt64.ofInt a0t) % (8 : UInt64))).toNat : Int))))))) rfl s0_64) ?_
            refine wla rfl rfl (q_move (v := v9) rfl s2_64) ?_
            refine wla rfl rfl (q_move (v := v36) rfl s22_64) ?_
            refine wla rfl rfl (q_move (v := v13) rfl s14_64) ?_
            obtain ⟨r67, hr67, H⟩ := Option.bind_eq_some_iff.1 H
            refine wls rfl rfl (stp_call (vs := [v15, (i64 ((wI (1 + (wI ((((UInt64.ofInt a0t) % (8 : UInt64))).toNat : Int)))))), v9, v36, v13]) Try.func19 rfl rfl rfl (ar5 rfl rfl rfl rfl rfl) (shamir_Split_calls r15 (wI (1 + (wI ((((UInt64.ofInt a0t) % (8 : UInt64))).toNat : Int)))) r9 x40 r13 v15 v9 v36 v13 r67 _ [v36] (Old.cons (Old.nil _) o0_64.lt) (i3_64.lift (Lift.sub (fun _ _ => trivial))) (i0_64.lift (Lift.sub (fun _ _ => trivial))) (o0_64.rd (Sc.stab _)) (i2_64.lift (Lift.sub (fun _ _ => trivial))) hr67) ?_)
            rintro _ w67 ⟨v67_0, rfl, x67, n67_0, o67_0⟩
            refine ⟨_, rfl, ?_⟩
            have i67_0 : Rw w67 [v36] v67_0 r67.1 := OwK.slk (SlK.stab (Sc.stab _)) _ o67_0 (fun k hk => (Old.cons (Old.nil _) o0_64.lt) k (n67_0 k hk)) (fun _ h => h.2)
            replace i0_64 := i0_64.lift (Lift.ext x67 _)
            replace i1_64 := i1_64.lift (Lift.ext x67 _)
            replace i2_64 := i2_64.lift (Lift.ext x67 _)
            replace i3_64 := i3_64.lift (Lift.ext x67 _)
            replace i65_0 := i65_0.lift (Lift.ext x67 _)
            replace o0_64 := o0_64.extL (Sc.stab _) x67 (Lift.ext x67 _)
            have e68 := e66.trans x67
            refine wla rfl rfl (q_move (v := (.tuple #[v67_0, (i64 r67.2)])) rfl rfl) ?_
            refine wla rfl rfl (q_extract rfl rfl rfl) ?_
            refine wla rfl rfl (q_extract rfl rfl rfl) ?_
            refine wla rfl rfl (q_assign (v := v67_0) rfl rfl) ?_
            refine wla rfl rfl (q_assign (v := (i64 r67.2)) rfl rfl) ?_
            refine wl_nil ?_
            refine W_th ?_
            refine W_seq ?_
            refine W_seq ?_
            refine W_reg (by kernel_rfl) ?_
            refine wla rfl rfl (q_move (v := (i64 r65.2)) rfl rfl) ?_
            refine wla rfl rfl (q_neI rfl rfl rfl) ?_
            refine wlb rfl rfl (q_move (v := (.bool ((!decide (r65.2 = 0))))) rfl rfl) (fun hb69 => ?_) (fun hb69 => ?_)
            · replace H := (if_neg (ndec_t hb69)).symm.trans H
              refine wlk rfl rfl ?_
              refine wlk rfl rfl ?_
              refine wla rfl rfl (q_pick_t (v := (.bool true)) rfl rfl rfl) ?_
              refine wla rfl rfl (q_move (v := (.bool true)) rfl rfl) ?_
              refine wlk rfl rfl ?_
              refine wlk rfl rfl ?_
              refine wlk rfl rfl ?_
              refine wlk rfl rfl ?_
              refine wlk rfl rfl ?_
              refine wla rfl rfl (q_pick_t (v := (.bool true)) rfl rfl rfl) ?_
              refine wl_nil ?_
              refine W_th ?_
              refine W_cond true rfl rfl (fun _ => ?_) (fun hb => by cases hb)
              refine W_seq ?_
              refine W_reg (by kernel_rfl) ?_
              refine wla rfl rfl (q_assign (v := (.bool false)) rfl rfl) ?_
              refine wl_nil ?_
              refine W_th ?_
              refine W_ret ?_
              refine th_r ?_
              obtain rfl := Option.some.inj H
              refine rt1 (.bool false) rfl rfl rfl s230_64 ?_
              exact ⟨rfl, e68⟩
            · replace H := (if_pos (ndec_f hb69)).symm.trans H
              refine wla rfl rfl (q_move (v := (i64 r67.2)) rfl rfl) ?_
              refine wla rfl rfl (q_neI rfl rfl rfl) ?_
              refine wla rfl rfl (q_pick_f (v := (.bool ((!decide (r67.2 = 0))))) rfl rfl rfl) ?_
              refine wlb rfl rfl (q_move (v := (.bool ((!decide (r67.2 = 0))))) rfl rfl) (fun hb70 => ?_) (fun hb70 => ?_)
              · replace H := (if_neg (ndec_t hb70)).symm.trans H
                refine wlk rfl rfl ?_
                refine wlk rfl rfl ?_
                refine wlk rfl rfl ?_
                refine wlk rfl rfl ?_
                refine wlk rfl rfl ?_
                refine wla rfl rfl (q_pick_t (v := (.bool true)) rfl rfl rfl) ?_
                refine wl_nil ?_
                refine W_th ?_
                refine W_cond true rfl rfl (fun _ => ?_) (fun hb => by cases hb)
                refine W_seq ?_
                refine W_reg (by kernel_rfl) ?_
                refine wla rfl rfl (q_assign (v := (.bool false)) rfl rfl) ?_
                refine wl_nil ?_
                refine W_th ?_
                refine W_ret ?_
                refine th_r ?_
                obtain rfl := Option.some.inj H
                refine rt1 (.bool false) rfl rfl rfl s230_64 ?_
                exact ⟨rfl, e68⟩
              · replace H := (if_pos (ndec_f hb70)).symm.trans H
                refine wla rfl rfl (q_move (v := v65_0) rfl rfl) ?_
                refine wla rfl rfl (q_len rfl T23.sl rfl i65_0) ?_
                refine wla rfl rfl (q_move (v := v67_0) rfl rfl) ?_
                refine wla rfl rfl (q_len rfl T23.sl rfl i67_0) ?_
                refine wla rfl rfl (q_neI rfl rfl rfl) ?_
                refine wla rfl rfl (q_pick_f (v := (.bool ((!decide ((r65.1.length : Int) = (r67.1.length : Int)))))) rfl rfl rfl) ?_
                refine wl_nil ?_
                refine W_th ?_
                refine W_cond _ rfl rfl (fun hb71 => ?_) (fun hb71 => ?_)
                · replace H := (if_neg (ndec_t hb71)).symm.trans H
                  refine W_seq ?_
                  refine W_reg (by kernel_rfl) ?_
                  refine wla rfl rfl (q_assign (v := (.bool false)) rfl rfl) ?_
                  refine wl_nil ?_
                  refine W_th ?_
                  refine W_ret ?_
                  refine th_r ?_
                  obtain rfl := Option.some.inj H
                  refine rt1 (.bool false) rfl rfl rfl s230_64 ?_
                  exact ⟨rfl, e68⟩
                · replace H := (if_pos (ndec_f hb71)).symm.trans H
                  refine W_skip ?_
                  refine W_th ?_
                  refine W_seq ?_
                  refine W_seq ?_
                  refine W_reg (by kernel_rfl) ?_
                  refine wla rfl rfl (q_move (v := v65_0) rfl rfl) ?_
                  refine wla rfl rfl (q_len rfl T23.sl rfl i65_0) ?_
                  refine wla rfl rfl (q_move (v := (i64 0)) rfl rfl) ?_
                  refine wl_nil ?_
                  refine W_th ?_
                  obtain ⟨x72, G72, H⟩ := Option.bind_eq_some_iff.1 H
                  refine W_mid (fun f w => ∃ y72, x72 = .inl y72 ∧ f 0 = (i64 ((wI (1 + (wI ((((UInt64.ofInt a0t) % (8 : UInt64))).toNat : Int)))))) ∧ f 2 = v9 ∧ f 5 = (i64 a5bent) ∧ f 14 = v13 ∧ f 15 = v15 ∧ f 22 = v36 ∧ f 26 = v65_0 ∧ f 230 = undef ∧ Ext w0 w ∧ OwK (Sc u8) w [v36] 5 v36 x40 ∧ Nw w0 v36 ∧ By w [v36] v9 r9 ∧ By w [v36] v13 r13 ∧ Fd w [v36] v15 r15 ∧ Rw w [v36] v65_0 r65.1) ?_ ?_
                  · refine W_block ?_
                    refine W_loop (fun s72 f w => f 0 = (i64 ((wI (1 + (wI ((((UInt64.ofInt a0t) % (8 : UInt64))).toNat : Int)))))) ∧ f 2 = v9 ∧ f 5 = (i64 a5bent) ∧ f 14 = v13 ∧ f 15 = v15 ∧ f 22 = v36 ∧ f 26 = v65_0 ∧ f 28 = v67_0 ∧ f 168 = (i64 ((r65.1.length : Int))) ∧ f 169 = (i64 s72) ∧ f 230 = undef ∧ Ext w0 w ∧ OwK (Sc u8) w [v36] 5 v36 x40 ∧ Nw w0 v36 ∧ By w [v36] v9 r9 ∧ By w [v36] v13 r13 ∧ Fd w [v36] v15 r15 ∧ Rw w [v36] v65_0 r65.1 ∧ Rw w [v36] v67_0 r67.1) G72 ?_ ?_
                    · exact ⟨s0_64, s2_64, s5_64, s14_64, s15_64, s22_64, rfl, rfl, rfl, rfl, s230_64, e68, o0_64, n0_64, i0_64, i2_64, i3_64, i65_0, i67_0⟩
                    · rintro s72 _ _ w73 ⟨s0_73, s2_73, s5_73, s14_73, s15_73, s22_73, s26_73, s28_73, s168_73, s169_73, s230_73, hE73, o0_73, n0_73, i0_73, i1_73, i2_73, i3_73, i4_73⟩ H72 hr72
                      refine W_seq ?_
                      refine W_reg (by kernel_rfl) ?_
                      refine wla rfl rfl (q_ltI rfl s169_73 s168_73) ?_
                      refine wl_nil ?_
                      refine W_th ?_
                      refine W_seq ?_
                      refine W_cond _ rfl rfl (fun hb74 => ?_) (fun hb74 => ?_)
                      · replace H72 := (if_pos (of_decide_eq_true hb74)).symm.trans H72
                        refine W_skip ?_
                        refine W_th ?_
                        refine W_seq ?_
                        refine W_block ?_
                        refine W_seq ?_
                        refine W_reg (by kernel_rfl) ?_
                        refine wla rfl rfl (q_move (v := (i64 s72)) rfl s169_73) ?_
                        refine wla rfl rfl (q_assign (v := (i64 s72)) rfl rfl) ?_
                        refine wl_nil ?_
                        refine W_th ?_
                        refine W_seq ?_
                        refine W_draw [3, 4, 8, 9] [(0, 0), (1, 0), (2, 0), (3, 1), (4, 1), (5, 0), (6, 0), (7, 0), (8, 1), (9, 1), (10, 0)] mixed (by kernel_rfl) (by kernel_rfl) (by kernel_rfl) (by kernel_rfl) ?_
                        have x75 := Ext.drew w73
                        replace i0_73 := i0_73.lift (Lift.ext x75 _)
                        replace i1_73 := i1_73.lift (Lift.ext x75 _)
                        replace i2_73 := i2_73.lift (Lift.ext x75 _)
                        replace i3_73 := i3_73.lift (Lift.ext x75 _)
                        replace i4_73 := i4_73.lift (Lift.ext x75 _)
                        replace o0_73 := o0_73.extL (Sc.stab _) x75 (Lift.ext x75 _)
                        have e76 := hE73.trans x75
                        refine wsa rfl rfl rfl (q_move (v := v65_0) rfl s26_73) ?_
                        refine wsa rfl rfl rfl (q_move (v := (i64 s72)) rfl rfl) ?_
                        obtain ⟨c77, hc77, H72⟩ := Option.bind_eq_some_iff.1 H72
                        refine wsa rfl rfl rfl (q_adr rfl T23 rfl rfl i3_73 hc77) ?_
                        refine wsq_load rfl rfl rfl rfl T23 rfl i3_73 hc77 (Ext.refl _) (fun v78 i78 => ?_)
                        refine wsq rfl rfl rfl (q_str rfl T22 rfl rfl rfl i78) ?_
                        refine wsa rfl rfl rfl (q_move (v := v67_0) rfl s28_73) ?_
                        refine wsa rfl rfl rfl (q_move (v := (i64 s72)) rfl rfl) ?_
                        obtain ⟨c79, hc79, H72⟩ := Option.bind_eq_some_iff.1 H72
                        refine wsa rfl rfl rfl (q_adr rfl T23 rfl rfl i4_73 hc79) ?_
                        refine wsq_load rfl rfl rfl rfl T23 rfl i4_73 hc79 (Ext.refl _) (fun v80 i80 => ?_)
                        refine wsq rfl rfl rfl (q_str rfl T22 rfl rfl rfl i80) ?_
                        refine wsa rfl rfl rfl (q_neS rfl rfl rfl) ?_
                        refine ws_nil ?_
                        refine W_th ?_
                        refine W_cond _ rfl rfl (fun hb81 => ?_) (fun hb81 => ?_)
                        · replace H72 := (if_neg (ndec_t hb81)).symm.trans H72
                          refine W_seq ?_
                          refine W_reg (by kernel_rfl) ?_
                          refine wla rfl rfl (q_assign (v := (.bool false)) rfl rfl) ?_
                          refine wl_nil ?_
                          refine W_th ?_
                          refine W_ret ?_
                          refine bk_r ?_
                          refine th_r ?_
                          obtain rfl := Option.some.inj H72
                          obtain rfl := hr72 _ rfl
                          simp only [Sum.elim_inr] at H
                          refine th_r ?_
                          refine bk_r ?_
                          refine th_r ?_
                          refine th_r ?_
                          obtain rfl := Option.some.inj H
                          refine rt1 (.bool false) rfl rfl rfl s230_73 ?_
                          exact ⟨rfl, e76⟩
                        · replace H72 := (if_pos (ndec_f hb81)).symm.trans H72
                          refine W_skip ?_
                          refine bk_n ?_
                          refine W_th ?_
                          refine W_reg (by kernel_rfl) ?_
                          refine wla rfl rfl (q_addI rfl s169_73 rfl) ?_
                          refine wla rfl rfl (q_move (v := (i64 ((wI (s72 + 1))))) rfl rfl) ?_
                          refine wl_nil ?_
                          obtain rfl := Option.some.inj H72
                          exact ⟨_, rfl, s0_73, s2_73, s5_73, s14_73, s15_73, s22_73, s26_73, s28_73, s168_73, rfl, s230_73, e76, o0_73, n0_73, i0_73, i1_73, i2_73, i3_73, i4_73⟩
                      · replace H72 := (if_neg (of_decide_eq_false hb74)).symm.trans H72
                        refine W_exit ?_
                        refine th_x ?_
                        obtain rfl := Option.some.inj H72
                        obtain rfl := hr72 _ rfl
                        refine th_x ?_
                        refine bk_x ?_
                        exact ⟨_, rfl, s0_73, s2_73, s5_73, s14_73, s15_73, s22_73, s26_73, s230_73, hE73, o0_73, n0_73, i0_73, i1_73, i2_73, i3_73⟩
                  · rintro _ w83 ⟨y72, rfl, s0_83, s2_83, s5_83, s14_83, s15_83, s22_83, s26_83, s230_83, hE83, o0_83, n0_83, i0_83, i1_83, i2_83, i3_83⟩
                    simp only [Sum.elim_inl] at H
                    refine W_th ?_
                    refine W_seq ?_
                    refine W_seq ?_
                    refine W_reg (by kernel_rfl) ?_
                    refine wla rfl rfl (q_move (v := v36) rfl s22_83) ?_
                    refine wla rfl rfl (q_len rfl T22.sl rfl (o0_83.rd (Sc.stab _))) ?_
                    refine wla rfl rfl (q_eqI rfl rfl rfl) ?_
                    refine wl_nil ?_
                    refine W_th ?_
                    refine W_cond _ rfl rfl (fun hb84 => ?_) (fun hb84 => ?_)
                    · replace H := (if_pos (of_decide_eq_true hb84)).symm.trans H
                      refine W_seq ?_
                      refine W_reg (by kernel_rfl) ?_
                      refine wla rfl rfl (q_assign (v := (.bool true)) rfl rfl) ?_
                      refine wl_nil ?_
                      refine W_th ?_
                      refine W_ret ?_
                      refine th_r ?_
                      obtain rfl := Option.some.inj H
                      refine rt1 (.bool true) rfl rfl rfl s230_83 ?_
                      exact ⟨rfl, hE83⟩
                    · replace H := (if_neg (of_decide_eq_false hb84)).symm.trans H
                      refine W_skip ?_
                      refine W_th ?_
                      refine W_seq ?_
                      refine W_reg (by kernel_rfl) ?_
                      refine wla rfl rfl (q_move (v := v36) rfl s22_83) ?_
                      refine wla rfl rfl (q_move (v := (i64 a5bent)) rfl s5_83) ?_
                      refine wla rfl rfl (q_cvt64I rfl rfl rfl rfl) ?_
                      refine wla rfl rfl (q_move (v := v36) rfl s22_83) ?_
                      refine wla rfl rfl (q_len rfl T22.sl rfl (o0_83.rd (Sc.stab _))) ?_
                      refine wla rfl rfl (q_cvt64I rfl rfl rfl rfl) ?_
                      obtain ⟨c85, hc85, H⟩ := Option.bind_eq_some_iff.1 H
                      refine wla rfl rfl (q_rem64 rfl rfl rfl (nz_ne hc85)) ?_
                      refine wla rfl rfl (q_cvtI64 rfl rfl rfl rfl) ?_
                      obtain ⟨c86, hc86, H⟩ := Option.bind_eq_some_iff.1 H
                      refine wla rfl rfl (q_adr rfl T22 rfl rfl (o0_83.rd (Sc.stab _)) hc86) ?_
                      refine wlq rfl rfl (q_loadS rfl T22 rfl (o0_83.rd (Sc.stab _)) hc86) ?_
                      refine wla rfl rfl (q_move (v := (i64 a5bent)) rfl s5_83) ?_
                      refine wla rfl rfl (q_cvt64I rfl rfl rfl rfl) ?_
                      refine wla rfl rfl (q_rem64 rfl rfl (cst64 (255 : UInt64) rfl) (by decide)) ?_
                      refine wla rfl rfl (q_cvt864 rfl rfl rfl rfl) ?_
                      refine wla rfl rfl (q_add8 rfl (cst8 (1 : UInt8) rfl) rfl) ?_
                      refine wla rfl rfl (q_xor8 rfl rfl rfl) ?_
                      refine wla rfl rfl (q_adr rfl T22 rfl rfl (o0_83.rd (Sc.stab _)) hc86) ?_
                      refine wln rfl rfl (stp_store (R := (Sc u8)) (u := (u8 ((c86 ^^^ ((1 : UInt8) + ((((UInt64.ofInt a5bent) % (255 : UInt64))).toUInt8)))))) (Sc.stab _) [] [] rfl T22 rfl rfl o0_83 (put_of ((c86 ^^^ ((1 : UInt8) + ((((UInt64.ofInt a5bent) % (255 : UInt64))).toUInt8)))) hc86) rfl rfl ?_)
                      intro w87 o87 g87 l87
                      replace i0_83 := i0_83.lift l87
                      replace i1_83 := i1_83.lift l87
                      replace i2_83 := i2_83.lift l87
                      replace i3_83 := i3_83.lift l87
                      have e88 := hE83.grown g87 n0_83
                      refine wl_nil ?_
                      refine W_th ?_
                      refine W_seq ?_
                      refine W_reg (by kernel_rfl) ?_
                      refine wla rfl rfl (q_move (v := v15) rfl s15_83) ?_
                      refine wla rfl rfl (q_move (v := (i64 ((wI (1 + (wI ((((UInt64.ofInt a0t) % (8 : UInt64))).toNat : Int))))))) rfl s0_83) ?_
                      refine wla rfl rfl (q_move (v := v9) rfl s2_83) ?_
                      refine wla rfl rfl (q_move (v := v36) rfl s22_83) ?_
                      refine wla rfl rfl (q_move (v := v13) rfl s14_83) ?_
                      obtain ⟨r89, hr89, H⟩ := Option.bind_eq_some_iff.1 H
                      refine wls rfl rfl (stp_call (vs := [v15, (i64 ((wI (1 + (wI ((((UInt64.ofInt a0t) % (8 : UInt64))).toNat : Int)))))), v9, v36, v13]) Try.func19 rfl rfl rfl (ar5 rfl rfl rfl rfl rfl) (shamir_Split_calls r15 (wI (1 + (wI ((((UInt64.ofInt a0t) % (8 : UInt64))).toNat : Int)))) r9 (x40.set ((wI ((((UInt64.ofInt a5bent) % (UInt64.ofInt ((x40.length : Int))))).toNat : Int)) : Int).toNat ((c86 ^^^ ((1 : UInt8) + ((((UInt64.ofInt a5bent) % (255 : UInt64))).toUInt8))))) r13 v15 v9 v36 v13 r89 _ [v36] (Old.cons (Old.nil _) o87.lt) (i2_83.lift (Lift.sub (fun _ _ => trivial))) (i0_83.lift (Lift.sub (fun _ _ => trivial))) (o87.rd (Sc.stab _)) (i1_83.lift (Lift.sub (fun _ _ => trivial))) hr89) ?_)
                      rintro _ w89 ⟨v89_0, rfl, x89, n89_0, o89_0⟩
                      refine ⟨_, rfl, ?_⟩
                      have i89_0 : Rw w89 [v36] v89_0 r89.1 := OwK.slk (SlK.stab (Sc.stab _)) _ o89_0 (fun k hk => (Old.cons (Old.nil _) o87.lt) k (n89_0 k hk)) (fun _ h => h.2)
                      replace i0_83 := i0_83.lift (Lift.ext x89 _)
                      replace i1_83 := i1_83.lift (Lift.ext x89 _)
                      replace i2_83 := i2_83.lift (Lift.ext x89 _)
                      replace i3_83 := i3_83.lift (Lift.ext x89 _)
                      replace o87 := o87.extL (Sc.stab _) x89 (Lift.ext x89 _)
                      have e90 := e88.trans x89
                      refine wla rfl rfl (q_move (v := (.tuple #[v89_0, (i64 r89.2)])) rfl rfl) ?_
                      refine wla rfl rfl (q_extract rfl rfl rfl) ?_
                      refine wla rfl rfl (q_extract rfl rfl rfl) ?_
                      refine wla rfl rfl (q_assign (v := v89_0) rfl rfl) ?_
                      refine wla rfl rfl (q_assign (v := (i64 r89.2)) rfl rfl) ?_
                      refine wl_nil ?_
                      refine W_th ?_
                      refine W_seq ?_
                      refine W_seq ?_
                      refine W_reg (by kernel_rfl) ?_
                      refine wla rfl rfl (q_move (v := v65_0) rfl s26_83) ?_
                      refine wla rfl rfl (q_len rfl T23.sl rfl i3_83) ?_
                      refine wla rfl rfl (q_move (v := (i64 0)) rfl rfl) ?_
                      refine wl_nil ?_
                      refine W_th ?_
                      obtain ⟨x91, G91, H⟩ := Option.bind_eq_some_iff.1 H
                      refine W_mid (fun f w => ∃ y91, x91 = .inl y91 ∧ f 230 = undef ∧ Ext w0 w) ?_ ?_
                      · refine W_block ?_
                        refine W_loop (fun s91 f w => f 26 = v65_0 ∧ f 31 = v89_0 ∧ f 214 = (i64 ((r65.1.length : Int))) ∧ f 215 = (i64 s91) ∧ f 230 = undef ∧ Ext w0 w ∧ Rw w [] v65_0 r65.1 ∧ Rw w [] v89_0 r89.1) G91 ?_ ?_
                        · exact ⟨s26_83, rfl, rfl, rfl, s230_83, e90, (i3_83.lift (Lift.sub (fun _ h => trivial))), (i89_0.lift (Lift.sub (fun _ h => trivial)))⟩
                        · rintro s91 _ _ w92 ⟨s26_92, s31_92, s214_92, s215_92, s230_92, hE92, i0_92, i1_92⟩ H91 hr91
                          refine W_seq ?_
                          refine W_reg (by kernel_rfl) ?_
                          refine wla rfl rfl (q_ltI rfl s215_92 s214_92) ?_
                          refine wl_nil ?_
                          refine W_th ?_
                          refine W_seq ?_
                          refine W_cond _ rfl rfl (fun hb93 => ?_) (fun hb93 => ?_)
                          · replace H91 := (if_pos (of_decide_eq_true hb93)).symm.trans H91
                            refine W_skip ?_
                            refine W_th ?_
                            refine W_seq ?_
                            refine W_block ?_
                            refine W_seq ?_
                            refine W_reg (by kernel_rfl) ?_
                            refine wla rfl rfl (q_move (v := (i64 s91)) rfl s215_92) ?_
                            refine wla rfl rfl (q_assign (v := (i64 s91)) rfl rfl) ?_
                            refine wl_nil ?_
                            refine W_th ?_
                            refine W_seq ?_
                            refine W_draw [3, 4, 8, 9] [(0, 0), (1, 0), (2, 0), (3, 1), (4, 1), (5, 0), (6, 0), (7, 0), (8, 1), (9, 1), (10, 0)] mixed (by kernel_rfl) (by kernel_rfl) (by kernel_rfl) (by kernel_rfl) ?_
                            have x94 := Ext.drew w92
                            replace i0_92 := i0_92.lift (Lift.ext x94 _)
                            replace i1_92 := i1_92.lift (Lift.ext x94 _)
                            have e95 := hE92.trans x94
                            refine wsa rfl rfl rfl (q_move (v := v65_0) rfl s26_92) ?_
                            refine wsa rfl rfl rfl (q_move (v := (i64 s91)) rfl rfl) ?_
                            obtain ⟨c96, hc96, H91⟩ := Option.bind_eq_some_iff.1 H91
                            refine wsa rfl rfl rfl (q_adr rfl T23 rfl rfl i0_92 hc96) ?_
                            refine wsq_load rfl rfl rfl rfl T23 rfl i0_92 hc96 (Ext.refl _) (fun v97 i97 => ?_)
                            refine wsq rfl rfl rfl (q_str rfl T22 rfl rfl rfl i97) ?_
                            refine wsa rfl rfl rfl (q_move (v := v89_0) rfl s31_92) ?_
                            refine wsa rfl rfl rfl (q_move (v := (i64 s91)) rfl rfl) ?_
                            obtain ⟨c98, hc98, H91⟩ := Option.bind_eq_some_iff.1 H91
                            refine wsa rfl rfl rfl (q_adr rfl T23 rfl rfl i1_92 hc98) ?_
                            refine wsq_load rfl rfl rfl rfl T23 rfl i1_92 hc98 (Ext.refl _) (fun v99 i99 => ?_)
                            refine wsq rfl rfl rfl (q_str rfl T22 rfl rfl rfl i99) ?_
                            refine wsa rfl rfl rfl (q_neS rfl rfl rfl) ?_
                            refine ws_nil ?_
                            refine W_th ?_
                            refine W_cond _ rfl rfl (fun hb100 => ?_) (fun hb100 => ?_)
                            · replace H91 := (if_neg (ndec_t hb100)).symm.trans H91
                              refine W_seq ?_
                              refine W_reg (by kernel_rfl) ?_
                              refine wla rfl rfl (q_assign (v := (.bool true)) rfl rfl) ?_
                              refine wl_nil ?_
                              refine W_th ?_
                              refine W_ret ?_
                              refine bk_r ?_
                              refine th_r ?_
                              obtain rfl := Option.some.inj H91
                              obtain rfl := hr91 _ rfl
                              simp only [Sum.elim_inr] at H
                              refine th_r ?_
                              refine bk_r ?_
                              refine th_r ?_
                              refine th_r ?_
                              obtain rfl := Option.some.inj H
                              refine rt1 (.bool true) rfl rfl rfl s230_92 ?_
                              exact ⟨rfl, e95⟩
                            · replace H91 := (if_pos (ndec_f hb100)).symm.trans H91
                              refine W_skip ?_
                              refine bk_n ?_
                              refine W_th ?_
                              refine W_reg (by kernel_rfl) ?_
                              refine wla rfl rfl (q_addI rfl s215_92 rfl) ?_
                              refine wla rfl rfl (q_move (v := (i64 ((wI (s91 + 1))))) rfl rfl) ?_
                              refine wl_nil ?_
                              obtain rfl := Option.some.inj H91
                              exact ⟨_, rfl, s26_92, s31_92, s214_92, rfl, s230_92, e95, i0_92, i1_92⟩
                          · replace H91 := (if_neg (of_decide_eq_false hb93)).symm.trans H91
                            refine W_exit ?_
                            refine th_x ?_
                            obtain rfl := Option.some.inj H91
                            obtain rfl := hr91 _ rfl
                            refine th_x ?_
                            refine bk_x ?_
                            exact ⟨_, rfl, s230_92, hE92⟩
                      · rintro _ w102 ⟨y91, rfl, s230_102, hE102⟩
                        simp only [Sum.elim_inl] at H
                        refine W_th ?_
                        refine W_seq ?_
                        refine W_reg (by kernel_rfl) ?_
                        refine wla rfl rfl (q_assign (v := (.bool false)) rfl rfl) ?_
                        refine wl_nil ?_
                        refine W_th ?_
                        refine W_ret ?_
                        obtain rfl := Option.some.inj H
                        refine rt1 (.bool false) rfl rfl rfl s230_102 ?_
                        exact ⟨rfl, hE102⟩

end Gk

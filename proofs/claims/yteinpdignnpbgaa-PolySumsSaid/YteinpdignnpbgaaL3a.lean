/- Printed by gen.py: for each Go function a pure function, and that the Go code comes to it. No condition beside the equation that says what the pure function gives. -/
import Derived.Test.YteinpdignnpbgaaF3
import Derived.Test.YteinpdignnpbgaaF4
set_option linter.unusedVariables false
set_option linter.unusedSimpArgs false
namespace Gk
open Go Go.Proofs

/-! largesse/largesselaw03.lives -/
noncomputable def law03_lives  : Option Bool :=
((field_New ).bind fun r1 =>
((poly_Vanish r1 ([(1 : UInt8), (2 : UInt8)] : List UInt8)).bind fun r5 =>
(if r5.2 = 0 then some (decide (r5.1 = ([2, 3, 1] : List UInt8)))
else some false)))
set_option maxRecDepth 100000 in
set_option maxHeartbeats 8000000 in
theorem law03_lives_calls  (r : Bool) (w0 : World) (H : law03_lives = some r) :
    Calls Try.prog 17 [].toArray w0 (fun e w' => e = .returned (.bool r) ∧ Ext w0 w') := by
  have hE : Ext w0 w0 := Ext.refl w0
  unfold law03_lives at H
  refine calls_W (n := 16) Try.func17 rfl rfl rfl ?_
  refine W_seq ?_
  refine W_reg (by kernel_rfl) ?_
  refine wla rfl rfl (q_assign (v := (.bool false)) rfl rfl) ?_
  refine wl_nil ?_
  refine W_th ?_
  refine W_seq ?_
  refine W_reg (by kernel_rfl) ?_
  obtain ⟨r1, hr1, H⟩ := Option.bind_eq_some_iff.1 H
  refine wls rfl rfl (stp_call (vs := []) Try.func18 rfl rfl rfl (ar0 ) (field_New_calls   r1 _ [] (Old.nil _)  hr1) ?_)
  rintro _ w1 ⟨v1, rfl, x1, i1_0⟩
  refine ⟨_, rfl, ?_⟩
  have e2 := hE.trans x1
  refine wls rfl rfl (stp_lit (L := []) (R := (Sc u8)) [(u8 1), (u8 2)] ([(1 : UInt8), (2 : UInt8)] : List UInt8) rfl T22 rfl (by exact ⟨rfl, (cst8 (1 : UInt8) rfl), rfl, (cst8 (2 : UInt8) rfl), trivial⟩) rfl (litC u8 (oneC_u8) (us := [(u8 1), (u8 2)]) (l := ([(1 : UInt8), (2 : UInt8)] : List UInt8)) rfl) rfl (litS u8 (us := [(u8 1), (u8 2)]) (l := ([(1 : UInt8), (2 : UInt8)] : List UInt8)) rfl) ?_)
  intro v3 w3 o3 n3 g3 l3
  have x3 := grown_ext g3
  have i3 : By w3 [] v3 (([(1 : UInt8), (2 : UInt8)] : List UInt8)) := OwK.slk (Sc.stab _) _ o3 (fun k hk => (Old.nil _) k (n3 k hk)) (fun _ h => h.2)
  replace i1_0 := i1_0.lift (Lift.ext x3 _)
  have e4 := e2.trans x3
  obtain ⟨r5, hr5, H⟩ := Option.bind_eq_some_iff.1 H
  refine wls rfl rfl (stp_call (vs := [v1, v3]) Try.func30 rfl rfl rfl (ar2 rfl rfl) (poly_Vanish_calls r1 ([(1 : UInt8), (2 : UInt8)] : List UInt8) v1 v3 r5 _ (i1_0.lift (Lift.sub (fun _ _ => trivial))) (i3.lift (Lift.sub (fun _ _ => trivial))) hr5) ?_)
  rintro _ w5 ⟨v5_0, rfl, x5, n5_0, o5_0⟩
  refine ⟨_, rfl, ?_⟩
  have i5_0 : By w5 [] v5_0 r5.1 := OwK.slk (Sc.stab _) _ (OwK.scal o5_0 (v5_0 :: [])) (fun k hk => (Old.nil _) k (n5_0 k hk)) (fun _ h => h.2)
  replace i1_0 := i1_0.lift (Lift.ext x5 _)
  replace i3 := i3.lift (Lift.ext x5 _)
  have e6 := e4.trans x5
  refine wla rfl rfl (q_move (v := (.tuple #[v5_0, (i64 r5.2)])) rfl rfl) ?_
  refine wla rfl rfl (q_extract rfl rfl rfl) ?_
  refine wla rfl rfl (q_extract rfl rfl rfl) ?_
  refine wla rfl rfl (q_assign (v := v5_0) rfl rfl) ?_
  refine wla rfl rfl (q_assign (v := (i64 r5.2)) rfl rfl) ?_
  refine wl_nil ?_
  refine W_th ?_
  refine W_seq ?_
  refine W_reg (by kernel_rfl) ?_
  refine wla rfl rfl (q_move (v := (i64 r5.2)) rfl rfl) ?_
  refine wla rfl rfl (q_eqI rfl rfl rfl) ?_
  refine wlb rfl rfl (q_move (v := (.bool ((decide (r5.2 = 0))))) rfl rfl) (fun hb7 => ?_) (fun hb7 => ?_)
  · replace H := (if_pos (of_decide_eq_true hb7)).symm.trans H
    refine wla rfl rfl (q_move (v := v5_0) rfl rfl) ?_
    refine wlq rfl rfl (q_str rfl T22 rfl rfl rfl i5_0) ?_
    refine wla rfl rfl (q_eqS rfl rfl rfl) ?_
    refine wla rfl rfl (q_pick_t (v := (.bool ((decide (r5.1 = ([2, 3, 1] : List UInt8)))))) rfl rfl rfl) ?_
    refine wla rfl rfl (q_assign (v := (.bool ((decide (r5.1 = ([2, 3, 1] : List UInt8)))))) rfl rfl) ?_
    refine wl_nil ?_
    refine W_th ?_
    refine W_ret ?_
    obtain rfl := Option.some.inj H
    refine rt1 (.bool ((decide (r5.1 = ([2, 3, 1] : List UInt8))))) rfl rfl rfl rfl ?_
    exact ⟨rfl, e6⟩
  · replace H := (if_neg (of_decide_eq_false hb7)).symm.trans H
    refine wlk rfl rfl ?_
    refine wlk rfl rfl ?_
    refine wlk rfl rfl ?_
    refine wla rfl rfl (q_pick_f (v := (.bool false)) rfl rfl rfl) ?_
    refine wla rfl rfl (q_assign (v := (.bool false)) rfl rfl) ?_
    refine wl_nil ?_
    refine W_th ?_
    refine W_ret ?_
    obtain rfl := Option.some.inj H
    refine rt1 (.bool false) rfl rfl rfl rfl ?_
    exact ⟨rfl, e6⟩

/-! largesse/largesselaw03.PolyRules -/
noncomputable def law03_PolyRules (a0p : List UInt8) (a1q : List UInt8) (a2o : List UInt8) (a3x : UInt8) : Option Bool :=
((law03_lives ).bind fun r1 =>
(if (!r1) = true then
((law03_lives ).bind fun r4 => some r4)
else
(if 60 < (a0p.length : Int) then
((law03_lives ).bind fun r7 => some r7)
else
(if 60 < (a1q.length : Int) then
((law03_lives ).bind fun r10 => some r10)
else
(if 60 < (a2o.length : Int) then
((law03_lives ).bind fun r13 => some r13)
else
((field_New ).bind fun r15 =>
((poly_Mul r15 a0p a1q).bind fun r17 =>
((poly_Add a0p a1q).bind fun r19 =>
(if r17.2 = 0 then
((poly_Eval r15 r19 a3x).bind fun r22 =>
((poly_Eval r15 a0p a3x).bind fun r24 =>
((poly_Eval r15 a1q a3x).bind fun r26 =>
((field_Add r24 r26).bind fun r28 =>
(if r22 = r28 then
((poly_Eval r15 r17.1 a3x).bind fun r31 =>
((poly_Eval r15 a0p a3x).bind fun r33 =>
((poly_Eval r15 a1q a3x).bind fun r35 =>
((field_Mul r15 r33 r35).bind fun r37 =>
(if r31 = r37 then
((poly_Mul r15 r19 a2o).bind fun r40 =>
((poly_Mul r15 a0p a2o).bind fun r42 =>
((poly_Mul r15 a1q a2o).bind fun r44 =>
(if r40.2 = 0 then
(if r42.2 = 0 then
(if r44.2 = 0 then
((poly_Add r42.1 r44.1).bind fun r51 =>
(if r40.1 = r51 then
((poly_Add a1q a0p).bind fun r54 => some (decide (r19 = r54)))
else some false))
else some false)
else some false)
else some false))))
else some false)))))
else some false)))))
else some false)))))))))
set_option maxRecDepth 100000 in
set_option maxHeartbeats 8000000 in
theorem law03_PolyRules_calls (a0p : List UInt8) (a1q : List UInt8) (a2o : List UInt8) (a3x : UInt8) (p0 : Value) (p1 : Value) (p2 : Value) (r : Bool) (w0 : World) (hp0 : By w0 [] p0 a0p) (hp1 : By w0 [] p1 a1q) (hp2 : By w0 [] p2 a2o) (H : law03_PolyRules a0p a1q a2o a3x = some r) :
    Calls Try.prog 3 [p0, p1, p2, (u8 a3x)].toArray w0 (fun e w' => e = .returned (.bool r) ∧ Ext w0 w') := by
  have hE : Ext w0 w0 := Ext.refl w0
  unfold law03_PolyRules at H
  refine calls_W (n := 132) Try.func3 rfl rfl rfl ?_
  refine W_seq ?_
  refine W_reg (by kernel_rfl) ?_
  refine wla rfl rfl (q_assign (v := (.bool false)) rfl rfl) ?_
  refine wl_nil ?_
  refine W_th ?_
  refine W_seq ?_
  refine W_seq ?_
  refine W_reg (by kernel_rfl) ?_
  obtain ⟨r1, hr1, H⟩ := Option.bind_eq_some_iff.1 H
  refine wls rfl rfl (stp_call (vs := []) Try.func17 rfl rfl rfl (ar0 ) (law03_lives_calls   r1 _  hr1) ?_)
  rintro _ w1 ⟨rfl, x1⟩
  refine ⟨_, rfl, ?_⟩
  have e2 := hE.trans x1
  refine wla rfl rfl (q_not rfl rfl) ?_
  refine wlb rfl rfl (q_move (v := (.bool ((!r1)))) rfl rfl) (fun hb3 => ?_) (fun hb3 => ?_)
  · replace H := (if_pos hb3).symm.trans H
    refine wlk rfl rfl ?_
    refine wlk rfl rfl ?_
    refine wlk rfl rfl ?_
    refine wla rfl rfl (q_pick_t (v := (.bool true)) rfl rfl rfl) ?_
    refine wla rfl rfl (q_move (v := (.bool true)) rfl rfl) ?_
    refine wlk rfl rfl ?_
    refine wlk rfl rfl ?_
    refine wlk rfl rfl ?_
    refine wla rfl rfl (q_pick_t (v := (.bool true)) rfl rfl rfl) ?_
    refine wla rfl rfl (q_move (v := (.bool true)) rfl rfl) ?_
    refine wlk rfl rfl ?_
    refine wlk rfl rfl ?_
    refine wlk rfl rfl ?_
    refine wla rfl rfl (q_pick_t (v := (.bool true)) rfl rfl rfl) ?_
    refine wl_nil ?_
    refine W_th ?_
    refine W_cond true rfl rfl (fun _ => ?_) (fun hb => by cases hb)
    refine W_seq ?_
    refine W_reg (by kernel_rfl) ?_
    obtain ⟨r4, hr4, H⟩ := Option.bind_eq_some_iff.1 H
    refine wls rfl rfl (stp_call (vs := []) Try.func17 rfl rfl rfl (ar0 ) (law03_lives_calls   r4 _  hr4) ?_)
    rintro _ w4 ⟨rfl, x4⟩
    refine ⟨_, rfl, ?_⟩
    have e5 := e2.trans x4
    refine wla rfl rfl (q_assign (v := (.bool r4)) rfl rfl) ?_
    refine wl_nil ?_
    refine W_th ?_
    refine W_ret ?_
    refine th_r ?_
    obtain rfl := Option.some.inj H
    refine rt1 (.bool r4) rfl rfl rfl rfl ?_
    exact ⟨rfl, e5⟩
  · replace H := (if_neg (ne_true_of_eq_false hb3)).symm.trans H
    refine wla rfl rfl (q_move (v := p0) rfl rfl) ?_
    refine wla rfl rfl (q_len rfl T22.sl rfl (hp0.lift (Lift.ext e2 _))) ?_
    refine wla rfl rfl (q_gtI rfl rfl rfl) ?_
    refine wla rfl rfl (q_pick_f (v := (.bool ((decide (60 < (a0p.length : Int)))))) rfl rfl rfl) ?_
    refine wlb rfl rfl (q_move (v := (.bool ((decide (60 < (a0p.length : Int)))))) rfl rfl) (fun hb6 => ?_) (fun hb6 => ?_)
    · replace H := (if_pos (of_decide_eq_true hb6)).symm.trans H
      refine wlk rfl rfl ?_
      refine wlk rfl rfl ?_
      refine wlk rfl rfl ?_
      refine wla rfl rfl (q_pick_t (v := (.bool true)) rfl rfl rfl) ?_
      refine wla rfl rfl (q_move (v := (.bool true)) rfl rfl) ?_
      refine wlk rfl rfl ?_
      refine wlk rfl rfl ?_
      refine wlk rfl rfl ?_
      refine wla rfl rfl (q_pick_t (v := (.bool true)) rfl rfl rfl) ?_
      refine wl_nil ?_
      refine W_th ?_
      refine W_cond true rfl rfl (fun _ => ?_) (fun hb => by cases hb)
      refine W_seq ?_
      refine W_reg (by kernel_rfl) ?_
      obtain ⟨r7, hr7, H⟩ := Option.bind_eq_some_iff.1 H
      refine wls rfl rfl (stp_call (vs := []) Try.func17 rfl rfl rfl (ar0 ) (law03_lives_calls   r7 _  hr7) ?_)
      rintro _ w7 ⟨rfl, x7⟩
      refine ⟨_, rfl, ?_⟩
      have e8 := e2.trans x7
      refine wla rfl rfl (q_assign (v := (.bool r7)) rfl rfl) ?_
      refine wl_nil ?_
      refine W_th ?_
      refine W_ret ?_
      refine th_r ?_
      obtain rfl := Option.some.inj H
      refine rt1 (.bool r7) rfl rfl rfl rfl ?_
      exact ⟨rfl, e8⟩
    · replace H := (if_neg (of_decide_eq_false hb6)).symm.trans H
      refine wla rfl rfl (q_move (v := p1) rfl rfl) ?_
      refine wla rfl rfl (q_len rfl T22.sl rfl (hp1.lift (Lift.ext e2 _))) ?_
      refine wla rfl rfl (q_gtI rfl rfl rfl) ?_
      refine wla rfl rfl (q_pick_f (v := (.bool ((decide (60 < (a1q.length : Int)))))) rfl rfl rfl) ?_
      refine wlb rfl rfl (q_move (v := (.bool ((decide (60 < (a1q.length : Int)))))) rfl rfl) (fun hb9 => ?_) (fun hb9 => ?_)
      · replace H := (if_pos (of_decide_eq_true hb9)).symm.trans H
        refine wlk rfl rfl ?_
        refine wlk rfl rfl ?_
        refine wlk rfl rfl ?_
        refine wla rfl rfl (q_pick_t (v := (.bool true)) rfl rfl rfl) ?_
        refine wl_nil ?_
        refine W_th ?_
        refine W_cond true rfl rfl (fun _ => ?_) (fun hb => by cases hb)
        refine W_seq ?_
        refine W_reg (by kernel_rfl) ?_
        obtain ⟨r10, hr10, H⟩ := Option.bind_eq_some_iff.1 H
        refine wls rfl rfl (stp_call (vs := []) Try.func17 rfl rfl rfl (ar0 ) (law03_lives_calls   r10 _  hr10) ?_)
        rintro _ w10 ⟨rfl, x10⟩
        refine ⟨_, rfl, ?_⟩
        have e11 := e2.trans x10
        refine wla rfl rfl (q_assign (v := (.bool r10)) rfl rfl) ?_
        refine wl_nil ?_
        refine W_th ?_
        refine W_ret ?_
        refine th_r ?_
        obtain rfl := Option.some.inj H
        refine rt1 (.bool r10) rfl rfl rfl rfl ?_
        exact ⟨rfl, e11⟩
      · replace H := (if_neg (of_decide_eq_false hb9)).symm.trans H
        refine wla rfl rfl (q_move (v := p2) rfl rfl) ?_
        refine wla rfl rfl (q_len rfl T22.sl rfl (hp2.lift (Lift.ext e2 _))) ?_
        refine wla rfl rfl (q_gtI rfl rfl rfl) ?_
        refine wla rfl rfl (q_pick_f (v := (.bool ((decide (60 < (a2o.length : Int)))))) rfl rfl rfl) ?_
        refine wl_nil ?_
        refine W_th ?_
        refine W_cond _ rfl rfl (fun hb12 => ?_) (fun hb12 => ?_)
        · replace H := (if_pos (of_decide_eq_true hb12)).symm.trans H
          refine W_seq ?_
          refine W_reg (by kernel_rfl) ?_
          obtain ⟨r13, hr13, H⟩ := Option.bind_eq_some_iff.1 H
          refine wls rfl rfl (stp_call (vs := []) Try.func17 rfl rfl rfl (ar0 ) (law03_lives_calls   r13 _  hr13) ?_)
          rintro _ w13 ⟨rfl, x13⟩
          refine ⟨_, rfl, ?_⟩
          have e14 := e2.trans x13
          refine wla rfl rfl (q_assign (v := (.bool r13)) rfl rfl) ?_
          refine wl_nil ?_
          refine W_th ?_
          refine W_ret ?_
          refine th_r ?_
          obtain rfl := Option.some.inj H
          refine rt1 (.bool r13) rfl rfl rfl rfl ?_
          exact ⟨rfl, e14⟩
        · replace H := (if_neg (of_decide_eq_false hb12)).symm.trans H
          refine W_skip ?_
          refine W_th ?_
          refine W_seq ?_
          refine W_reg (by kernel_rfl) ?_
          obtain ⟨r15, hr15, H⟩ := Option.bind_eq_some_iff.1 H
          refine wls rfl rfl (stp_call (vs := []) Try.func18 rfl rfl rfl (ar0 ) (field_New_calls   r15 _ [] (Old.nil _)  hr15) ?_)
          rintro _ w15 ⟨v15, rfl, x15, i15_0⟩
          refine ⟨_, rfl, ?_⟩
          have e16 := e2.trans x15
          refine wla rfl rfl (q_assign (v := v15) rfl rfl) ?_
          refine wl_nil ?_
          refine W_th ?_
          refine W_seq ?_
          refine W_reg (by kernel_rfl) ?_
          refine wla rfl rfl (q_move (v := v15) rfl rfl) ?_
          refine wla rfl rfl (q_move (v := p0) rfl rfl) ?_
          refine wla rfl rfl (q_move (v := p1) rfl rfl) ?_
          obtain ⟨r17, hr17, H⟩ := Option.bind_eq_some_iff.1 H
          refine wls rfl rfl (stp_call (vs := [v15, p0, p1]) Try.func19 rfl rfl rfl (ar3 rfl rfl rfl) (poly_Mul_calls r15 a0p a1q v15 p0 p1 r17 _ (i15_0.lift (Lift.sub (fun _ _ => trivial))) (hp0.lift (Lift.ext e16 _)) (hp1.lift (Lift.ext e16 _)) hr17) ?_)
          rintro _ w17 ⟨v17_0, rfl, x17, n17_0, o17_0⟩
          refine ⟨_, rfl, ?_⟩
          have i17_0 : By w17 [] v17_0 r17.1 := OwK.slk (Sc.stab _) _ (OwK.scal o17_0 (v17_0 :: [])) (fun k hk => (Old.nil _) k (n17_0 k hk)) (fun _ h => h.2)
          replace i15_0 := i15_0.lift (Lift.ext x17 _)
          have e18 := e16.trans x17
          refine wla rfl rfl (q_move (v := (.tuple #[v17_0, (i64 r17.2)])) rfl rfl) ?_
          refine wla rfl rfl (q_extract rfl rfl rfl) ?_
          refine wla rfl rfl (q_extract rfl rfl rfl) ?_
          refine wla rfl rfl (q_assign (v := v17_0) rfl rfl) ?_
          refine wla rfl rfl (q_assign (v := (i64 r17.2)) rfl rfl) ?_
          refine wl_nil ?_
          refine W_th ?_
          refine W_seq ?_
          refine W_reg (by kernel_rfl) ?_
          refine wla rfl rfl (q_move (v := p0) rfl rfl) ?_
          refine wla rfl rfl (q_move (v := p1) rfl rfl) ?_
          obtain ⟨r19, hr19, H⟩ := Option.bind_eq_some_iff.1 H
          refine wls rfl rfl (stp_call (vs := [p0, p1]) Try.func20 rfl rfl rfl (ar2 rfl rfl) (poly_Add_calls a0p a1q p0 p1 r19 _ (hp0.lift (Lift.ext e18 _)) (hp1.lift (Lift.ext e18 _)) hr19) ?_)
          rintro _ w19 ⟨v19, rfl, x19, n19_0, o19_0⟩
          refine ⟨_, rfl, ?_⟩
          have i19_0 : By w19 [] v19 r19 := OwK.slk (Sc.stab _) _ (OwK.scal o19_0 (v19 :: [])) (fun k hk => (Old.nil _) k (n19_0 k hk)) (fun _ h => h.2)
          replace i15_0 := i15_0.lift (Lift.ext x19 _)
          replace i17_0 := i17_0.lift (Lift.ext x19 _)
          have e20 := e18.trans x19
          refine wla rfl rfl (q_assign (v := v19) rfl rfl) ?_
          refine wl_nil ?_
          refine W_th ?_
          refine W_seq ?_
          refine W_seq ?_
          refine W_reg (by kernel_rfl) ?_
          refine wla rfl rfl (q_move (v := (i64 r17.2)) rfl rfl) ?_
          refine wla rfl rfl (q_neI rfl rfl rfl) ?_
          refine wlb rfl rfl (q_move (v := (.bool ((!decide (r17.2 = 0))))) rfl rfl) (fun hb21 => ?_) (fun hb21 => ?_)
          · replace H := (if_neg (ndec_t hb21)).symm.trans H
            refine wlk rfl rfl ?_
            refine wlk rfl rfl ?_
            refine wlk rfl rfl ?_
            refine wlk rfl rfl ?_
            refine wlk rfl rfl ?_
            refine wlk rfl rfl ?_
            refine wlk rfl rfl ?_
            refine wlk rfl rfl ?_
            refine wlk rfl rfl ?_
            refine wlk rfl rfl ?_
            refine wlk rfl rfl ?_
            refine wlk rfl rfl ?_
            refine wlk rfl rfl ?_
            refine wlk rfl rfl ?_
            refine wla rfl rfl (q_pick_t (v := (.bool true)) rfl rfl rfl) ?_
            refine wla rfl rfl (q_move (v := (.bool true)) rfl rfl) ?_
            refine wlk rfl rfl ?_
            refine wlk rfl rfl ?_
            refine wlk rfl rfl ?_
            refine wlk rfl rfl ?_
            refine wlk rfl rfl ?_
            refine wlk rfl rfl ?_
            refine wlk rfl rfl ?_
            refine wlk rfl rfl ?_
            refine wlk rfl rfl ?_
            refine wlk rfl rfl ?_
            refine wlk rfl rfl ?_
            refine wlk rfl rfl ?_
            refine wlk rfl rfl ?_
            refine wlk rfl rfl ?_
            refine wlk rfl rfl ?_
            refine wla rfl rfl (q_pick_t (v := (.bool true)) rfl rfl rfl) ?_
            refine wl_nil ?_
            refine W_th ?_
            refine W_cond true rfl rfl (fun _ => ?_) (fun hb => by cases hb)
            refine W_seq ?_
            refine W_reg (by kernel_rfl) ?_
            refine wla rfl rfl (q_assign (v := (.bool false)) rfl rfl) ?_
            refine wl_nil ?_
            refine W_th ?_
            refine W_ret ?_
            refine th_r ?_
            obtain rfl := Option.some.inj H
            refine rt1 (.bool false) rfl rfl rfl rfl ?_
            exact ⟨rfl, e20⟩
          · replace H := (if_pos (ndec_f hb21)).symm.trans H
            refine wla rfl rfl (q_move (v := v15) rfl rfl) ?_
            refine wla rfl rfl (q_move (v := v19) rfl rfl) ?_
            refine wla rfl rfl (q_move (v := (u8 a3x)) rfl rfl) ?_
            obtain ⟨r22, hr22, H⟩ := Option.bind_eq_some_iff.1 H
            refine wls rfl rfl (stp_call (vs := [v15, v19, (u8 a3x)]) Try.func21 rfl rfl rfl (ar3 rfl rfl rfl) (poly_Eval_calls r15 r19 a3x v15 v19 r22 _ (i15_0.lift (Lift.sub (fun _ _ => trivial))) (i19_0.lift (Lift.sub (fun _ _ => trivial))) hr22) ?_)
            rintro _ w22 ⟨rfl, x22⟩
            refine ⟨_, rfl, ?_⟩
            replace i15_0 := i15_0.lift (Lift.ext x22 _)
            replace i17_0 := i17_0.lift (Lift.ext x22 _)
            replace i19_0 := i19_0.lift (Lift.ext x22 _)
            have e23 := e20.trans x22
            refine wla rfl rfl (q_move (v := v15) rfl rfl) ?_
            refine wla rfl rfl (q_move (v := p0) rfl rfl) ?_
            refine wla rfl rfl (q_move (v := (u8 a3x)) rfl rfl) ?_
            obtain ⟨r24, hr24, H⟩ := Option.bind_eq_some_iff.1 H
            refine wls rfl rfl (stp_call (vs := [v15, p0, (u8 a3x)]) Try.func21 rfl rfl rfl (ar3 rfl rfl rfl) (poly_Eval_calls r15 a0p a3x v15 p0 r24 _ (i15_0.lift (Lift.sub (fun _ _ => trivial))) (hp0.lift (Lift.ext e23 _)) hr24) ?_)
            rintro _ w24 ⟨rfl, x24⟩
            refine ⟨_, rfl, ?_⟩
            replace i15_0 := i15_0.lift (Lift.ext x24 _)
            replace i17_0 := i17_0.lift (Lift.ext x24 _)
            replace i19_0 := i19_0.lift (Lift.ext x24 _)
            have e25 := e23.trans x24
            refine wla rfl rfl (q_move (v := v15) rfl rfl) ?_
            refine wla rfl rfl (q_move (v := p1) rfl rfl) ?_
            refine wla rfl rfl (q_move (v := (u8 a3x)) rfl rfl) ?_
            obtain ⟨r26, hr26, H⟩ := Option.bind_eq_some_iff.1 H
            refine wls rfl rfl (stp_call (vs := [v15, p1, (u8 a3x)]) Try.func21 rfl rfl rfl (ar3 rfl rfl rfl) (poly_Eval_calls r15 a1q a3x v15 p1 r26 _ (i15_0.lift (Lift.sub (fun _ _ => trivial))) (hp1.lift (Lift.ext e25 _)) hr26) ?_)
            rintro _ w26 ⟨rfl, x26⟩
            refine ⟨_, rfl, ?_⟩
            replace i15_0 := i15_0.lift (Lift.ext x26 _)
            replace i17_0 := i17_0.lift (Lift.ext x26 _)
            replace i19_0 := i19_0.lift (Lift.ext x26 _)
            have e27 := e25.trans x26
            obtain ⟨r28, hr28, H⟩ := Option.bind_eq_some_iff.1 H
            refine wls rfl rfl (stp_call (vs := [(u8 r24), (u8 r26)]) Try.func22 rfl rfl rfl (ar2 rfl rfl) (field_Add_calls r24 r26  r28 _  hr28) ?_)
            rintro _ w28 ⟨rfl, x28⟩
            refine ⟨_, rfl, ?_⟩
            replace i15_0 := i15_0.lift (Lift.ext x28 _)
            replace i17_0 := i17_0.lift (Lift.ext x28 _)
            replace i19_0 := i19_0.lift (Lift.ext x28 _)
            have e29 := e27.trans x28
            refine wla rfl rfl (q_ne8 rfl rfl rfl) ?_
            refine wla rfl rfl (q_pick_f (v := (.bool ((!decide (r22 = r28))))) rfl rfl rfl) ?_
            refine wlb rfl rfl (q_move (v := (.bool ((!decide (r22 = r28))))) rfl rfl) (fun hb30 => ?_) (fun hb30 => ?_)
            · replace H := (if_neg (ndec_t hb30)).symm.trans H
              refine wlk rfl rfl ?_
              refine wlk rfl rfl ?_
              refine wlk rfl rfl ?_
              refine wlk rfl rfl ?_
              refine wlk rfl rfl ?_
              refine wlk rfl rfl ?_
              refine wlk rfl rfl ?_
              refine wlk rfl rfl ?_
              refine wlk rfl rfl ?_
              refine wlk rfl rfl ?_
              refine wlk rfl rfl ?_
              refine wlk rfl rfl ?_
              refine wlk rfl rfl ?_
              refine wlk rfl rfl ?_
              refine wlk rfl rfl ?_
              refine wla rfl rfl (q_pick_t (v := (.bool true)) rfl rfl rfl) ?_
              refine wl_nil ?_
              refine W_th ?_
              refine W_cond true rfl rfl (fun _ => ?_) (fun hb => by cases hb)
              refine W_seq ?_
              refine W_reg (by kernel_rfl) ?_
              refine wla rfl rfl (q_assign (v := (.bool false)) rfl rfl) ?_
              refine wl_nil ?_
              refine W_th ?_
              refine W_ret ?_
              refine th_r ?_
              obtain rfl := Option.some.inj H
              refine rt1 (.bool false) rfl rfl rfl rfl ?_
              exact ⟨rfl, e29⟩
            · replace H := (if_pos (ndec_f hb30)).symm.trans H
              refine wla rfl rfl (q_move (v := v15) rfl rfl) ?_
              refine wla rfl rfl (q_move (v := v17_0) rfl rfl) ?_
              refine wla rfl rfl (q_move (v := (u8 a3x)) rfl rfl) ?_
              obtain ⟨r31, hr31, H⟩ := Option.bind_eq_some_iff.1 H
              refine wls rfl rfl (stp_call (vs := [v15, v17_0, (u8 a3x)]) Try.func21 rfl rfl rfl (ar3 rfl rfl rfl) (poly_Eval_calls r15 r17.1 a3x v15 v17_0 r31 _ (i15_0.lift (Lift.sub (fun _ _ => trivial))) (i17_0.lift (Lift.sub (fun _ _ => trivial))) hr31) ?_)
              rintro _ w31 ⟨rfl, x31⟩
              refine ⟨_, rfl, ?_⟩
              replace i15_0 := i15_0.lift (Lift.ext x31 _)
              replace i17_0 := i17_0.lift (Lift.ext x31 _)
              replace i19_0 := i19_0.lift (Lift.ext x31 _)
              have e32 := e29.trans x31
              refine wla rfl rfl (q_move (v := v15) rfl rfl) ?_
              refine wla rfl rfl (q_move (v := v15) rfl rfl) ?_
              refine wla rfl rfl (q_move (v := p0) rfl rfl) ?_
              refine wla rfl rfl (q_move (v := (u8 a3x)) rfl rfl) ?_
              obtain ⟨r33, hr33, H⟩ := Option.bind_eq_some_iff.1 H
              refine wls rfl rfl (stp_call (vs := [v15, p0, (u8 a3x)]) Try.func21 rfl rfl rfl (ar3 rfl rfl rfl) (poly_Eval_calls r15 a0p a3x v15 p0 r33 _ (i15_0.lift (Lift.sub (fun _ _ => trivial))) (hp0.lift (Lift.ext e32 _)) hr33) ?_)
              rintro _ w33 ⟨rfl, x33⟩
              refine ⟨_, rfl, ?_⟩
              replace i15_0 := i15_0.lift (Lift.ext x33 _)
              replace i17_0 := i17_0.lift (Lift.ext x33 _)
              replace i19_0 := i19_0.lift (Lift.ext x33 _)
              have e34 := e32.trans x33
              refine wla rfl rfl (q_move (v := v15) rfl rfl) ?_
              refine wla rfl rfl (q_move (v := p1) rfl rfl) ?_
              refine wla rfl rfl (q_move (v := (u8 a3x)) rfl rfl) ?_
              obtain ⟨r35, hr35, H⟩ := Option.bind_eq_some_iff.1 H
              refine wls rfl rfl (stp_call (vs := [v15, p1, (u8 a3x)]) Try.func21 rfl rfl rfl (ar3 rfl rfl rfl) (poly_Eval_calls r15 a1q a3x v15 p1 r35 _ (i15_0.lift (Lift.sub (fun _ _ => trivial))) (hp1.lift (Lift.ext e34 _)) hr35) ?_)
              rintro _ w35 ⟨rfl, x35⟩
              refine ⟨_, rfl, ?_⟩
              replace i15_0 := i15_0.lift (Lift.ext x35 _)
              replace i17_0 := i17_0.lift (Lift.ext x35 _)
              replace i19_0 := i19_0.lift (Lift.ext x35 _)
              have e36 := e34.trans x35
              obtain ⟨r37, hr37, H⟩ := Option.bind_eq_some_iff.1 H
              refine wls rfl rfl (stp_call (vs := [v15, (u8 r33), (u8 r35)]) Try.func23 rfl rfl rfl (ar3 rfl rfl rfl) (field_Mul_calls r15 r33 r35 v15 r37 _ (i15_0.lift (Lift.sub (fun _ _ => trivial))) hr37) ?_)
              rintro _ w37 ⟨rfl, x37⟩
              refine ⟨_, rfl, ?_⟩
              replace i15_0 := i15_0.lift (Lift.ext x37 _)
              replace i17_0 := i17_0.lift (Lift.ext x37 _)
              replace i19_0 := i19_0.lift (Lift.ext x37 _)
              have e38 := e36.trans x37
              refine wla rfl rfl (q_ne8 rfl rfl rfl) ?_
              refine wla rfl rfl (q_pick_f (v := (.bool ((!decide (r31 = r37))))) rfl rfl rfl) ?_
              refine wl_nil ?_
              refine W_th ?_
              refine W_cond _ rfl rfl (fun hb39 => ?_) (fun hb39 => ?_)
              · replace H := (if_neg (ndec_t hb39)).symm.trans H
                refine W_seq ?_
                refine W_reg (by kernel_rfl) ?_
                refine wla rfl rfl (q_assign (v := (.bool false)) rfl rfl) ?_
                refine wl_nil ?_
                refine W_th ?_
                refine W_ret ?_
                refine th_r ?_
                obtain rfl := Option.some.inj H
                refine rt1 (.bool false) rfl rfl rfl rfl ?_
                exact ⟨rfl, e38⟩
              · replace H := (if_pos (ndec_f hb39)).symm.trans H
                refine W_skip ?_
                refine W_th ?_
                refine W_seq ?_
                refine W_reg (by kernel_rfl) ?_
                refine wla rfl rfl (q_move (v := v15) rfl rfl) ?_
                refine wla rfl rfl (q_move (v := v19) rfl rfl) ?_
                refine wla rfl rfl (q_move (v := p2) rfl rfl) ?_
                obtain ⟨r40, hr40, H⟩ := Option.bind_eq_some_iff.1 H
                refine wls rfl rfl (stp_call (vs := [v15, v19, p2]) Try.func19 rfl rfl rfl (ar3 rfl rfl rfl) (poly_Mul_calls r15 r19 a2o v15 v19 p2 r40 _ (i15_0.lift (Lift.sub (fun _ _ => trivial))) (i19_0.lift (Lift.sub (fun _ _ => trivial))) (hp2.lift (Lift.ext e38 _)) hr40) ?_)
                rintro _ w40 ⟨v40_0, rfl, x40, n40_0, o40_0⟩
                refine ⟨_, rfl, ?_⟩
                have i40_0 : By w40 [] v40_0 r40.1 := OwK.slk (Sc.stab _) _ (OwK.scal o40_0 (v40_0 :: [])) (fun k hk => (Old.nil _) k (n40_0 k hk)) (fun _ h => h.2)
                replace i15_0 := i15_0.lift (Lift.ext x40 _)
                replace i17_0 := i17_0.lift (Lift.ext x40 _)
                replace i19_0 := i19_0.lift (Lift.ext x40 _)
                have e41 := e38.trans x40
                refine wla rfl rfl (q_move (v := (.tuple #[v40_0, (i64 r40.2)])) rfl rfl) ?_
                refine wla rfl rfl (q_extract rfl rfl rfl) ?_
                refine wla rfl rfl (q_extract rfl rfl rfl) ?_
                refine wla rfl rfl (q_assign (v := v40_0) rfl rfl) ?_
                refine wla rfl rfl (q_assign (v := (i64 r40.2)) rfl rfl) ?_
                refine wl_nil ?_
                refine W_th ?_
                refine W_seq ?_
                refine W_reg (by kernel_rfl) ?_
                refine wla rfl rfl (q_move (v := v15) rfl rfl) ?_
                refine wla rfl rfl (q_move (v := p0) rfl rfl) ?_
                refine wla rfl rfl (q_move (v := p2) rfl rfl) ?_
                obtain ⟨r42, hr42, H⟩ := Option.bind_eq_some_iff.1 H
                refine wls rfl rfl (stp_call (vs := [v15, p0, p2]) Try.func19 rfl rfl rfl (ar3 rfl rfl rfl) (poly_Mul_calls r15 a0p a2o v15 p0 p2 r42 _ (i15_0.lift (Lift.sub (fun _ _ => trivial))) (hp0.lift (Lift.ext e41 _)) (hp2.lift (Lift.ext e41 _)) hr42) ?_)
                rintro _ w42 ⟨v42_0, rfl, x42, n42_0, o42_0⟩
                refine ⟨_, rfl, ?_⟩
                have i42_0 : By w42 [] v42_0 r42.1 := OwK.slk (Sc.stab _) _ (OwK.scal o42_0 (v42_0 :: [])) (fun k hk => (Old.nil _) k (n42_0 k hk)) (fun _ h => h.2)
                replace i15_0 := i15_0.lift (Lift.ext x42 _)
                replace i17_0 := i17_0.lift (Lift.ext x42 _)
                replace i19_0 := i19_0.lift (Lift.ext x42 _)
                replace i40_0 := i40_0.lift (Lift.ext x42 _)
                have e43 := e41.trans x42
                refine wla rfl rfl (q_move (v := (.tuple #[v42_0, (i64 r42.2)])) rfl rfl) ?_
                refine wla rfl rfl (q_extract rfl rfl rfl) ?_
                refine wla rfl rfl (q_extract rfl rfl rfl) ?_
                refine wla rfl rfl (q_assign (v := v42_0) rfl rfl) ?_
                refine wla rfl rfl (q_assign (v := (i64 r42.2)) rfl rfl) ?_
                refine wl_nil ?_
                refine W_th ?_
                refine W_seq ?_
                refine W_reg (by kernel_rfl) ?_
                refine wla rfl rfl (q_move (v := v15) rfl rfl) ?_
                refine wla rfl rfl (q_move (v := p1) rfl rfl) ?_
                refine wla rfl rfl (q_move (v := p2) rfl rfl) ?_
                obtain ⟨r44, hr44, H⟩ := Option.bind_eq_some_iff.1 H
                refine wls rfl rfl (stp_call (vs := [v15, p1, p2]) Try.func19 rfl rfl rfl (ar3 rfl rfl rfl) (poly_Mul_calls r15 a1q a2o v15 p1 p2 r44 _ (i15_0.lift (Lift.sub (fun _ _ => trivial))) (hp1.lift (Lift.ext e43 _)) (hp2.lift (Lift.ext e43 _)) hr44) ?_)
                rintro _ w44 ⟨v44_0, rfl, x44, n44_0, o44_0⟩
                refine ⟨_, rfl, ?_⟩
                have i44_0 : By w44 [] v44_0 r44.1 := OwK.slk (Sc.stab _) _ (OwK.scal o44_0 (v44_0 :: [])) (fun k hk => (Old.nil _) k (n44_0 k hk)) (fun _ h => h.2)
                replace i15_0 := i15_0.lift (Lift.ext x44 _)
                replace i17_0 := i17_0.lift (Lift.ext x44 _)
                replace i19_0 := i19_0.lift (Lift.ext x44 _)
                replace i40_0 := i40_0.lift (Lift.ext x44 _)
                replace i42_0 := i42_0.lift (Lift.ext x44 _)
                have e45 := e43.trans x44
                refine wla rfl rfl (q_move (v := (.tuple #[v44_0, (i64 r44.2)])) rfl rfl) ?_
                refine wla rfl rfl (q_extract rfl rfl rfl) ?_
                refine wla rfl rfl (q_extract rfl rfl rfl) ?_
                refine wla rfl rfl (q_assign (v := v44_0) rfl rfl) ?_
                refine wla rfl rfl (q_assign (v := (i64 r44.2)) rfl rfl) ?_
                refine wl_nil ?_
                refine W_th ?_
                refine W_seq ?_
                refine W_draw [12, 16, 21, 25] [(0, 0), (1, 0), (2, 0), (3, 0), (4, 0), (5, 0), (6, 0), (7, 0), (8, 0), (9, 0), (10, 0), (11, 0), (12, 1), (13, 0), (14, 0), (15, 2), (16, 1), (17, 0), (18, 0), (19, 0), (20, 0), (21, 1), (22, 0), (23, 0), (24, 2), (25, 1), (26, 0), (27, 0), (28, 0)] mixed (by kernel_rfl) (by kernel_rfl) (by kernel_rfl) (by kernel_rfl) ?_
                have x46 := Ext.drew w44
                replace i15_0 := i15_0.lift (Lift.ext x46 _)
                replace i17_0 := i17_0.lift (Lift.ext x46 _)
                replace i19_0 := i19_0.lift (Lift.ext x46 _)
                replace i40_0 := i40_0.lift (Lift.ext x46 _)
                replace i42_0 := i42_0.lift (Lift.ext x46 _)
                replace i44_0 := i44_0.lift (Lift.ext x46 _)
                have e47 := e45.trans x46
                refine wsa rfl rfl rfl (q_move (v := (i64 r40.2)) rfl rfl) ?_
                refine wsa rfl rfl rfl (q_eqI rfl rfl rfl) ?_
                refine wsb rfl rfl rfl (q_move (v := (.bool ((decide (r40.2 = 0))))) rfl rfl) (fun hb48 => ?_) (fun hb48 => ?_)
                · replace H := (if_pos (of_decide_eq_true hb48)).symm.trans H
                  refine wsa rfl rfl rfl (q_move (v := (i64 r42.2)) rfl rfl) ?_
                  refine wsa rfl rfl rfl (q_eqI rfl rfl rfl) ?_
                  refine wsa rfl rfl rfl (q_pick_t (v := (.bool ((decide (r42.2 = 0))))) rfl rfl rfl) ?_
                  refine wsb rfl rfl rfl (q_move (v := (.bool ((decide (r42.2 = 0))))) rfl rfl) (fun hb49 => ?_) (fun hb49 => ?_)
                  · replace H := (if_pos (of_decide_eq_true hb49)).symm.trans H
                    refine wsa rfl rfl rfl (q_move (v := (i64 r44.2)) rfl rfl) ?_
                    refine wsa rfl rfl rfl (q_eqI rfl rfl rfl) ?_
                    refine wsa rfl rfl rfl (q_pick_t (v := (.bool ((decide (r44.2 = 0))))) rfl rfl rfl) ?_
                    refine wsb rfl rfl rfl (q_move (v := (.bool ((decide (r44.2 = 0))))) rfl rfl) (fun hb50 => ?_) (fun hb50 => ?_)
                    · replace H := (if_pos (of_decide_eq_true hb50)).symm.trans H
                      refine wsa rfl rfl rfl (q_move (v := v40_0) rfl rfl) ?_
                      refine wsq rfl rfl rfl (q_str rfl T22 rfl rfl rfl i40_0) ?_
                      refine wsa rfl rfl rfl (q_move (v := v42_0) rfl rfl) ?_
                      refine wsa rfl rfl rfl (q_move (v := v44_0) rfl rfl) ?_
                      obtain ⟨r51, hr51, H⟩ := Option.bind_eq_some_iff.1 H
                      refine wss rfl rfl rfl (stp_call (vs := [v42_0, v44_0]) Try.func20 rfl rfl rfl (ar2 rfl rfl) (poly_Add_calls r42.1 r44.1 v42_0 v44_0 r51 _ (i42_0.lift (Lift.sub (fun _ _ => trivial))) (i44_0.lift (Lift.sub (fun _ _ => trivial))) hr51) ?_)
                      rintro _ w51 ⟨v51, rfl, x51, n51_0, o51_0⟩
                      refine ⟨_, rfl, x51, ?_⟩
                      have i51_0 : By w51 [] v51 r51 := OwK.slk (Sc.stab _) _ (OwK.scal o51_0 (v51 :: [])) (fun k hk => (Old.nil _) k (n51_0 k hk)) (fun _ h => h.2)
                      replace i15_0 := i15_0.lift (Lift.ext x51 _)
                      replace i17_0 := i17_0.lift (Lift.ext x51 _)
                      replace i19_0 := i19_0.lift (Lift.ext x51 _)
                      replace i40_0 := i40_0.lift (Lift.ext x51 _)
                      replace i42_0 := i42_0.lift (Lift.ext x51 _)
                      replace i44_0 := i44_0.lift (Lift.ext x51 _)
                      have e52 := e47.trans x51
                      refine wsq rfl rfl rfl (q_str rfl T22 rfl rfl rfl i51_0) ?_
                      refine wsa rfl rfl rfl (q_eqS rfl rfl rfl) ?_
                      refine wsa rfl rfl rfl (q_pick_t (v := (.bool ((decide (r40.1 = r51))))) rfl rfl rfl) ?_
                      refine wsb rfl rfl rfl (q_move (v := (.bool ((decide (r40.1 = r51))))) rfl rfl) (fun hb53 => ?_) (fun hb53 => ?_)
                      · replace H := (if_pos (of_decide_eq_true hb53)).symm.trans H
                        refine wsa rfl rfl rfl (q_move (v := v19) rfl rfl) ?_
                        refine wsq rfl rfl rfl (q_str rfl T22 rfl rfl rfl i19_0) ?_
                        refine wsa rfl rfl rfl (q_move (v := p1) rfl rfl) ?_
                        refine wsa rfl rfl rfl (q_move (v := p0) rfl rfl) ?_
                        obtain ⟨r54, hr54, H⟩ := Option.bind_eq_some_iff.1 H
                        refine wss rfl rfl rfl (stp_call (vs := [p1, p0]) Try.func20 rfl rfl rfl (ar2 rfl rfl) (poly_Add_calls a1q a0p p1 p0 r54 _ (hp1.lift (Lift.ext e52 _)) (hp0.lift (Lift.ext e52 _)) hr54) ?_)
                        rintro _ w54 ⟨v54, rfl, x54, n54_0, o54_0⟩
                        refine ⟨_, rfl, x54, ?_⟩
                        have i54_0 : By w54 [] v54 r54 := OwK.slk (Sc.stab _) _ (OwK.scal o54_0 (v54 :: [])) (fun k hk => (Old.nil _) k (n54_0 k hk)) (fun _ h => h.2)
                        replace i15_0 := i15_0.lift (Lift.ext x54 _)
                        replace i17_0 := i17_0.lift (Lift.ext x54 _)
                        replace i19_0 := i19_0.lift (Lift.ext x54 _)
                        replace i40_0 := i40_0.lift (Lift.ext x54 _)
                        replace i42_0 := i42_0.lift (Lift.ext x54 _)
                        replace i44_0 := i44_0.lift (Lift.ext x54 _)
                        replace i51_0 := i51_0.lift (Lift.ext x54 _)
                        have e55 := e52.trans x54
                        refine wsq rfl rfl rfl (q_str rfl T22 rfl rfl rfl i54_0) ?_
                        refine wsa rfl rfl rfl (q_eqS rfl rfl rfl) ?_
                        refine wsa rfl rfl rfl (q_pick_t (v := (.bool ((decide (r19 = r54))))) rfl rfl rfl) ?_
                        refine wsa rfl rfl rfl (q_assign (v := (.bool ((decide (r19 = r54))))) rfl rfl) ?_
                        refine ws_nil ?_
                        refine W_th ?_
                        refine W_ret ?_
                        obtain rfl := Option.some.inj H
                        refine rt1 (.bool ((decide (r19 = r54)))) rfl rfl rfl rfl ?_
                        exact ⟨rfl, e55⟩
                      · replace H := (if_neg (of_decide_eq_false hb53)).symm.trans H
                        refine wsk rfl rfl rfl ?_
                        refine wsk rfl rfl rfl ?_
                        refine wsk rfl rfl rfl ?_
                        refine wsk rfl rfl rfl ?_
                        refine wsk rfl rfl rfl ?_
                        refine wsk rfl rfl rfl ?_
                        refine wsk rfl rfl rfl ?_
                        refine wsa rfl rfl rfl (q_pick_f (v := (.bool false)) rfl rfl rfl) ?_
                        refine wsa rfl rfl rfl (q_assign (v := (.bool false)) rfl rfl) ?_
                        refine ws_nil ?_
                        refine W_th ?_
                        refine W_ret ?_
                        obtain rfl := Option.some.inj H
                        refine rt1 (.bool false) rfl rfl rfl rfl ?_
                        exact ⟨rfl, e52⟩
                    · replace H := (if_neg (of_decide_eq_false hb50)).symm.trans H
                      refine wsk rfl rfl rfl ?_
                      refine wsk rfl rfl rfl ?_
                      refine wsk rfl rfl rfl ?_
                      refine wsk rfl rfl rfl ?_
                      refine wsk rfl rfl rfl ?_
                      refine wsk rfl rfl rfl ?_
                      refine wsk rfl rfl rfl ?_
                      refine wsa rfl rfl rfl (q_pick_f (v := (.bool false)) rfl rfl rfl) ?_
                      refine wsa rfl rfl rfl (q_move (v := (.bool false)) rfl rfl) ?_
                      refine wsk rfl rfl rfl ?_
                      refine wsk rfl rfl rfl ?_
                      refine wsk rfl rfl rfl ?_
                      refine wsk rfl rfl rfl ?_
                      refine wsk rfl rfl rfl ?_
                      refine wsk rfl rfl rfl ?_
                      refine wsk rfl rfl rfl ?_
                      refine wsa rfl rfl rfl (q_pick_f (v := (.bool false)) rfl rfl rfl) ?_
                      refine wsa rfl rfl rfl (q_assign (v := (.bool false)) rfl rfl) ?_
                      refine ws_nil ?_
                      refine W_th ?_
                      refine W_ret ?_
                      obtain rfl := Option.some.inj H
                      refine rt1 (.bool false) rfl rfl rfl rfl ?_
                      exact ⟨rfl, e47⟩
                  · replace H := (if_neg (of_decide_eq_false hb49)).symm.trans H
                    refine wsk rfl rfl rfl ?_
                    refine wsk rfl rfl rfl ?_
                    refine wsa rfl rfl rfl (q_pick_f (v := (.bool false)) rfl rfl rfl) ?_
                    refine wsa rfl rfl rfl (q_move (v := (.bool false)) rfl rfl) ?_
                    refine wsk rfl rfl rfl ?_
                    refine wsk rfl rfl rfl ?_
                    refine wsk rfl rfl rfl ?_
                    refine wsk rfl rfl rfl ?_
                    refine wsk rfl rfl rfl ?_
                    refine wsk rfl rfl rfl ?_
                    refine wsk rfl rfl rfl ?_
                    refine wsa rfl rfl rfl (q_pick_f (v := (.bool false)) rfl rfl rfl) ?_
                    refine wsa rfl rfl rfl (q_move (v := (.bool false)) rfl rfl) ?_
                    refine wsk rfl rfl rfl ?_
                    refine wsk rfl rfl rfl ?_
                    refine wsk rfl rfl rfl ?_
                    refine wsk rfl rfl rfl ?_
                    refine wsk rfl rfl rfl ?_
                    refine wsk rfl rfl rfl ?_
                    refine wsk rfl rfl rfl ?_
                    refine wsa rfl rfl rfl (q_pick_f (v := (.bool false)) rfl rfl rfl) ?_
                    refine wsa rfl rfl rfl (q_assign (v := (.bool false)) rfl rfl) ?_
                    refine ws_nil ?_
                    refine W_th ?_
                    refine W_ret ?_
                    obtain rfl := Option.some.inj H
                    refine rt1 (.bool false) rfl rfl rfl rfl ?_
                    exact ⟨rfl, e47⟩
                · replace H := (if_neg (of_decide_eq_false hb48)).symm.trans H
                  refine wsk rfl rfl rfl ?_
                  refine wsk rfl rfl rfl ?_
                  refine wsa rfl rfl rfl (q_pick_f (v := (.bool false)) rfl rfl rfl) ?_
                  refine wsa rfl rfl rfl (q_move (v := (.bool false)) rfl rfl) ?_
                  refine wsk rfl rfl rfl ?_
                  refine wsk rfl rfl rfl ?_
                  refine wsa rfl rfl rfl (q_pick_f (v := (.bool false)) rfl rfl rfl) ?_
                  refine wsa rfl rfl rfl (q_move (v := (.bool false)) rfl rfl) ?_
                  refine wsk rfl rfl rfl ?_
                  refine wsk rfl rfl rfl ?_
                  refine wsk rfl rfl rfl ?_
                  refine wsk rfl rfl rfl ?_
                  refine wsk rfl rfl rfl ?_
                  refine wsk rfl rfl rfl ?_
                  refine wsk rfl rfl rfl ?_
                  refine wsa rfl rfl rfl (q_pick_f (v := (.bool false)) rfl rfl rfl) ?_
                  refine wsa rfl rfl rfl (q_move (v := (.bool false)) rfl rfl) ?_
                  refine wsk rfl rfl rfl ?_
                  refine wsk rfl rfl rfl ?_
                  refine wsk rfl rfl rfl ?_
                  refine wsk rfl rfl rfl ?_
                  refine wsk rfl rfl rfl ?_
                  refine wsk rfl rfl rfl ?_
                  refine wsk rfl rfl rfl ?_
                  refine wsa rfl rfl rfl (q_pick_f (v := (.bool false)) rfl rfl rfl) ?_
                  refine wsa rfl rfl rfl (q_assign (v := (.bool false)) rfl rfl) ?_
                  refine ws_nil ?_
                  refine W_th ?_
                  refine W_ret ?_
                  obtain rfl := Option.some.inj H
                  refine rt1 (.bool false) rfl rfl rfl rfl ?_
                  exact ⟨rfl, e47⟩

/-! largesse/largesselaw03.PolySums -/
noncomputable def law03_PolySums (a0p : List UInt8) (a1q : List UInt8) (a2x : UInt8) : Option Bool :=
((law03_lives ).bind fun r1 =>
(if (!r1) = true then
((law03_lives ).bind fun r4 => some r4)
else
(if 60 < (a0p.length : Int) then
((law03_lives ).bind fun r7 => some r7)
else
(if 60 < (a1q.length : Int) then
((law03_lives ).bind fun r10 => some r10)
else
((field_New ).bind fun r12 =>
((appL (([] : List UInt8)) a0p).bind fun c17 =>
((poly_Mul r12 c17 a1q).bind fun r20 =>
((makeL ((if (a0p.length : Int) < (a1q.length : Int) then (a1q.length : Int) else (a0p.length : Int))) (0 : UInt8)).bind fun c22 =>
((iterC (fun s28 : List UInt8 × Int =>
(if s28.2 < (a1q.length : Int) then
((idx s28.1 s28.2).bind fun c33 =>
((idx a1q s28.2).bind fun c34 => some (.inl ((s28.1.set (s28.2 : Int).toNat ((c33 ^^^ c34))), (wI (s28.2 + 1))))))
else some (.inr s28.1))) ((copyL c22 0 a0p), 0)).bind fun x28 =>
(if r20.2 = 0 then
((ref03_Mul a0p a1q).bind fun r42 =>
(if r20.1 = r42 then
((poly_Add c17 a1q).bind fun r45 =>
((ref03_Trim x28).bind fun r47 =>
(if r45 = r47 then
(if c17 = a0p then
((poly_Eval r12 a0p a2x).bind fun r53 =>
((ref03_Eval a0p a2x).bind fun r55 =>
(if r53 = r55 then
((poly_Eval false a0p a2x).bind fun r58 =>
(if r58 = (0 : UInt8) then
((poly_Trim a0p).bind fun r61 =>
((ref03_Trim a0p).bind fun r63 =>
(if r61 = r63 then
((poly_Degree a0p).bind fun r66 =>
((ref03_Trim a0p).bind fun r68 => some (decide (r66 = (wI ((r68.length : Int) - 1))))))
else some false)))
else some false))
else some false)))
else some false)
else some false)))
else some false))
else some false))))))))))
set_option maxRecDepth 100000 in
set_option maxHeartbeats 8000000 in
theorem law03_PolySums_calls (a0p : List UInt8) (a1q : List UInt8) (a2x : UInt8) (p0 : Value) (p1 : Value) (r : Bool) (w0 : World) (hp0 : By w0 [] p0 a0p) (hp1 : By w0 [] p1 a1q) (H : law03_PolySums a0p a1q a2x = some r) :
    Calls Try.prog 4 [p0, p1, (u8 a2x)].toArray w0 (fun e w' => e = .returned (.bool r) ∧ Ext w0 w') := by
  have hE : Ext w0 w0 := Ext.refl w0
  unfold law03_PolySums at H
  refine calls_W (n := 122) Try.func4 rfl rfl rfl ?_
  refine W_seq ?_
  refine W_reg (by kernel_rfl) ?_
  refine wla rfl rfl (q_assign (v := (.bool false)) rfl rfl) ?_
  refine wl_nil ?_
  refine W_th ?_
  refine W_seq ?_
  refine W_seq ?_
  refine W_reg (by kernel_rfl) ?_
  obtain ⟨r1, hr1, H⟩ := Option.bind_eq_some_iff.1 H
  refine wls rfl rfl (stp_call (vs := []) Try.func17 rfl rfl rfl (ar0 ) (law03_lives_calls   r1 _  hr1) ?_)
  rintro _ w1 ⟨rfl, x1⟩
  refine ⟨_, rfl, ?_⟩
  have e2 := hE.trans x1
  refine wla rfl rfl (q_not rfl rfl) ?_
  refine wlb rfl rfl (q_move (v := (.bool ((!r1)))) rfl rfl) (fun hb3 => ?_) (fun hb3 => ?_)
  · replace H := (if_pos hb3).symm.trans H
    refine wlk rfl rfl ?_
    refine wlk rfl rfl ?_
    refine wlk rfl rfl ?_
    refine wla rfl rfl (q_pick_t (v := (.bool true)) rfl rfl rfl) ?_
    refine wla rfl rfl (q_move (v := (.bool true)) rfl rfl) ?_
    refine wlk rfl rfl ?_
    refine wlk rfl rfl ?_
    refine wlk rfl rfl ?_
    refine wla rfl rfl (q_pick_t (v := (.bool true)) rfl rfl rfl) ?_
    refine wl_nil ?_
    refine W_th ?_
    refine W_cond true rfl rfl (fun _ => ?_) (fun hb => by cases hb)
    refine W_seq ?_
    refine W_reg (by kernel_rfl) ?_
    obtain ⟨r4, hr4, H⟩ := Option.bind_eq_some_iff.1 H
    refine wls rfl rfl (stp_call (vs := []) Try.func17 rfl rfl rfl (ar0 ) (law03_lives_calls   r4 _  hr4) ?_)
    rintro _ w4 ⟨rfl, x4⟩
    refine ⟨_, rfl, ?_⟩
    have e5 := e2.trans x4
    refine wla rfl rfl (q_assign (v := (.bool r4)) rfl rfl) ?_
    refine wl_nil ?_
    refine W_th ?_
    refine W_ret ?_
    refine th_r ?_
    obtain rfl := Option.some.inj H
    refine rt1 (.bool r4) rfl rfl rfl rfl ?_
    exact ⟨rfl, e5⟩
  · replace H := (if_neg (ne_true_of_eq_false hb3)).symm.trans H
    refine wla rfl rfl (q_move (v := p0) rfl rfl) ?_
    refine wla rfl rfl (q_len rfl T22.sl rfl (hp0.lift (Lift.ext e2 _))) ?_
    refine wla rfl rfl (q_gtI rfl rfl rfl) ?_
    refine wla rfl rfl (q_pick_f (v := (.bool ((decide (60 < (a0p.length : Int)))))) rfl rfl rfl) ?_
    refine wlb rfl rfl (q_move (v := (.bool ((decide (60 < (a0p.length : Int)))))) rfl rfl) (fun hb6 => ?_) (fun hb6 => ?_)
    · replace H := (if_pos (of_decide_eq_true hb6)).symm.trans H
      refine wlk rfl rfl ?_
      refine wlk rfl rfl ?_
      refine wlk rfl rfl ?_
      refine wla rfl rfl (q_pick_t (v := (.bool true)) rfl rfl rfl) ?_
      refine wl_nil ?_
      refine W_th ?_
      refine W_cond true rfl rfl (fun _ => ?_) (fun hb => by cases hb)
      refine W_seq ?_
      refine W_reg (by kernel_rfl) ?_
      obtain ⟨r7, hr7, H⟩ := Option.bind_eq_some_iff.1 H
      refine wls rfl rfl (stp_call (vs := []) Try.func17 rfl rfl rfl (ar0 ) (law03_lives_calls   r7 _  hr7) ?_)
      rintro _ w7 ⟨rfl, x7⟩
      refine ⟨_, rfl, ?_⟩
      have e8 := e2.trans x7
      refine wla rfl rfl (q_assign (v := (.bool r7)) rfl rfl) ?_
      refine wl_nil ?_
      refine W_th ?_
      refine W_ret ?_
      refine th_r ?_
      obtain rfl := Option.some.inj H
      refine rt1 (.bool r7) rfl rfl rfl rfl ?_
      exact ⟨rfl, e8⟩
    · replace H := (if_neg (of_decide_eq_false hb6)).symm.trans H
      refine wla rfl rfl (q_move (v := p1) rfl rfl) ?_
      refine wla rfl rfl (q_len rfl T22.sl rfl (hp1.lift (Lift.ext e2 _))) ?_
      refine wla rfl rfl (q_gtI rfl rfl rfl) ?_
      refine wla rfl rfl (q_pick_f (v := (.bool ((decide (60 < (a1q.length : Int)))))) rfl rfl rfl) ?_
      refine wl_nil ?_
      refine W_th ?_
      refine W_cond _ rfl rfl (fun hb9 => ?_) (fun hb9 => ?_)
      · replace H := (if_pos (of_decide_eq_true hb9)).symm.trans H
        refine W_seq ?_
        refine W_reg (by kernel_rfl) ?_
        obtain ⟨r10, hr10, H⟩ := Option.bind_eq_some_iff.1 H
        refine wls rfl rfl (stp_call (vs := []) Try.func17 rfl rfl rfl (ar0 ) (law03_lives_calls   r10 _  hr10) ?_)
        rintro _ w10 ⟨rfl, x10⟩
        refine ⟨_, rfl, ?_⟩
        have e11 := e2.trans x10
        refine wla rfl rfl (q_assign (v := (.bool r10)) rfl rfl) ?_
        refine wl_nil ?_
        refine W_th ?_
        refine W_ret ?_
        refine th_r ?_
        obtain rfl := Option.some.inj H
        refine rt1 (.bool r10) rfl rfl rfl rfl ?_
        exact ⟨rfl, e11⟩
      · replace H := (if_neg (of_decide_eq_false hb9)).symm.trans H
        refine W_skip ?_
        refine W_th ?_
        refine W_seq ?_
        refine W_reg (by kernel_rfl) ?_
        obtain ⟨r12, hr12, H⟩ := Option.bind_eq_some_iff.1 H
        refine wls rfl rfl (stp_call (vs := []) Try.func18 rfl rfl rfl (ar0 ) (field_New_calls   r12 _ [] (Old.nil _)  hr12) ?_)
        rintro _ w12 ⟨v12, rfl, x12, i12_0⟩
        refine ⟨_, rfl, ?_⟩
        have e13 := e2.trans x12
        refine wla rfl rfl (q_assign (v := v12) rfl rfl) ?_
        refine wl_nil ?_
        refine W_th ?_
        refine W_seq ?_
        refine W_reg (by kernel_rfl) ?_
        refine wls rfl rfl (stp_lit (L := []) (R := (Sc u8)) [] ([] : List UInt8) rfl T22 rfl (by exact trivial) rfl (litC u8 (oneC_u8) (us := []) (l := ([] : List UInt8)) rfl) rfl (litS u8 (us := []) (l := ([] : List UInt8)) rfl) ?_)
        intro v14 w14 o14 n14 g14 l14
        have x14 := grown_ext g14
        replace i12_0 := i12_0.lift (Lift.call _ x14 n14)
        have n16 := Nw.ext e13 n14
        have e15 := e13.trans x14
        refine wla rfl rfl (q_move (v := p0) rfl rfl) ?_
        obtain ⟨c17, hc17, H⟩ := Option.bind_eq_some_iff.1 H
        refine wls rfl rfl (stp_append (R := (Sc u8)) (v := v14) (u := p0) (Sc.stab _) [] [] rfl T22 rfl rfl o14 (hp0.lift (Lift.ext e15 _)) (fun _ _ h => h) hc17 oc_u8 ?_)
        intro v17 w17 o17 g17 nx17 l17
        replace i12_0 := i12_0.lift l17
        have e18 := e15.grown g17 n16
        have n19 := Nw.nxt e15 n16 nx17
        refine wla rfl rfl (q_assign (v := v17) rfl rfl) ?_
        refine wl_nil ?_
        refine W_th ?_
        refine W_seq ?_
        refine W_reg (by kernel_rfl) ?_
        refine wla rfl rfl (q_move (v := v12) rfl rfl) ?_
        refine wla rfl rfl (q_move (v := v17) rfl rfl) ?_
        refine wla rfl rfl (q_move (v := p1) rfl rfl) ?_
        obtain ⟨r20, hr20, H⟩ := Option.bind_eq_some_iff.1 H
        refine wls rfl rfl (stp_call (vs := [v12, v17, p1]) Try.func19 rfl rfl rfl (ar3 rfl rfl rfl) (poly_Mul_calls r12 c17 a1q v12 v17 p1 r20 _ (i12_0.lift (Lift.sub (fun _ _ => trivial))) (o17.rd (Sc.stab _)) (hp1.lift (Lift.ext e18 _)) hr20) ?_)
        rintro _ w20 ⟨v20_0, rfl, x20, n20_0, o20_0⟩
        refine ⟨_, rfl, ?_⟩
        have i20_0 : By w20 [v17] v20_0 r20.1 := OwK.slk (Sc.stab _) _ (OwK.scal o20_0 (v20_0 :: [v17])) (fun k hk => (Old.cons (Old.nil _) o17.lt) k (n20_0 k hk)) (fun _ h => h.2)
        replace i12_0 := i12_0.lift (Lift.ext x20 _)
        replace o17 := o17.extL (Sc.stab _) x20 (Lift.ext x20 _)
        have e21 := e18.trans x20
        refine wla rfl rfl (q_move (v := (.tuple #[v20_0, (i64 r20.2)])) rfl rfl) ?_
        refine wla rfl rfl (q_extract rfl rfl rfl) ?_
        refine wla rfl rfl (q_extract rfl rfl rfl) ?_
        refine wla rfl rfl (q_assign (v := v20_0) rfl rfl) ?_
        refine wla rfl rfl (q_assign (v := (i64 r20.2)) rfl rfl) ?_
        refine wl_nil ?_
        refine W_th ?_
        refine W_seq ?_
        refine W_reg (by kernel_rfl) ?_
        refine wla rfl rfl (q_move (v := p0) rfl rfl) ?_
        refine wla rfl rfl (q_len rfl T22.sl rfl (hp0.lift (Lift.ext e21 _))) ?_
        refine wla rfl rfl (q_move (v := p1) rfl rfl) ?_
        refine wla rfl rfl (q_len rfl T22.sl rfl (hp1.lift (Lift.ext e21 _))) ?_
        refine wla rfl rfl (q_maxI rfl rfl rfl) ?_
        obtain ⟨c22, hc22, H⟩ := Option.bind_eq_some_iff.1 H
        refine wls rfl rfl (stp_make (L := [v17]) (R := (Sc u8)) rfl T22 rfl rfl hc22 (fun _ _ => rfl) ?_)
        intro v22 w22 o22 n22 g22 l22
        have x22 := grown_ext g22
        have q23 : Nq v17 v22 := o17.nq n22
        replace i12_0 := i12_0.lift (Lift.call _ x22 n22)
        replace i20_0 := i20_0.lift (Lift.call _ x22 n22)
        replace o17 := o17.extL (Sc.stab _) x22 (Lift.call _ x22 n22)
        have n25 := Nw.ext e21 n22
        have e24 := e21.trans x22
        refine wla rfl rfl (q_assign (v := v22) rfl rfl) ?_
        refine wl_nil ?_
        refine W_th ?_
        refine W_seq ?_
        refine W_reg (by kernel_rfl) ?_
        refine wla rfl rfl (q_move (v := v22) rfl rfl) ?_
        refine wla rfl rfl (q_move (v := p0) rfl rfl) ?_
        refine wls rfl rfl (stp_copy (R := (Sc u8)) (off := 0) (dv := v22) (u := p0) (Sc.stab _) [] [v17] rfl T22 rfl rfl o22 (copy_whole o22) (by decide) (Int.natCast_nonneg _) (hp0.lift (Lift.ext e24 _)) (fun _ _ h => h) oc_u8 ?_)
        intro w26 o26 g26 l26
        replace i12_0 := i12_0.lift l26
        replace i20_0 := i20_0.lift l26
        replace o17 := o17.other (Sc.stab _) g26 q23 l26
        have e27 := e24.grown g26 n25
        refine wl_nil ?_
        refine W_th ?_
        refine W_seq ?_
        refine W_seq ?_
        refine W_reg (by kernel_rfl) ?_
        refine wla rfl rfl (q_move (v := p1) rfl rfl) ?_
        refine wla rfl rfl (q_len rfl T22.sl rfl (hp1.lift (Lift.ext e27 _))) ?_
        refine wla rfl rfl (q_move (v := (i64 0)) rfl rfl) ?_
        refine wl_nil ?_
        refine W_th ?_
        obtain ⟨x28, G28, H⟩ := Option.bind_eq_some_iff.1 H
        refine W_mid (fun f w => f 0 = p0 ∧ f 1 = p1 ∧ f 2 = (u8 a2x) ∧ f 7 = v12 ∧ f 8 = v17 ∧ f 9 = v20_0 ∧ f 10 = (i64 r20.2) ∧ f 11 = v22 ∧ f 122 = undef ∧ Ext w0 w ∧ OwK (Sc u8) w [v17, v22] 5 v17 c17 ∧ Nw w0 v17 ∧ OwK (Sc u8) w [v17, v22] 5 v22 x28 ∧ Nw w0 v22 ∧ Nq v17 v22 ∧ Fd w [v17, v22] v12 r12 ∧ By w [v17, v22] v20_0 r20.1) ?_ ?_
        · refine W_block ?_
          refine W_loop (fun s28 f w => f 0 = p0 ∧ f 1 = p1 ∧ f 2 = (u8 a2x) ∧ f 7 = v12 ∧ f 8 = v17 ∧ f 9 = v20_0 ∧ f 10 = (i64 r20.2) ∧ f 11 = v22 ∧ f 47 = (i64 ((a1q.length : Int))) ∧ f 48 = (i64 s28.2) ∧ f 122 = undef ∧ Ext w0 w ∧ OwK (Sc u8) w [v17, v22] 5 v17 c17 ∧ Nw w0 v17 ∧ OwK (Sc u8) w [v17, v22] 5 v22 s28.1 ∧ Nw w0 v22 ∧ Nq v17 v22 ∧ Fd w [v17, v22] v12 r12 ∧ By w [v17, v22] v20_0 r20.1) G28 ?_ ?_
          · exact ⟨rfl, rfl, rfl, rfl, rfl, rfl, rfl, rfl, rfl, rfl, rfl, e27, (o17.weak (Sc.stab _) (fun _ h => ⟨h.2.1, h.1, trivial⟩)), n19, (o26.weak (Sc.stab _) (fun _ h => ⟨h.2.1, h.1, trivial⟩)), n25, q23, (i12_0.lift (Lift.sub (fun _ h => ⟨h.2.1, h.1, trivial⟩))), (i20_0.lift (Lift.sub (fun _ h => ⟨h.2.1, h.1, trivial⟩)))⟩
          · rintro s28 _ _ w29 ⟨s0_29, s1_29, s2_29, s7_29, s8_29, s9_29, s10_29, s11_29, s47_29, s48_29, s122_29, hE29, o0_29, n0_29, o1_29, n1_29, q0_1_29, i0_29, i1_29⟩ H28 hr28
            refine W_seq ?_
            refine W_reg (by kernel_rfl) ?_
            refine wla rfl rfl (q_ltI rfl s48_29 s47_29) ?_
            refine wl_nil ?_
            refine W_th ?_
            refine W_seq ?_
            refine W_cond _ rfl rfl (fun hb30 => ?_) (fun hb30 => ?_)
            · replace H28 := (if_pos (of_decide_eq_true hb30)).symm.trans H28
              refine W_skip ?_
              refine W_th ?_
              refine W_seq ?_
              refine W_block ?_
              refine W_seq ?_
              refine W_reg (by kernel_rfl) ?_
              refine wla rfl rfl (q_move (v := (i64 s28.2)) rfl s48_29) ?_
              refine wla rfl rfl (q_assign (v := (i64 s28.2)) rfl rfl) ?_
              refine wl_nil ?_
              refine W_th ?_
              refine W_draw [3, 7] [(0, 0), (1, 0), (2, 0), (3, 1), (4, 0), (5, 0), (6, 0), (7, 1), (8, 0), (9, 0), (10, 2)] mixed (by kernel_rfl) (by kernel_rfl) (by kernel_rfl) (by kernel_rfl) ?_
              have x31 := Ext.drew w29
              replace i0_29 := i0_29.lift (Lift.ext x31 _)
              replace i1_29 := i1_29.lift (Lift.ext x31 _)
              replace o0_29 := o0_29.extL (Sc.stab _) x31 (Lift.ext x31 _)
              replace o1_29 := o1_29.extL (Sc.stab _) x31 (Lift.ext x31 _)
              have e32 := hE29.trans x31
              refine wsa rfl rfl rfl (q_move (v := v22) rfl s11_29) ?_
              refine wsa rfl rfl rfl (q_move (v := (i64 s28.2)) rfl rfl) ?_
              obtain ⟨c33, hc33, H28⟩ := Option.bind_eq_some_iff.1 H28
              refine wsa rfl rfl rfl (q_adr rfl T22 rfl rfl (o1_29.rd (Sc.stab _)) hc33) ?_
              refine wsq rfl rfl rfl (q_loadS rfl T22 rfl (o1_29.rd (Sc.stab _)) hc33) ?_
              refine wsa rfl rfl rfl (q_move (v := p1) rfl s1_29) ?_
              refine wsa rfl rfl rfl (q_move (v := (i64 s28.2)) rfl rfl) ?_
              obtain ⟨c34, hc34, H28⟩ := Option.bind_eq_some_iff.1 H28
              refine wsa rfl rfl rfl (q_adr rfl T22 rfl rfl (hp1.lift (Lift.ext e32 _)) hc34) ?_
              refine wsq rfl rfl rfl (q_loadS rfl T22 rfl (hp1.lift (Lift.ext e32 _)) hc34) ?_
              refine wsa rfl rfl rfl (q_xor8 rfl rfl rfl) ?_
              refine wsa rfl rfl rfl (q_adr rfl T22 rfl rfl (o1_29.rd (Sc.stab _)) hc33) ?_
              refine wsn rfl (by kernel_rfl) rfl rfl (stp_store (R := (Sc u8)) (u := (u8 ((c33 ^^^ c34)))) (Sc.stab _) [v17] [] rfl T22 rfl rfl o1_29 (put_of ((c33 ^^^ c34)) hc33) rfl rfl ?_)
              intro w35 o35 g35 l35
              replace i0_29 := i0_29.lift l35
              replace i1_29 := i1_29.lift l35
              replace o0_29 := o0_29.other (Sc.stab _) g35 q0_1_29 l35
              have e36 := e32.grown g35 n1_29
              refine ws_nil ?_
              refine bk_n ?_
              refine W_th ?_
              refine W_reg (by kernel_rfl) ?_
              refine wla rfl rfl (q_addI rfl s48_29 rfl) ?_
              refine wla rfl rfl (q_move (v := (i64 ((wI (s28.2 + 1))))) rfl rfl) ?_
              refine wl_nil ?_
              obtain rfl := Option.some.inj H28
              exact ⟨_, rfl, s0_29, s1_29, s2_29, s7_29, s8_29, s9_29, s10_29, s11_29, s47_29, rfl, s122_29, e36, o0_29, n0_29, o35, n1_29, q0_1_29, i0_29, i1_29⟩
            · replace H28 := (if_neg (of_decide_eq_false hb30)).symm.trans H28
              refine W_exit ?_
              refine th_x ?_
              obtain rfl := Option.some.inj H28
              obtain rfl := hr28 _ rfl
              refine th_x ?_
              refine bk_x ?_
              exact ⟨s0_29, s1_29, s2_29, s7_29, s8_29, s9_29, s10_29, s11_29, s122_29, hE29, o0_29, n0_29, o1_29, n1_29, q0_1_29, i0_29, i1_29⟩
        · rintro _ w38 ⟨s0_38, s1_38, s2_38, s7_38, s8_38, s9_38, s10_38, s11_38, s122_38, hE38, o0_38, n0_38, o1_38, n1_38, q0_1_38, i0_38, i1_38⟩
          refine W_th ?_
          refine W_seq ?_
          refine W_seq ?_
          refine W_draw [4, 8, 15, 18, 23, 25] [(0, 0), (1, 0), (2, 0), (3, 0), (4, 1), (5, 0), (6, 0), (7, 2), (8, 1), (9, 0), (10, 0), (11, 0), (12, 0), (13, 0), (16, 0), (14, 2), (15, 1), (17, 2), (18, 1), (19, 0), (20, 0), (21, 0), (22, 0), (23, 1), (24, 0), (25, 1), (26, 0), (27, 0)] mixed (by kernel_rfl) (by kernel_rfl) (by kernel_rfl) (by kernel_rfl) ?_
          have x39 := Ext.drew w38
          replace i0_38 := i0_38.lift (Lift.ext x39 _)
          replace i1_38 := i1_38.lift (Lift.ext x39 _)
          replace o0_38 := o0_38.extL (Sc.stab _) x39 (Lift.ext x39 _)
          replace o1_38 := o1_38.extL (Sc.stab _) x39 (Lift.ext x39 _)
          have e40 := hE38.trans x39
          refine wsa rfl rfl rfl (q_move (v := (i64 r20.2)) rfl s10_38) ?_
          refine wsa rfl rfl rfl (q_neI rfl rfl rfl) ?_
          refine wsb rfl rfl rfl (q_move (v := (.bool ((!decide (r20.2 = 0))))) rfl rfl) (fun hb41 => ?_) (fun hb41 => ?_)
          · replace H := (if_neg (ndec_t hb41)).symm.trans H
            refine wsk rfl rfl rfl ?_
            refine wsk rfl rfl rfl ?_
            refine wsk rfl rfl rfl ?_
            refine wsk rfl rfl rfl ?_
            refine wsk rfl rfl rfl ?_
            refine wsk rfl rfl rfl ?_
            refine wsk rfl rfl rfl ?_
            refine wsa rfl rfl rfl (q_pick_t (v := (.bool true)) rfl rfl rfl) ?_
            refine wsa rfl rfl rfl (q_move (v := (.bool true)) rfl rfl) ?_
            refine wsk rfl rfl rfl ?_
            refine wsk rfl rfl rfl ?_
            refine wsk rfl rfl rfl ?_
            refine wsk rfl rfl rfl ?_
            refine wsk rfl rfl rfl ?_
            refine wsk rfl rfl rfl ?_
            refine wsk rfl rfl rfl ?_
            refine wsk rfl rfl rfl ?_
            refine wsa rfl rfl rfl (q_pick_t (v := (.bool true)) rfl rfl rfl) ?_
            refine wsa rfl rfl rfl (q_move (v := (.bool true)) rfl rfl) ?_
            refine wsk rfl rfl rfl ?_
            refine wsk rfl rfl rfl ?_
            refine wsk rfl rfl rfl ?_
            refine wsk rfl rfl rfl ?_
            refine wsk rfl rfl rfl ?_
            refine wsa rfl rfl rfl (q_pick_t (v := (.bool true)) rfl rfl rfl) ?_
            refine ws_nil ?_
            refine W_th ?_
            refine W_cond true rfl rfl (fun _ => ?_) (fun hb => by cases hb)
            refine W_seq ?_
            refine W_reg (by kernel_rfl) ?_
            refine wla rfl rfl (q_assign (v := (.bool false)) rfl rfl) ?_
            refine wl_nil ?_
            refine W_th ?_
            refine W_ret ?_
            refine th_r ?_
            obtain rfl := Option.some.inj H
            refine rt1 (.bool false) rfl rfl rfl s122_38 ?_
            exact ⟨rfl, e40⟩
          · replace H := (if_pos (ndec_f hb41)).symm.trans H
            refine wsa rfl rfl rfl (q_move (v := v20_0) rfl s9_38) ?_
            refine wsq rfl rfl rfl (q_str rfl T22 rfl rfl rfl i1_38) ?_
            refine wsa rfl rfl rfl (q_move (v := p0) rfl s0_38) ?_
            refine wsa rfl rfl rfl (q_move (v := p1) rfl s1_38) ?_
            obtain ⟨r42, hr42, H⟩ := Option.bind_eq_some_iff.1 H
            refine wss rfl rfl rfl (stp_call (vs := [p0, p1]) Try.func24 rfl rfl rfl (ar2 rfl rfl) (ref03_Mul_calls a0p a1q p0 p1 r42 _ (hp0.lift (Lift.ext e40 _)) (hp1.lift (Lift.ext e40 _)) hr42) ?_)
            rintro _ w42 ⟨v42, rfl, x42, n42_0, o42_0⟩
            refine ⟨_, rfl, x42, ?_⟩
            have i42_0 : By w42 [v17, v22] v42 r42 := OwK.slk (Sc.stab _) _ (OwK.scal o42_0 (v42 :: [v17, v22])) (fun k hk => (Old.cons (Old.cons (Old.nil _) o1_38.lt) o0_38.lt) k (n42_0 k hk)) (fun _ h => h.2)
            replace i0_38 := i0_38.lift (Lift.ext x42 _)
            replace i1_38 := i1_38.lift (Lift.ext x42 _)
            replace o0_38 := o0_38.extL (Sc.stab _) x42 (Lift.ext x42 _)
            replace o1_38 := o1_38.extL (Sc.stab _) x42 (Lift.ext x42 _)
            have e43 := e40.trans x42
            refine wsq rfl rfl rfl (q_str rfl T22 rfl rfl rfl i42_0) ?_
            refine wsa rfl rfl rfl (q_neS rfl rfl rfl) ?_
            refine wsa rfl rfl rfl (q_pick_f (v := (.bool ((!decide (r20.1 = r42))))) rfl rfl rfl) ?_
            refine wsb rfl rfl rfl (q_move (v := (.bool ((!decide (r20.1 = r42))))) rfl rfl) (fun hb44 => ?_) (fun hb44 => ?_)
            · replace H := (if_neg (ndec_t hb44)).symm.trans H
              refine wsk rfl rfl rfl ?_
              refine wsk rfl rfl rfl ?_
              refine wsk rfl rfl rfl ?_
              refine wsk rfl rfl rfl ?_
              refine wsk rfl rfl rfl ?_
              refine wsk rfl rfl rfl ?_
              refine wsk rfl rfl rfl ?_
              refine wsk rfl rfl rfl ?_
              refine wsa rfl rfl rfl (q_pick_t (v := (.bool true)) rfl rfl rfl) ?_
              refine wsa rfl rfl rfl (q_move (v := (.bool true)) rfl rfl) ?_
              refine wsk rfl rfl rfl ?_
              refine wsk rfl rfl rfl ?_
              refine wsk rfl rfl rfl ?_
              refine wsk rfl rfl rfl ?_
              refine wsk rfl rfl rfl ?_
              refine wsa rfl rfl rfl (q_pick_t (v := (.bool true)) rfl rfl rfl) ?_
              refine ws_nil ?_
              refine W_th ?_
              refine W_cond true rfl rfl (fun _ => ?_) (fun hb => by cases hb)
              refine W_seq ?_
              refine W_reg (by kernel_rfl) ?_
              refine wla rfl rfl (q_assign (v := (.bool false)) rfl rfl) ?_
              refine wl_nil ?_
              refine W_th ?_
              refine W_ret ?_
              refine th_r ?_
              obtain rfl := Option.some.inj H
              refine rt1 (.bool false) rfl rfl rfl s122_38 ?_
              exact ⟨rfl, e43⟩
            · replace H := (if_pos (ndec_f hb44)).symm.trans H
              refine wsa rfl rfl rfl (q_move (v := v17) rfl s8_38) ?_
              refine wsa rfl rfl rfl (q_move (v := p1) rfl s1_38) ?_
              refine wsa rfl rfl rfl (q_move (v := v22) rfl s11_38) ?_
              obtain ⟨r45, hr45, H⟩ := Option.bind_eq_some_iff.1 H
              refine wsc rfl (by kernel_rfl) rfl rfl (stp_call (vs := [v17, p1]) Try.func20 rfl rfl rfl (ar2 rfl rfl) (poly_Add_calls c17 a1q v17 p1 r45 _ (o0_38.rd (Sc.stab _)) (hp1.lift (Lift.ext e43 _)) hr45) ?_)
              rintro _ w45 ⟨v45, rfl, x45, n45_0, o45_0⟩
              refine ⟨_, rfl, ?_⟩
              have i45_0 : By w45 [v17, v22] v45 r45 := OwK.slk (Sc.stab _) _ (OwK.scal o45_0 (v45 :: [v17, v22])) (fun k hk => (Old.cons (Old.cons (Old.nil _) o1_38.lt) o0_38.lt) k (n45_0 k hk)) (fun _ h => h.2)
              replace i0_38 := i0_38.lift (Lift.ext x45 _)
              replace i1_38 := i1_38.lift (Lift.ext x45 _)
              replace i42_0 := i42_0.lift (Lift.ext x45 _)
              replace o0_38 := o0_38.extL (Sc.stab _) x45 (Lift.ext x45 _)
              replace o1_38 := o1_38.extL (Sc.stab _) x45 (Lift.ext x45 _)
              have e46 := e43.trans x45
              refine wsq rfl rfl rfl (q_str rfl T22 rfl rfl rfl i45_0) ?_
              obtain ⟨r47, hr47, H⟩ := Option.bind_eq_some_iff.1 H
              refine wss rfl rfl rfl (stp_call (vs := [v22]) Try.func25 rfl rfl rfl (ar1 rfl) (ref03_Trim_calls x28 v22 r47 _ (o1_38.rd (Sc.stab _)) hr47) ?_)
              rintro _ w47 ⟨v47, rfl, x47, n47_0, o47_0⟩
              refine ⟨_, rfl, x47, ?_⟩
              have i47_0 : By w47 [v17, v22] v47 r47 := OwK.slk (Sc.stab _) _ (OwK.scal o47_0 (v47 :: [v17, v22])) (fun k hk => (Old.cons (Old.cons (Old.nil _) o1_38.lt) o0_38.lt) k (n47_0 k hk)) (fun _ h => h.2)
              replace i0_38 := i0_38.lift (Lift.ext x47 _)
              replace i1_38 := i1_38.lift (Lift.ext x47 _)
              replace i42_0 := i42_0.lift (Lift.ext x47 _)
              replace i45_0 := i45_0.lift (Lift.ext x47 _)
              replace o0_38 := o0_38.extL (Sc.stab _) x47 (Lift.ext x47 _)
              replace o1_38 := o1_38.extL (Sc.stab _) x47 (Lift.ext x47 _)
              have e48 := e46.trans x47
              refine wsq rfl rfl rfl (q_str rfl T22 rfl rfl rfl i47_0) ?_
              refine wsa rfl rfl rfl (q_neS rfl rfl rfl) ?_
              refine wsa rfl rfl rfl (q_pick_f (v := (.bool ((!decide (r45 = r47))))) rfl rfl rfl) ?_
              refine wsb rfl rfl rfl (q_move (v := (.bool ((!decide (r45 = r47))))) rfl rfl) (fun hb49 => ?_) (fun hb49 => ?_)
              · replace H := (if_neg (ndec_t hb49)).symm.trans H
                refine wsk rfl rfl rfl ?_
                refine wsk rfl rfl rfl ?_
                refine wsk rfl rfl rfl ?_
                refine wsk rfl rfl rfl ?_
                refine wsk rfl rfl rfl ?_
                refine wsa rfl rfl rfl (q_pick_t (v := (.bool true)) rfl rfl rfl) ?_
                refine ws_nil ?_
                refine W_th ?_
                refine W_cond true rfl rfl (fun _ => ?_) (fun hb => by cases hb)
                refine W_seq ?_
                refine W_reg (by kernel_rfl) ?_
                refine wla rfl rfl (q_assign (v := (.bool false)) rfl rfl) ?_
                refine wl_nil ?_
                refine W_th ?_
                refine W_ret ?_
                refine th_r ?_
                obtain rfl := Option.some.inj H
                refine rt1 (.bool false) rfl rfl rfl s122_38 ?_
                exact ⟨rfl, e48⟩
              · replace H := (if_pos (ndec_f hb49)).symm.trans H
                refine wsa rfl rfl rfl (q_move (v := v17) rfl s8_38) ?_
                refine wsq rfl rfl rfl (q_str rfl T22 rfl rfl rfl (o0_38.rd (Sc.stab _))) ?_
                refine wsa rfl rfl rfl (q_move (v := p0) rfl s0_38) ?_
                refine wsq rfl rfl rfl (q_str rfl T22 rfl rfl rfl (hp0.lift (Lift.ext e48 _))) ?_
                refine wsa rfl rfl rfl (q_neS rfl rfl rfl) ?_
                refine wsa rfl rfl rfl (q_pick_f (v := (.bool ((!decide (c17 = a0p))))) rfl rfl rfl) ?_
                refine ws_nil ?_
                refine W_th ?_
                refine W_cond _ rfl rfl (fun hb50 => ?_) (fun hb50 => ?_)
                · replace H := (if_neg (ndec_t hb50)).symm.trans H
                  refine W_seq ?_
                  refine W_reg (by kernel_rfl) ?_
                  refine wla rfl rfl (q_assign (v := (.bool false)) rfl rfl) ?_
                  refine wl_nil ?_
                  refine W_th ?_
                  refine W_ret ?_
                  refine th_r ?_
                  obtain rfl := Option.some.inj H
                  refine rt1 (.bool false) rfl rfl rfl s122_38 ?_
                  exact ⟨rfl, e48⟩
                · replace H := (if_pos (ndec_f hb50)).symm.trans H
                  refine W_skip ?_
                  refine W_th ?_
                  refine W_seq ?_
                  refine W_draw [17, 20] [(0, 0), (1, 0), (2, 0), (4, 0), (5, 0), (3, 2), (6, 2), (7, 0), (8, 0), (9, 0), (10, 0), (11, 2), (12, 0), (13, 0), (14, 0), (15, 0), (18, 0), (16, 2), (17, 1), (19, 2), (20, 1), (21, 0), (22, 0), (23, 0), (24, 0), (26, 0), (25, 2), (27, 2), (28, 0), (29, 0), (30, 0), (31, 0), (32, 0)] mixed (by kernel_rfl) (by kernel_rfl) (by kernel_rfl) (by kernel_rfl) ?_
                  have x51 := Ext.drew w47
                  replace i0_38 := i0_38.lift (Lift.ext x51 _)
                  replace i1_38 := i1_38.lift (Lift.ext x51 _)
                  replace i42_0 := i42_0.lift (Lift.ext x51 _)
                  replace i45_0 := i45_0.lift (Lift.ext x51 _)
                  replace i47_0 := i47_0.lift (Lift.ext x51 _)
                  replace o0_38 := o0_38.extL (Sc.stab _) x51 (Lift.ext x51 _)
                  replace o1_38 := o1_38.extL (Sc.stab _) x51 (Lift.ext x51 _)
                  have e52 := e48.trans x51
                  refine wsa rfl rfl rfl (q_move (v := v12) rfl s7_38) ?_
                  refine wsa rfl rfl rfl (q_move (v := p0) rfl s0_38) ?_
                  refine wsa rfl rfl rfl (q_move (v := (u8 a2x)) rfl s2_38) ?_
                  refine wsa rfl rfl rfl (q_move (v := p0) rfl s0_38) ?_
                  refine wsa rfl rfl rfl (q_move (v := (u8 a2x)) rfl s2_38) ?_
                  obtain ⟨r53, hr53, H⟩ := Option.bind_eq_some_iff.1 H
                  refine wsc rfl (by kernel_rfl) rfl rfl (stp_call (vs := [v12, p0, (u8 a2x)]) Try.func21 rfl rfl rfl (ar3 rfl rfl rfl) (poly_Eval_calls r12 a0p a2x v12 p0 r53 _ (i0_38.lift (Lift.sub (fun _ _ => trivial))) (hp0.lift (Lift.ext e52 _)) hr53) ?_)
                  rintro _ w53 ⟨rfl, x53⟩
                  refine ⟨_, rfl, ?_⟩
                  replace i0_38 := i0_38.lift (Lift.ext x53 _)
                  replace i1_38 := i1_38.lift (Lift.ext x53 _)
                  replace i42_0 := i42_0.lift (Lift.ext x53 _)
                  replace i45_0 := i45_0.lift (Lift.ext x53 _)
                  replace i47_0 := i47_0.lift (Lift.ext x53 _)
                  replace o0_38 := o0_38.extL (Sc.stab _) x53 (Lift.ext x53 _)
                  replace o1_38 := o1_38.extL (Sc.stab _) x53 (Lift.ext x53 _)
                  have e54 := e52.trans x53
                  obtain ⟨r55, hr55, H⟩ := Option.bind_eq_some_iff.1 H
                  refine wsc rfl (by kernel_rfl) rfl rfl (stp_call (vs := [p0, (u8 a2x)]) Try.func26 rfl rfl rfl (ar2 rfl rfl) (ref03_Eval_calls a0p a2x p0 r55 _ (hp0.lift (Lift.ext e54 _)) hr55) ?_)
                  rintro _ w55 ⟨rfl, x55⟩
                  refine ⟨_, rfl, ?_⟩
                  replace i0_38 := i0_38.lift (Lift.ext x55 _)
                  replace i1_38 := i1_38.lift (Lift.ext x55 _)
                  replace i42_0 := i42_0.lift (Lift.ext x55 _)
                  replace i45_0 := i45_0.lift (Lift.ext x55 _)
                  replace i47_0 := i47_0.lift (Lift.ext x55 _)
                  replace o0_38 := o0_38.extL (Sc.stab _) x55 (Lift.ext x55 _)
                  replace o1_38 := o1_38.extL (Sc.stab _) x55 (Lift.ext x55 _)
                  have e56 := e54.trans x55
                  refine wsa rfl rfl rfl (q_eq8 rfl rfl rfl) ?_
                  refine wsb rfl rfl rfl (q_move (v := (.bool ((decide (r53 = r55))))) rfl rfl) (fun hb57 => ?_) (fun hb57 => ?_)
                  · replace H := (if_pos (of_decide_eq_true hb57)).symm.trans H
                    refine wsa rfl rfl rfl (q_move (v := p0) rfl s0_38) ?_
                    refine wsa rfl rfl rfl (q_move (v := (u8 a2x)) rfl s2_38) ?_
                    obtain ⟨r58, hr58, H⟩ := Option.bind_eq_some_iff.1 H
                    refine wsc rfl (by kernel_rfl) rfl rfl (stp_call (vs := [(.pointer none), p0, (u8 a2x)]) Try.func21 rfl rfl rfl (ar3 rfl rfl rfl) (poly_Eval_calls false a0p a2x (.pointer none) p0 r58 _ (Fd.nil _ _) (hp0.lift (Lift.ext e56 _)) hr58) ?_)
                    rintro _ w58 ⟨rfl, x58⟩
                    refine ⟨_, rfl, ?_⟩
                    replace i0_38 := i0_38.lift (Lift.ext x58 _)
                    replace i1_38 := i1_38.lift (Lift.ext x58 _)
                    replace i42_0 := i42_0.lift (Lift.ext x58 _)
                    replace i45_0 := i45_0.lift (Lift.ext x58 _)
                    replace i47_0 := i47_0.lift (Lift.ext x58 _)
                    replace o0_38 := o0_38.extL (Sc.stab _) x58 (Lift.ext x58 _)
                    replace o1_38 := o1_38.extL (Sc.stab _) x58 (Lift.ext x58 _)
                    have e59 := e56.trans x58
                    refine wsa rfl rfl rfl (q_eq8 rfl rfl (cst8 (0 : UInt8) rfl)) ?_
                    refine wsa rfl rfl rfl (q_pick_t (v := (.bool ((decide (r58 = (0 : UInt8)))))) rfl rfl rfl) ?_
                    refine wsb rfl rfl rfl (q_move (v := (.bool ((decide (r58 = (0 : UInt8)))))) rfl rfl) (fun hb60 => ?_) (fun hb60 => ?_)
                    · replace H := (if_pos (of_decide_eq_true hb60)).symm.trans H
                      refine wsa rfl rfl rfl (q_move (v := p0) rfl s0_38) ?_
                      refine wsa rfl rfl rfl (q_move (v := p0) rfl s0_38) ?_
                      obtain ⟨r61, hr61, H⟩ := Option.bind_eq_some_iff.1 H
                      refine wsc rfl (by kernel_rfl) rfl rfl (stp_call (vs := [p0]) Try.func27 rfl rfl rfl (ar1 rfl) (poly_Trim_calls a0p p0 r61 _ (hp0.lift (Lift.ext e59 _)) hr61) ?_)
                      rintro _ w61 ⟨v61, rfl, x61, n61_0, o61_0⟩
                      refine ⟨_, rfl, ?_⟩
                      have i61_0 : By w61 [v17, v22] v61 r61 := OwK.slk (Sc.stab _) _ (OwK.scal o61_0 (v61 :: [v17, v22])) (fun k hk => (Old.cons (Old.cons (Old.nil _) o1_38.lt) o0_38.lt) k (n61_0 k hk)) (fun _ h => h.2)
                      replace i0_38 := i0_38.lift (Lift.ext x61 _)
                      replace i1_38 := i1_38.lift (Lift.ext x61 _)
                      replace i42_0 := i42_0.lift (Lift.ext x61 _)
                      replace i45_0 := i45_0.lift (Lift.ext x61 _)
                      replace i47_0 := i47_0.lift (Lift.ext x61 _)
                      replace o0_38 := o0_38.extL (Sc.stab _) x61 (Lift.ext x61 _)
                      replace o1_38 := o1_38.extL (Sc.stab _) x61 (Lift.ext x61 _)
                      have e62 := e59.trans x61
                      refine wsq rfl rfl rfl (q_str rfl T22 rfl rfl rfl i61_0) ?_
                      obtain ⟨r63, hr63, H⟩ := Option.bind_eq_some_iff.1 H
                      refine wss rfl rfl rfl (stp_call (vs := [p0]) Try.func25 rfl rfl rfl (ar1 rfl) (ref03_Trim_calls a0p p0 r63 _ (hp0.lift (Lift.ext e62 _)) hr63) ?_)
                      rintro _ w63 ⟨v63, rfl, x63, n63_0, o63_0⟩
                      refine ⟨_, rfl, x63, ?_⟩
                      have i63_0 : By w63 [v17, v22] v63 r63 := OwK.slk (Sc.stab _) _ (OwK.scal o63_0 (v63 :: [v17, v22])) (fun k hk => (Old.cons (Old.cons (Old.nil _) o1_38.lt) o0_38.lt) k (n63_0 k hk)) (fun _ h => h.2)
                      replace i0_38 := i0_38.lift (Lift.ext x63 _)
                      replace i1_38 := i1_38.lift (Lift.ext x63 _)
                      replace i42_0 := i42_0.lift (Lift.ext x63 _)
                      replace i45_0 := i45_0.lift (Lift.ext x63 _)
                      replace i47_0 := i47_0.lift (Lift.ext x63 _)
                      replace i61_0 := i61_0.lift (Lift.ext x63 _)
                      replace o0_38 := o0_38.extL (Sc.stab _) x63 (Lift.ext x63 _)
                      replace o1_38 := o1_38.extL (Sc.stab _) x63 (Lift.ext x63 _)
                      have e64 := e62.trans x63
                      refine wsq rfl rfl rfl (q_str rfl T22 rfl rfl rfl i63_0) ?_
                      refine wsa rfl rfl rfl (q_eqS rfl rfl rfl) ?_
                      refine wsa rfl rfl rfl (q_pick_t (v := (.bool ((decide (r61 = r63))))) rfl rfl rfl) ?_
                      refine wsb rfl rfl rfl (q_move (v := (.bool ((decide (r61 = r63))))) rfl rfl) (fun hb65 => ?_) (fun hb65 => ?_)
                      · replace H := (if_pos (of_decide_eq_true hb65)).symm.trans H
                        refine wsa rfl rfl rfl (q_move (v := p0) rfl s0_38) ?_
                        refine wsa rfl rfl rfl (q_move (v := p0) rfl s0_38) ?_
                        obtain ⟨r66, hr66, H⟩ := Option.bind_eq_some_iff.1 H
                        refine wsc rfl (by kernel_rfl) rfl rfl (stp_call (vs := [p0]) Try.func28 rfl rfl rfl (ar1 rfl) (poly_Degree_calls a0p p0 r66 _ (hp0.lift (Lift.ext e64 _)) hr66) ?_)
                        rintro _ w66 ⟨rfl, x66⟩
                        refine ⟨_, rfl, ?_⟩
                        replace i0_38 := i0_38.lift (Lift.ext x66 _)
                        replace i1_38 := i1_38.lift (Lift.ext x66 _)
                        replace i42_0 := i42_0.lift (Lift.ext x66 _)
                        replace i45_0 := i45_0.lift (Lift.ext x66 _)
                        replace i47_0 := i47_0.lift (Lift.ext x66 _)
                        replace i61_0 := i61_0.lift (Lift.ext x66 _)
                        replace i63_0 := i63_0.lift (Lift.ext x66 _)
                        replace o0_38 := o0_38.extL (Sc.stab _) x66 (Lift.ext x66 _)
                        replace o1_38 := o1_38.extL (Sc.stab _) x66 (Lift.ext x66 _)
                        have e67 := e64.trans x66
                        obtain ⟨r68, hr68, H⟩ := Option.bind_eq_some_iff.1 H
                        refine wsc rfl (by kernel_rfl) rfl rfl (stp_call (vs := [p0]) Try.func25 rfl rfl rfl (ar1 rfl) (ref03_Trim_calls a0p p0 r68 _ (hp0.lift (Lift.ext e67 _)) hr68) ?_)
                        rintro _ w68 ⟨v68, rfl, x68, n68_0, o68_0⟩
                        refine ⟨_, rfl, ?_⟩
                        have i68_0 : By w68 [v17, v22] v68 r68 := OwK.slk (Sc.stab _) _ (OwK.scal o68_0 (v68 :: [v17, v22])) (fun k hk => (Old.cons (Old.cons (Old.nil _) o1_38.lt) o0_38.lt) k (n68_0 k hk)) (fun _ h => h.2)
                        replace i0_38 := i0_38.lift (Lift.ext x68 _)
                        replace i1_38 := i1_38.lift (Lift.ext x68 _)
                        replace i42_0 := i42_0.lift (Lift.ext x68 _)
                        replace i45_0 := i45_0.lift (Lift.ext x68 _)
                        replace i47_0 := i47_0.lift (Lift.ext x68 _)
                        replace i61_0 := i61_0.lift (Lift.ext x68 _)
                        replace i63_0 := i63_0.lift (Lift.ext x68 _)
                        replace o0_38 := o0_38.extL (Sc.stab _) x68 (Lift.ext x68 _)
                        replace o1_38 := o1_38.extL (Sc.stab _) x68 (Lift.ext x68 _)
                        have e69 := e67.trans x68
                        refine wsa rfl rfl rfl (q_len rfl T22.sl rfl i68_0) ?_
                        refine wsa rfl rfl rfl (q_subI rfl rfl rfl) ?_
                        refine wsa rfl rfl rfl (q_eqI rfl rfl rfl) ?_
                        refine wsa rfl rfl rfl (q_pick_t (v := (.bool ((decide (r66 = (wI ((r68.length : Int) - 1))))))) rfl rfl rfl) ?_
                        refine wsa rfl rfl rfl (q_assign (v := (.bool ((decide (r66 = (wI ((r68.length : Int) - 1))))))) rfl rfl) ?_
                        refine ws_nil ?_
                        refine W_th ?_
                        refine W_ret ?_
                        obtain rfl := Option.some.inj H
                        refine rt1 (.bool ((decide (r66 = (wI ((r68.length : Int) - 1)))))) rfl rfl rfl s122_38 ?_
                        exact ⟨rfl, e69⟩
                      · replace H := (if_neg (of_decide_eq_false hb65)).symm.trans H
                        refine wsk rfl rfl rfl ?_
                        refine wsk rfl rfl rfl ?_
                        refine wsk rfl rfl rfl ?_
                        refine wsk rfl rfl rfl ?_
                        refine wsk rfl rfl rfl ?_
                        refine wsk rfl rfl rfl ?_
                        refine wsk rfl rfl rfl ?_
                        refine wsa rfl rfl rfl (q_pick_f (v := (.bool false)) rfl rfl rfl) ?_
                        refine wsa rfl rfl rfl (q_assign (v := (.bool false)) rfl rfl) ?_
                        refine ws_nil ?_
                        refine W_th ?_
                        refine W_ret ?_
                        obtain rfl := Option.some.inj H
                        refine rt1 (.bool false) rfl rfl rfl s122_38 ?_
                        exact ⟨rfl, e64⟩
                    · replace H := (if_neg (of_decide_eq_false hb60)).symm.trans H
                      refine wsk rfl rfl rfl ?_
                      refine wsk rfl rfl rfl ?_
                      refine wsk rfl rfl rfl ?_
                      refine wsk rfl rfl rfl ?_
                      refine wsk rfl rfl rfl ?_
                      refine wsk rfl rfl rfl ?_
                      refine wsk rfl rfl rfl ?_
                      refine wsa rfl rfl rfl (q_pick_f (v := (.bool false)) rfl rfl rfl) ?_
                      refine wsa rfl rfl rfl (q_move (v := (.bool false)) rfl rfl) ?_
                      refine wsk rfl rfl rfl ?_
                      refine wsk rfl rfl rfl ?_
                      refine wsk rfl rfl rfl ?_
                      refine wsk rfl rfl rfl ?_
                      refine wsk rfl rfl rfl ?_
                      refine wsk rfl rfl rfl ?_
                      refine wsk rfl rfl rfl ?_
                      refine wsa rfl rfl rfl (q_pick_f (v := (.bool false)) rfl rfl rfl) ?_
                      refine wsa rfl rfl rfl (q_assign (v := (.bool false)) rfl rfl) ?_
                      refine ws_nil ?_
                      refine W_th ?_
                      refine W_ret ?_
                      obtain rfl := Option.some.inj H
                      refine rt1 (.bool false) rfl rfl rfl s122_38 ?_
                      exact ⟨rfl, e59⟩
                  · replace H := (if_neg (of_decide_eq_false hb57)).symm.trans H
                    refine wsk rfl rfl rfl ?_
                    refine wsk rfl rfl rfl ?_
                    refine wsk rfl rfl rfl ?_
                    refine wsk rfl rfl rfl ?_
                    refine wsa rfl rfl rfl (q_pick_f (v := (.bool false)) rfl rfl rfl) ?_
                    refine wsa rfl rfl rfl (q_move (v := (.bool false)) rfl rfl) ?_
                    refine wsk rfl rfl rfl ?_
                    refine wsk rfl rfl rfl ?_
                    refine wsk rfl rfl rfl ?_
                    refine wsk rfl rfl rfl ?_
                    refine wsk rfl rfl rfl ?_
                    refine wsk rfl rfl rfl ?_
                    refine wsk rfl rfl rfl ?_
                    refine wsa rfl rfl rfl (q_pick_f (v := (.bool false)) rfl rfl rfl) ?_
                    refine wsa rfl rfl rfl (q_move (v := (.bool false)) rfl rfl) ?_
                    refine wsk rfl rfl rfl ?_
                    refine wsk rfl rfl rfl ?_
                    refine wsk rfl rfl rfl ?_
                    refine wsk rfl rfl rfl ?_
                    refine wsk rfl rfl rfl ?_
                    refine wsk rfl rfl rfl ?_
                    refine wsk rfl rfl rfl ?_
                    refine wsa rfl rfl rfl (q_pick_f (v := (.bool false)) rfl rfl rfl) ?_
                    refine wsa rfl rfl rfl (q_assign (v := (.bool false)) rfl rfl) ?_
                    refine ws_nil ?_
                    refine W_th ?_
                    refine W_ret ?_
                    obtain rfl := Option.some.inj H
                    refine rt1 (.bool false) rfl rfl rfl s122_38 ?_
                    exact ⟨rfl, e56⟩

end Gk

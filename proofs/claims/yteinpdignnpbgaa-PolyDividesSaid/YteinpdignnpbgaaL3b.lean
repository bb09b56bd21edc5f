/- Printed by gen.py: for each Go function a pure function, and that the Go code comes to it. No condition beside the equation that says what the pure function gives. -/
import Derived.Test.YteinpdignnpbgaaL3a
import Derived.Test.YteinpdignnpbgaaF5
set_option linter.unusedVariables false
set_option linter.unusedSimpArgs false
namespace Gk
open Go Go.Proofs

/-! largesse/largesselaw03.PolyDivides -/
noncomputable def law03_PolyDivides (a0p : List UInt8) (a1q : List UInt8) : Option Bool :=
((law03_lives ).bind fun r1 =>
(if (!r1) = true then
((law03_lives ).bind fun r4 => some r4)
else
(if 60 < (a0p.length : Int) then
((law03_lives ).bind fun r7 => some r7)
else
(if 60 < (a1q.length : Int) then
((law03_lives ).bind fun r10 => some r10)
else
((field_New ).bind fun r12 =>
((poly_DivMod r12 a0p a1q).bind fun r14 =>
((ref03_Trim a1q).bind fun r16 =>
(if (r16.length : Int) = 0 then
(if r14.2.2 = 7 then some (decide ((wI ((r14.1.length : Int) + (r14.2.1.length : Int))) = 0))
else some false)
else
((makeL 130 (0 : UInt8)).bind fun c20 =>
((ref03_Mul r14.1 a1q).bind fun r23 =>
((iterC (fun s27 : List UInt8 × Int =>
(if s27.2 < (r14.2.1.length : Int) then
((idx s27.1 s27.2).bind fun c32 =>
((idx r14.2.1 s27.2).bind fun c33 => some (.inl ((s27.1.set (s27.2 : Int).toNat ((c32 ^^^ c33))), (wI (s27.2 + 1))))))
else some (.inr s27.1))) ((copyL c20 0 r23), 0)).bind fun x27 =>
(if r14.2.2 = 0 then
((ref03_Trim a1q).bind fun r41 =>
(if (r14.2.1.length : Int) < (r41.length : Int) then
((ref03_Trim x27).bind fun r44 =>
((ref03_Trim a0p).bind fun r46 =>
(if r44 = r46 then
((ref03_Trim r14.1).bind fun r49 =>
(if r14.1 = r49 then
((ref03_Trim r14.2.1).bind fun r52 => some (decide (r14.2.1 = r52)))
else some false))
else some false)))
else some false))
else some false))))))))))))
set_option maxRecDepth 100000 in
set_option maxHeartbeats 8000000 in
theorem law03_PolyDivides_calls (a0p : List UInt8) (a1q : List UInt8) (p0 : Value) (p1 : Value) (r : Bool) (w0 : World) (hp0 : By w0 [] p0 a0p) (hp1 : By w0 [] p1 a1q) (H : law03_PolyDivides a0p a1q = some r) :
    Calls Try.prog 5 [p0, p1].toArray w0 (fun e w' => e = .returned (.bool r) ∧ Ext w0 w') := by
  have hE : Ext w0 w0 := Ext.refl w0
  unfold law03_PolyDivides at H
  refine calls_W (n := 102) Try.func5 rfl rfl rfl ?_
  refine W_seq ?_
  refine W_reg (by kernel_rfl) ?_
  refine wla rfl rfl (q_assign (v := (.bool false)) rfl rfl) ?_
  refine wl_nil ?_
  refine W_th ?_
  refine W_seq ?_
  refine W_seq ?_
  refine W_reg (by kernel_rfl) ?_
  obtain ⟨r1, hr1, H⟩ := Option.bind_eq_some_iff.1 H
  refine wls rfl rfl (stp_call (vs := []) Try.func17 rfl rfl rfl (ar0 ) (law03_lives_calls   r1 _  hr1) ?_)
  rintro _ w1 ⟨rfl, x1⟩
  refine ⟨_, rfl, ?_⟩
  have e2 := hE.trans x1
  refine wla rfl rfl (q_not rfl rfl) ?_
  refine wlb rfl rfl (q_move (v := (.bool ((!r1)))) rfl rfl) (fun hb3 => ?_) (fun hb3 => ?_)
  · replace H := (if_pos hb3).symm.trans H
    refine wlk rfl rfl ?_
    refine wlk rfl rfl ?_
    refine wlk rfl rfl ?_
    refine wla rfl rfl (q_pick_t (v := (.bool true)) rfl rfl rfl) ?_
    refine wla rfl rfl (q_move (v := (.bool true)) rfl rfl) ?_
    refine wlk rfl rfl ?_
    refine wlk rfl rfl ?_
    refine wlk rfl rfl ?_
    refine wla rfl rfl (q_pick_t (v := (.bool true)) rfl rfl rfl) ?_
    refine wl_nil ?_
    refine W_th ?_
    refine W_cond true rfl rfl (fun _ => ?_) (fun hb => by cases hb)
    refine W_seq ?_
    refine W_reg (by kernel_rfl) ?_
    obtain ⟨r4, hr4, H⟩ := Option.bind_eq_some_iff.1 H
    refine wls rfl rfl (stp_call (vs := []) Try.func17 rfl rfl rfl (ar0 ) (law03_lives_calls   r4 _  hr4) ?_)
    rintro _ w4 ⟨rfl, x4⟩
    refine ⟨_, rfl, ?_⟩
    have e5 := e2.trans x4
    refine wla rfl rfl (q_assign (v := (.bool r4)) rfl rfl) ?_
    refine wl_nil ?_
    refine W_th ?_
    refine W_ret ?_
    refine th_r ?_
    obtain rfl := Option.some.inj H
    refine rt1 (.bool r4) rfl rfl rfl rfl ?_
    exact ⟨rfl, e5⟩
  · replace H := (if_neg (ne_true_of_eq_false hb3)).symm.trans H
    refine wla rfl rfl (q_move (v := p0) rfl rfl) ?_
    refine wla rfl rfl (q_len rfl T22.sl rfl (hp0.lift (Lift.ext e2 _))) ?_
    refine wla rfl rfl (q_gtI rfl rfl rfl) ?_
    refine wla rfl rfl (q_pick_f (v := (.bool ((decide (60 < (a0p.length : Int)))))) rfl rfl rfl) ?_
    refine wlb rfl rfl (q_move (v := (.bool ((decide (60 < (a0p.length : Int)))))) rfl rfl) (fun hb6 => ?_) (fun hb6 => ?_)
    · replace H := (if_pos (of_decide_eq_true hb6)).symm.trans H
      refine wlk rfl rfl ?_
      refine wlk rfl rfl ?_
      refine wlk rfl rfl ?_
      refine wla rfl rfl (q_pick_t (v := (.bool true)) rfl rfl rfl) ?_
      refine wl_nil ?_
      refine W_th ?_
      refine W_cond true rfl rfl (fun _ => ?_) (fun hb => by cases hb)
      refine W_seq ?_
      refine W_reg (by kernel_rfl) ?_
      obtain ⟨r7, hr7, H⟩ := Option.bind_eq_some_iff.1 H
      refine wls rfl rfl (stp_call (vs := []) Try.func17 rfl rfl rfl (ar0 ) (law03_lives_calls   r7 _  hr7) ?_)
      rintro _ w7 ⟨rfl, x7⟩
      refine ⟨_, rfl, ?_⟩
      have e8 := e2.trans x7
      refine wla rfl rfl (q_assign (v := (.bool r7)) rfl rfl) ?_
      refine wl_nil ?_
      refine W_th ?_
      refine W_ret ?_
      refine th_r ?_
      obtain rfl := Option.some.inj H
      refine rt1 (.bool r7) rfl rfl rfl rfl ?_
      exact ⟨rfl, e8⟩
    · replace H := (if_neg (of_decide_eq_false hb6)).symm.trans H
      refine wla rfl rfl (q_move (v := p1) rfl rfl) ?_
      refine wla rfl rfl (q_len rfl T22.sl rfl (hp1.lift (Lift.ext e2 _))) ?_
      refine wla rfl rfl (q_gtI rfl rfl rfl) ?_
      refine wla rfl rfl (q_pick_f (v := (.bool ((decide (60 < (a1q.length : Int)))))) rfl rfl rfl) ?_
      refine wl_nil ?_
      refine W_th ?_
      refine W_cond _ rfl rfl (fun hb9 => ?_) (fun hb9 => ?_)
      · replace H := (if_pos (of_decide_eq_true hb9)).symm.trans H
        refine W_seq ?_
        refine W_reg (by kernel_rfl) ?_
        obtain ⟨r10, hr10, H⟩ := Option.bind_eq_some_iff.1 H
        refine wls rfl rfl (stp_call (vs := []) Try.func17 rfl rfl rfl (ar0 ) (law03_lives_calls   r10 _  hr10) ?_)
        rintro _ w10 ⟨rfl, x10⟩
        refine ⟨_, rfl, ?_⟩
        have e11 := e2.trans x10
        refine wla rfl rfl (q_assign (v := (.bool r10)) rfl rfl) ?_
        refine wl_nil ?_
        refine W_th ?_
        refine W_ret ?_
        refine th_r ?_
        obtain rfl := Option.some.inj H
        refine rt1 (.bool r10) rfl rfl rfl rfl ?_
        exact ⟨rfl, e11⟩
      · replace H := (if_neg (of_decide_eq_false hb9)).symm.trans H
        refine W_skip ?_
        refine W_th ?_
        refine W_seq ?_
        refine W_reg (by kernel_rfl) ?_
        obtain ⟨r12, hr12, H⟩ := Option.bind_eq_some_iff.1 H
        refine wls rfl rfl (stp_call (vs := []) Try.func18 rfl rfl rfl (ar0 ) (field_New_calls   r12 _ [] (Old.nil _)  hr12) ?_)
        rintro _ w12 ⟨v12, rfl, x12, i12_0⟩
        refine ⟨_, rfl, ?_⟩
        have e13 := e2.trans x12
        refine wla rfl rfl (q_move (v := p0) rfl rfl) ?_
        refine wla rfl rfl (q_move (v := p1) rfl rfl) ?_
        obtain ⟨r14, hr14, H⟩ := Option.bind_eq_some_iff.1 H
        refine wls rfl rfl (stp_call (vs := [v12, p0, p1]) Try.func29 rfl rfl rfl (ar3 rfl rfl rfl) (poly_DivMod_calls r12 a0p a1q v12 p0 p1 r14 _ (i12_0.lift (Lift.sub (fun _ _ => trivial))) (hp0.lift (Lift.ext e13 _)) (hp1.lift (Lift.ext e13 _)) hr14) ?_)
        rintro _ w14 ⟨v14_0, v14_1, rfl, x14, n14_0, o14_0, n14_1, o14_1⟩
        refine ⟨_, rfl, ?_⟩
        have i14_0 : By w14 [] v14_0 r14.1 := OwK.slk (Sc.stab _) _ (OwK.scal o14_0 (v14_0 :: [])) (fun k hk => (Old.nil _) k (n14_0 k hk)) (fun _ h => h.2)
        have i14_1 : By w14 [] v14_1 r14.2.1 := OwK.slk (Sc.stab _) _ (OwK.scal o14_1 (v14_1 :: [])) (fun k hk => (Old.nil _) k (n14_1 k hk)) (fun _ h => h.2)
        replace i12_0 := i12_0.lift (Lift.ext x14 _)
        have e15 := e13.trans x14
        refine wla rfl rfl (q_move (v := (.tuple #[v14_0, v14_1, (i64 r14.2.2)])) rfl rfl) ?_
        refine wla rfl rfl (q_extract rfl rfl rfl) ?_
        refine wla rfl rfl (q_extract rfl rfl rfl) ?_
        refine wla rfl rfl (q_extract rfl rfl rfl) ?_
        refine wla rfl rfl (q_assign (v := v14_0) rfl rfl) ?_
        refine wla rfl rfl (q_assign (v := v14_1) rfl rfl) ?_
        refine wla rfl rfl (q_assign (v := (i64 r14.2.2)) rfl rfl) ?_
        refine wl_nil ?_
        refine W_th ?_
        refine W_seq ?_
        refine W_seq ?_
        refine W_reg (by kernel_rfl) ?_
        refine wla rfl rfl (q_move (v := p1) rfl rfl) ?_
        obtain ⟨r16, hr16, H⟩ := Option.bind_eq_some_iff.1 H
        refine wls rfl rfl (stp_call (vs := [p1]) Try.func25 rfl rfl rfl (ar1 rfl) (ref03_Trim_calls a1q p1 r16 _ (hp1.lift (Lift.ext e15 _)) hr16) ?_)
        rintro _ w16 ⟨v16, rfl, x16, n16_0, o16_0⟩
        refine ⟨_, rfl, ?_⟩
        have i16_0 : By w16 [] v16 r16 := OwK.slk (Sc.stab _) _ (OwK.scal o16_0 (v16 :: [])) (fun k hk => (Old.nil _) k (n16_0 k hk)) (fun _ h => h.2)
        replace i12_0 := i12_0.lift (Lift.ext x16 _)
        replace i14_0 := i14_0.lift (Lift.ext x16 _)
        replace i14_1 := i14_1.lift (Lift.ext x16 _)
        have e17 := e15.trans x16
        refine wla rfl rfl (q_len rfl T22.sl rfl i16_0) ?_
        refine wla rfl rfl (q_eqI rfl rfl rfl) ?_
        refine wl_nil ?_
        refine W_th ?_
        refine W_cond _ rfl rfl (fun hb18 => ?_) (fun hb18 => ?_)
        · replace H := (if_pos (of_decide_eq_true hb18)).symm.trans H
          refine W_seq ?_
          refine W_reg (by kernel_rfl) ?_
          refine wla rfl rfl (q_move (v := (i64 r14.2.2)) rfl rfl) ?_
          refine wla rfl rfl (q_eqI rfl rfl rfl) ?_
          refine wlb rfl rfl (q_move (v := (.bool ((decide (r14.2.2 = 7))))) rfl rfl) (fun hb19 => ?_) (fun hb19 => ?_)
          · replace H := (if_pos (of_decide_eq_true hb19)).symm.trans H
            refine wla rfl rfl (q_move (v := v14_0) rfl rfl) ?_
            refine wla rfl rfl (q_len rfl T22.sl rfl i14_0) ?_
            refine wla rfl rfl (q_move (v := v14_1) rfl rfl) ?_
            refine wla rfl rfl (q_len rfl T22.sl rfl i14_1) ?_
            refine wla rfl rfl (q_addI rfl rfl rfl) ?_
            refine wla rfl rfl (q_eqI rfl rfl rfl) ?_
            refine wla rfl rfl (q_pick_t (v := (.bool ((decide ((wI ((r14.1.length : Int) + (r14.2.1.length : Int))) = 0))))) rfl rfl rfl) ?_
            refine wla rfl rfl (q_assign (v := (.bool ((decide ((wI ((r14.1.length : Int) + (r14.2.1.length : Int))) = 0))))) rfl rfl) ?_
            refine wl_nil ?_
            refine W_th ?_
            refine W_ret ?_
            refine th_r ?_
            obtain rfl := Option.some.inj H
            refine rt1 (.bool ((decide ((wI ((r14.1.length : Int) + (r14.2.1.length : Int))) = 0)))) rfl rfl rfl rfl ?_
            exact ⟨rfl, e17⟩
          · replace H := (if_neg (of_decide_eq_false hb19)).symm.trans H
            refine wlk rfl rfl ?_
            refine wlk rfl rfl ?_
            refine wlk rfl rfl ?_
            refine wlk rfl rfl ?_
            refine wlk rfl rfl ?_
            refine wlk rfl rfl ?_
            refine wla rfl rfl (q_pick_f (v := (.bool false)) rfl rfl rfl) ?_
            refine wla rfl rfl (q_assign (v := (.bool false)) rfl rfl) ?_
            refine wl_nil ?_
            refine W_th ?_
            refine W_ret ?_
            refine th_r ?_
            obtain rfl := Option.some.inj H
            refine rt1 (.bool false) rfl rfl rfl rfl ?_
            exact ⟨rfl, e17⟩
        · replace H := (if_neg (of_decide_eq_false hb18)).symm.trans H
          refine W_skip ?_
          refine W_th ?_
          refine W_seq ?_
          refine W_reg (by kernel_rfl) ?_
          obtain ⟨c20, hc20, H⟩ := Option.bind_eq_some_iff.1 H
          refine wls rfl rfl (stp_make (L := []) (R := (Sc u8)) rfl T22 rfl rfl hc20 (fun _ _ => rfl) ?_)
          intro v20 w20 o20 n20 g20 l20
          have x20 := grown_ext g20
          replace i12_0 := i12_0.lift (Lift.call _ x20 n20)
          replace i14_0 := i14_0.lift (Lift.call _ x20 n20)
          replace i14_1 := i14_1.lift (Lift.call _ x20 n20)
          replace i16_0 := i16_0.lift (Lift.call _ x20 n20)
          have n22 := Nw.ext e17 n20
          have e21 := e17.trans x20
          refine wla rfl rfl (q_assign (v := v20) rfl rfl) ?_
          refine wl_nil ?_
          refine W_th ?_
          refine W_seq ?_
          refine W_reg (by kernel_rfl) ?_
          refine wla rfl rfl (q_move (v := v20) rfl rfl) ?_
          refine wla rfl rfl (q_move (v := v14_0) rfl rfl) ?_
          refine wla rfl rfl (q_move (v := p1) rfl rfl) ?_
          obtain ⟨r23, hr23, H⟩ := Option.bind_eq_some_iff.1 H
          refine wls rfl rfl (stp_call (vs := [v14_0, p1]) Try.func24 rfl rfl rfl (ar2 rfl rfl) (ref03_Mul_calls r14.1 a1q v14_0 p1 r23 _ (i14_0.lift (Lift.sub (fun _ _ => trivial))) (hp1.lift (Lift.ext e21 _)) hr23) ?_)
          rintro _ w23 ⟨v23, rfl, x23, n23_0, o23_0⟩
          refine ⟨_, rfl, ?_⟩
          have i23_0 : By w23 [v20] v23 r23 := OwK.slk (Sc.stab _) _ (OwK.scal o23_0 (v23 :: [v20])) (fun k hk => (Old.cons (Old.nil _) o20.lt) k (n23_0 k hk)) (fun _ h => h.2)
          replace i12_0 := i12_0.lift (Lift.ext x23 _)
          replace i14_0 := i14_0.lift (Lift.ext x23 _)
          replace i14_1 := i14_1.lift (Lift.ext x23 _)
          replace i16_0 := i16_0.lift (Lift.ext x23 _)
          replace o20 := o20.extL (Sc.stab _) x23 (Lift.ext x23 _)
          have e24 := e21.trans x23
          refine wls rfl rfl (stp_copy (R := (Sc u8)) (off := 0) (dv := v20) (u := v23) (Sc.stab _) [] [] rfl T22 rfl rfl o20 (copy_whole o20) (by decide) (Int.natCast_nonneg _) i23_0 (fun _ _ h => h) oc_u8 ?_)
          intro w25 o25 g25 l25
          replace i12_0 := i12_0.lift l25
          replace i14_0 := i14_0.lift l25
          replace i14_1 := i14_1.lift l25
          replace i16_0 := i16_0.lift l25
          replace i23_0 := i23_0.lift l25
          have e26 := e24.grown g25 n22
          refine wl_nil ?_
          refine W_th ?_
          refine W_seq ?_
          refine W_seq ?_
          refine W_reg (by kernel_rfl) ?_
          refine wla rfl rfl (q_move (v := v14_1) rfl rfl) ?_
          refine wla rfl rfl (q_len rfl T22.sl rfl i14_1) ?_
          refine wla rfl rfl (q_move (v := (i64 0)) rfl rfl) ?_
          refine wl_nil ?_
          refine W_th ?_
          obtain ⟨x27, G27, H⟩ := Option.bind_eq_some_iff.1 H
          refine W_mid (fun f w => f 0 = p0 ∧ f 1 = p1 ∧ f 5 = v14_0 ∧ f 6 = v14_1 ∧ f 7 = (i64 r14.2.2) ∧ f 8 = v20 ∧ f 102 = undef ∧ Ext w0 w ∧ OwK (Sc u8) w [v20] 5 v20 x27 ∧ Nw w0 v20 ∧ By w [v20] v14_0 r14.1 ∧ By w [v20] v14_1 r14.2.1) ?_ ?_
          · refine W_block ?_
            refine W_loop (fun s27 f w => f 0 = p0 ∧ f 1 = p1 ∧ f 5 = v14_0 ∧ f 6 = v14_1 ∧ f 7 = (i64 r14.2.2) ∧ f 8 = v20 ∧ f 52 = (i64 ((r14.2.1.length : Int))) ∧ f 53 = (i64 s27.2) ∧ f 102 = undef ∧ Ext w0 w ∧ OwK (Sc u8) w [v20] 5 v20 s27.1 ∧ Nw w0 v20 ∧ By w [v20] v14_0 r14.1 ∧ By w [v20] v14_1 r14.2.1) G27 ?_ ?_
            · exact ⟨rfl, rfl, rfl, rfl, rfl, rfl, rfl, rfl, rfl, e26, o25, n22, i14_0, i14_1⟩
            · rintro s27 _ _ w28 ⟨s0_28, s1_28, s5_28, s6_28, s7_28, s8_28, s52_28, s53_28, s102_28, hE28, o0_28, n0_28, i0_28, i1_28⟩ H27 hr27
              refine W_seq ?_
              refine W_reg (by kernel_rfl) ?_
              refine wla rfl rfl (q_ltI rfl s53_28 s52_28) ?_
              refine wl_nil ?_
              refine W_th ?_
              refine W_seq ?_
              refine W_cond _ rfl rfl (fun hb29 => ?_) (fun hb29 => ?_)
              · replace H27 := (if_pos (of_decide_eq_true hb29)).symm.trans H27
                refine W_skip ?_
                refine W_th ?_
                refine W_seq ?_
                refine W_block ?_
                refine W_seq ?_
                refine W_reg (by kernel_rfl) ?_
                refine wla rfl rfl (q_move (v := (i64 s27.2)) rfl s53_28) ?_
                refine wla rfl rfl (q_assign (v := (i64 s27.2)) rfl rfl) ?_
                refine wl_nil ?_
                refine W_th ?_
                refine W_draw [3, 7] [(0, 0), (1, 0), (2, 0), (3, 1), (4, 0), (5, 0), (6, 0), (7, 1), (8, 0), (9, 0), (10, 2)] mixed (by kernel_rfl) (by kernel_rfl) (by kernel_rfl) (by kernel_rfl) ?_
                have x30 := Ext.drew w28
                replace i0_28 := i0_28.lift (Lift.ext x30 _)
                replace i1_28 := i1_28.lift (Lift.ext x30 _)
                replace o0_28 := o0_28.extL (Sc.stab _) x30 (Lift.ext x30 _)
                have e31 := hE28.trans x30
                refine wsa rfl rfl rfl (q_move (v := v20) rfl s8_28) ?_
                refine wsa rfl rfl rfl (q_move (v := (i64 s27.2)) rfl rfl) ?_
                obtain ⟨c32, hc32, H27⟩ := Option.bind_eq_some_iff.1 H27
                refine wsa rfl rfl rfl (q_adr rfl T22 rfl rfl (o0_28.rd (Sc.stab _)) hc32) ?_
                refine wsq rfl rfl rfl (q_loadS rfl T22 rfl (o0_28.rd (Sc.stab _)) hc32) ?_
                refine wsa rfl rfl rfl (q_move (v := v14_1) rfl s6_28) ?_
                refine wsa rfl rfl rfl (q_move (v := (i64 s27.2)) rfl rfl) ?_
                obtain ⟨c33, hc33, H27⟩ := Option.bind_eq_some_iff.1 H27
                refine wsa rfl rfl rfl (q_adr rfl T22 rfl rfl i1_28 hc33) ?_
                refine wsq rfl rfl rfl (q_loadS rfl T22 rfl i1_28 hc33) ?_
                refine wsa rfl rfl rfl (q_xor8 rfl rfl rfl) ?_
                refine wsa rfl rfl rfl (q_adr rfl T22 rfl rfl (o0_28.rd (Sc.stab _)) hc32) ?_
                refine wsn rfl (by kernel_rfl) rfl rfl (stp_store (R := (Sc u8)) (u := (u8 ((c32 ^^^ c33)))) (Sc.stab _) [] [] rfl T22 rfl rfl o0_28 (put_of ((c32 ^^^ c33)) hc32) rfl rfl ?_)
                intro w34 o34 g34 l34
                replace i0_28 := i0_28.lift l34
                replace i1_28 := i1_28.lift l34
                have e35 := e31.grown g34 n0_28
                refine ws_nil ?_
                refine bk_n ?_
                refine W_th ?_
                refine W_reg (by kernel_rfl) ?_
                refine wla rfl rfl (q_addI rfl s53_28 rfl) ?_
                refine wla rfl rfl (q_move (v := (i64 ((wI (s27.2 + 1))))) rfl rfl) ?_
                refine wl_nil ?_
                obtain rfl := Option.some.inj H27
                exact ⟨_, rfl, s0_28, s1_28, s5_28, s6_28, s7_28, s8_28, s52_28, rfl, s102_28, e35, o34, n0_28, i0_28, i1_28⟩
              · replace H27 := (if_neg (of_decide_eq_false hb29)).symm.trans H27
                refine W_exit ?_
                refine th_x ?_
                obtain rfl := Option.some.inj H27
                obtain rfl := hr27 _ rfl
                refine th_x ?_
                refine bk_x ?_
                exact ⟨s0_28, s1_28, s5_28, s6_28, s7_28, s8_28, s102_28, hE28, o0_28, n0_28, i0_28, i1_28⟩
          · rintro _ w37 ⟨s0_37, s1_37, s5_37, s6_37, s7_37, s8_37, s102_37, hE37, o0_37, n0_37, i0_37, i1_37⟩
            refine W_th ?_
            refine W_seq ?_
            refine W_draw [13, 16, 21, 24, 29, 32] [(0, 0), (1, 0), (2, 0), (3, 0), (4, 0), (5, 0), (6, 2), (7, 0), (8, 0), (9, 0), (10, 0), (11, 0), (14, 0), (12, 2), (13, 1), (15, 2), (16, 1), (17, 0), (18, 0), (19, 0), (20, 0), (21, 1), (22, 0), (23, 2), (24, 1), (25, 0), (26, 0), (27, 0), (28, 0), (29, 1), (30, 0), (31, 2), (32, 1), (33, 0), (34, 0), (35, 0)] mixed (by kernel_rfl) (by kernel_rfl) (by kernel_rfl) (by kernel_rfl) ?_
            have x38 := Ext.drew w37
            replace i0_37 := i0_37.lift (Lift.ext x38 _)
            replace i1_37 := i1_37.lift (Lift.ext x38 _)
            replace o0_37 := o0_37.extL (Sc.stab _) x38 (Lift.ext x38 _)
            have e39 := hE37.trans x38
            refine wsa rfl rfl rfl (q_move (v := (i64 r14.2.2)) rfl s7_37) ?_
            refine wsa rfl rfl rfl (q_eqI rfl rfl rfl) ?_
            refine wsb rfl rfl rfl (q_move (v := (.bool ((decide (r14.2.2 = 0))))) rfl rfl) (fun hb40 => ?_) (fun hb40 => ?_)
            · replace H := (if_pos (of_decide_eq_true hb40)).symm.trans H
              refine wsa rfl rfl rfl (q_move (v := v14_1) rfl s6_37) ?_
              refine wsa rfl rfl rfl (q_len rfl T22.sl rfl i1_37) ?_
              refine wsa rfl rfl rfl (q_move (v := p1) rfl s1_37) ?_
              obtain ⟨r41, hr41, H⟩ := Option.bind_eq_some_iff.1 H
              refine wsc rfl (by kernel_rfl) rfl rfl (stp_call (vs := [p1]) Try.func25 rfl rfl rfl (ar1 rfl) (ref03_Trim_calls a1q p1 r41 _ (hp1.lift (Lift.ext e39 _)) hr41) ?_)
              rintro _ w41 ⟨v41, rfl, x41, n41_0, o41_0⟩
              refine ⟨_, rfl, ?_⟩
              have i41_0 : By w41 [v20] v41 r41 := OwK.slk (Sc.stab _) _ (OwK.scal o41_0 (v41 :: [v20])) (fun k hk => (Old.cons (Old.nil _) o0_37.lt) k (n41_0 k hk)) (fun _ h => h.2)
              replace i0_37 := i0_37.lift (Lift.ext x41 _)
              replace i1_37 := i1_37.lift (Lift.ext x41 _)
              replace o0_37 := o0_37.extL (Sc.stab _) x41 (Lift.ext x41 _)
              have e42 := e39.trans x41
              refine wsa rfl rfl rfl (q_len rfl T22.sl rfl i41_0) ?_
              refine wsa rfl rfl rfl (q_ltI rfl rfl rfl) ?_
              refine wsa rfl rfl rfl (q_pick_t (v := (.bool ((decide ((r14.2.1.length : Int) < (r41.length : Int)))))) rfl rfl rfl) ?_
              refine wsb rfl rfl rfl (q_move (v := (.bool ((decide ((r14.2.1.length : Int) < (r41.length : Int)))))) rfl rfl) (fun hb43 => ?_) (fun hb43 => ?_)
              · replace H := (if_pos (of_decide_eq_true hb43)).symm.trans H
                refine wsa rfl rfl rfl (q_move (v := v20) rfl s8_37) ?_
                refine wsa rfl rfl rfl (q_move (v := p0) rfl s0_37) ?_
                obtain ⟨r44, hr44, H⟩ := Option.bind_eq_some_iff.1 H
                refine wsc rfl (by kernel_rfl) rfl rfl (stp_call (vs := [v20]) Try.func25 rfl rfl rfl (ar1 rfl) (ref03_Trim_calls x27 v20 r44 _ (o0_37.rd (Sc.stab _)) hr44) ?_)
                rintro _ w44 ⟨v44, rfl, x44, n44_0, o44_0⟩
                refine ⟨_, rfl, ?_⟩
                have i44_0 : By w44 [v20] v44 r44 := OwK.slk (Sc.stab _) _ (OwK.scal o44_0 (v44 :: [v20])) (fun k hk => (Old.cons (Old.nil _) o0_37.lt) k (n44_0 k hk)) (fun _ h => h.2)
                replace i0_37 := i0_37.lift (Lift.ext x44 _)
                replace i1_37 := i1_37.lift (Lift.ext x44 _)
                replace i41_0 := i41_0.lift (Lift.ext x44 _)
                replace o0_37 := o0_37.extL (Sc.stab _) x44 (Lift.ext x44 _)
                have e45 := e42.trans x44
                refine wsq rfl rfl rfl (q_str rfl T22 rfl rfl rfl i44_0) ?_
                obtain ⟨r46, hr46, H⟩ := Option.bind_eq_some_iff.1 H
                refine wss rfl rfl rfl (stp_call (vs := [p0]) Try.func25 rfl rfl rfl (ar1 rfl) (ref03_Trim_calls a0p p0 r46 _ (hp0.lift (Lift.ext e45 _)) hr46) ?_)
                rintro _ w46 ⟨v46, rfl, x46, n46_0, o46_0⟩
                refine ⟨_, rfl, x46, ?_⟩
                have i46_0 : By w46 [v20] v46 r46 := OwK.slk (Sc.stab _) _ (OwK.scal o46_0 (v46 :: [v20])) (fun k hk => (Old.cons (Old.nil _) o0_37.lt) k (n46_0 k hk)) (fun _ h => h.2)
                replace i0_37 := i0_37.lift (Lift.ext x46 _)
                replace i1_37 := i1_37.lift (Lift.ext x46 _)
                replace i41_0 := i41_0.lift (Lift.ext x46 _)
                replace i44_0 := i44_0.lift (Lift.ext x46 _)
                replace o0_37 := o0_37.extL (Sc.stab _) x46 (Lift.ext x46 _)
                have e47 := e45.trans x46
                refine wsq rfl rfl rfl (q_str rfl T22 rfl rfl rfl i46_0) ?_
                refine wsa rfl rfl rfl (q_eqS rfl rfl rfl) ?_
                refine wsa rfl rfl rfl (q_pick_t (v := (.bool ((decide (r44 = r46))))) rfl rfl rfl) ?_
                refine wsb rfl rfl rfl (q_move (v := (.bool ((decide (r44 = r46))))) rfl rfl) (fun hb48 => ?_) (fun hb48 => ?_)
                · replace H := (if_pos (of_decide_eq_true hb48)).symm.trans H
                  refine wsa rfl rfl rfl (q_move (v := v14_0) rfl s5_37) ?_
                  refine wsq rfl rfl rfl (q_str rfl T22 rfl rfl rfl i0_37) ?_
                  refine wsa rfl rfl rfl (q_move (v := v14_0) rfl s5_37) ?_
                  obtain ⟨r49, hr49, H⟩ := Option.bind_eq_some_iff.1 H
                  refine wss rfl rfl rfl (stp_call (vs := [v14_0]) Try.func25 rfl rfl rfl (ar1 rfl) (ref03_Trim_calls r14.1 v14_0 r49 _ (i0_37.lift (Lift.sub (fun _ _ => trivial))) hr49) ?_)
                  rintro _ w49 ⟨v49, rfl, x49, n49_0, o49_0⟩
                  refine ⟨_, rfl, x49, ?_⟩
                  have i49_0 : By w49 [v20] v49 r49 := OwK.slk (Sc.stab _) _ (OwK.scal o49_0 (v49 :: [v20])) (fun k hk => (Old.cons (Old.nil _) o0_37.lt) k (n49_0 k hk)) (fun _ h => h.2)
                  replace i0_37 := i0_37.lift (Lift.ext x49 _)
                  replace i1_37 := i1_37.lift (Lift.ext x49 _)
                  replace i41_0 := i41_0.lift (Lift.ext x49 _)
                  replace i44_0 := i44_0.lift (Lift.ext x49 _)
                  replace i46_0 := i46_0.lift (Lift.ext x49 _)
                  replace o0_37 := o0_37.extL (Sc.stab _) x49 (Lift.ext x49 _)
                  have e50 := e47.trans x49
                  refine wsq rfl rfl rfl (q_str rfl T22 rfl rfl rfl i49_0) ?_
                  refine wsa rfl rfl rfl (q_eqS rfl rfl rfl) ?_
                  refine wsa rfl rfl rfl (q_pick_t (v := (.bool ((decide (r14.1 = r49))))) rfl rfl rfl) ?_
                  refine wsb rfl rfl rfl (q_move (v := (.bool ((decide (r14.1 = r49))))) rfl rfl) (fun hb51 => ?_) (fun hb51 => ?_)
                  · replace H := (if_pos (of_decide_eq_true hb51)).symm.trans H
                    refine wsa rfl rfl rfl (q_move (v := v14_1) rfl s6_37) ?_
                    refine wsq rfl rfl rfl (q_str rfl T22 rfl rfl rfl i1_37) ?_
                    refine wsa rfl rfl rfl (q_move (v := v14_1) rfl s6_37) ?_
                    obtain ⟨r52, hr52, H⟩ := Option.bind_eq_some_iff.1 H
                    refine wss rfl rfl rfl (stp_call (vs := [v14_1]) Try.func25 rfl rfl rfl (ar1 rfl) (ref03_Trim_calls r14.2.1 v14_1 r52 _ (i1_37.lift (Lift.sub (fun _ _ => trivial))) hr52) ?_)
                    rintro _ w52 ⟨v52, rfl, x52, n52_0, o52_0⟩
                    refine ⟨_, rfl, x52, ?_⟩
                    have i52_0 : By w52 [v20] v52 r52 := OwK.slk (Sc.stab _) _ (OwK.scal o52_0 (v52 :: [v20])) (fun k hk => (Old.cons (Old.nil _) o0_37.lt) k (n52_0 k hk)) (fun _ h => h.2)
                    replace i0_37 := i0_37.lift (Lift.ext x52 _)
                    replace i1_37 := i1_37.lift (Lift.ext x52 _)
                    replace i41_0 := i41_0.lift (Lift.ext x52 _)
                    replace i44_0 := i44_0.lift (Lift.ext x52 _)
                    replace i46_0 := i46_0.lift (Lift.ext x52 _)
                    replace i49_0 := i49_0.lift (Lift.ext x52 _)
                    replace o0_37 := o0_37.extL (Sc.stab _) x52 (Lift.ext x52 _)
                    have e53 := e50.trans x52
                    refine wsq rfl rfl rfl (q_str rfl T22 rfl rfl rfl i52_0) ?_
                    refine wsa rfl rfl rfl (q_eqS rfl rfl rfl) ?_
                    refine wsa rfl rfl rfl (q_pick_t (v := (.bool ((decide (r14.2.1 = r52))))) rfl rfl rfl) ?_
                    refine wsa rfl rfl rfl (q_assign (v := (.bool ((decide (r14.2.1 = r52))))) rfl rfl) ?_
                    refine ws_nil ?_
                    refine W_th ?_
                    refine W_ret ?_
                    obtain rfl := Option.some.inj H
                    refine rt1 (.bool ((decide (r14.2.1 = r52)))) rfl rfl rfl s102_37 ?_
                    exact ⟨rfl, e53⟩
                  · replace H := (if_neg (of_decide_eq_false hb51)).symm.trans H
                    refine wsk rfl rfl rfl ?_
                    refine wsk rfl rfl rfl ?_
                    refine wsk rfl rfl rfl ?_
                    refine wsk rfl rfl rfl ?_
                    refine wsk rfl rfl rfl ?_
                    refine wsk rfl rfl rfl ?_
                    refine wsa rfl rfl rfl (q_pick_f (v := (.bool false)) rfl rfl rfl) ?_
                    refine wsa rfl rfl rfl (q_assign (v := (.bool false)) rfl rfl) ?_
                    refine ws_nil ?_
                    refine W_th ?_
                    refine W_ret ?_
                    obtain rfl := Option.some.inj H
                    refine rt1 (.bool false) rfl rfl rfl s102_37 ?_
                    exact ⟨rfl, e50⟩
                · replace H := (if_neg (of_decide_eq_false hb48)).symm.trans H
                  refine wsk rfl rfl rfl ?_
                  refine wsk rfl rfl rfl ?_
                  refine wsk rfl rfl rfl ?_
                  refine wsk rfl rfl rfl ?_
                  refine wsk rfl rfl rfl ?_
                  refine wsk rfl rfl rfl ?_
                  refine wsa rfl rfl rfl (q_pick_f (v := (.bool false)) rfl rfl rfl) ?_
                  refine wsa rfl rfl rfl (q_move (v := (.bool false)) rfl rfl) ?_
                  refine wsk rfl rfl rfl ?_
                  refine wsk rfl rfl rfl ?_
                  refine wsk rfl rfl rfl ?_
                  refine wsk rfl rfl rfl ?_
                  refine wsk rfl rfl rfl ?_
                  refine wsk rfl rfl rfl ?_
                  refine wsa rfl rfl rfl (q_pick_f (v := (.bool false)) rfl rfl rfl) ?_
                  refine wsa rfl rfl rfl (q_assign (v := (.bool false)) rfl rfl) ?_
                  refine ws_nil ?_
                  refine W_th ?_
                  refine W_ret ?_
                  obtain rfl := Option.some.inj H
                  refine rt1 (.bool false) rfl rfl rfl s102_37 ?_
                  exact ⟨rfl, e47⟩
              · replace H := (if_neg (of_decide_eq_false hb43)).symm.trans H
                refine wsk rfl rfl rfl ?_
                refine wsk rfl rfl rfl ?_
                refine wsk rfl rfl rfl ?_
                refine wsk rfl rfl rfl ?_
                refine wsk rfl rfl rfl ?_
                refine wsk rfl rfl rfl ?_
                refine wsk rfl rfl rfl ?_
                refine wsa rfl rfl rfl (q_pick_f (v := (.bool false)) rfl rfl rfl) ?_
                refine wsa rfl rfl rfl (q_move (v := (.bool false)) rfl rfl) ?_
                refine wsk rfl rfl rfl ?_
                refine wsk rfl rfl rfl ?_
                refine wsk rfl rfl rfl ?_
                refine wsk rfl rfl rfl ?_
                refine wsk rfl rfl rfl ?_
                refine wsk rfl rfl rfl ?_
                refine wsa rfl rfl rfl (q_pick_f (v := (.bool false)) rfl rfl rfl) ?_
                refine wsa rfl rfl rfl (q_move (v := (.bool false)) rfl rfl) ?_
                refine wsk rfl rfl rfl ?_
                refine wsk rfl rfl rfl ?_
                refine wsk rfl rfl rfl ?_
                refine wsk rfl rfl rfl ?_
                refine wsk rfl rfl rfl ?_
                refine wsk rfl rfl rfl ?_
                refine wsa rfl rfl rfl (q_pick_f (v := (.bool false)) rfl rfl rfl) ?_
                refine wsa rfl rfl rfl (q_assign (v := (.bool false)) rfl rfl) ?_
                refine ws_nil ?_
                refine W_th ?_
                refine W_ret ?_
                obtain rfl := Option.some.inj H
                refine rt1 (.bool false) rfl rfl rfl s102_37 ?_
                exact ⟨rfl, e42⟩
            · replace H := (if_neg (of_decide_eq_false hb40)).symm.trans H
              refine wsk rfl rfl rfl ?_
              refine wsk rfl rfl rfl ?_
              refine wsk rfl rfl rfl ?_
              refine wsk rfl rfl rfl ?_
              refine wsk rfl rfl rfl ?_
              refine wsk rfl rfl rfl ?_
              refine wsa rfl rfl rfl (q_pick_f (v := (.bool false)) rfl rfl rfl) ?_
              refine wsa rfl rfl rfl (q_move (v := (.bool false)) rfl rfl) ?_
              refine wsk rfl rfl rfl ?_
              refine wsk rfl rfl rfl ?_
              refine wsk rfl rfl rfl ?_
              refine wsk rfl rfl rfl ?_
              refine wsk rfl rfl rfl ?_
              refine wsk rfl rfl rfl ?_
              refine wsk rfl rfl rfl ?_
              refine wsa rfl rfl rfl (q_pick_f (v := (.bool false)) rfl rfl rfl) ?_
              refine wsa rfl rfl rfl (q_move (v := (.bool false)) rfl rfl) ?_
              refine wsk rfl rfl rfl ?_
              refine wsk rfl rfl rfl ?_
              refine wsk rfl rfl rfl ?_
              refine wsk rfl rfl rfl ?_
              refine wsk rfl rfl rfl ?_
              refine wsk rfl rfl rfl ?_
              refine wsa rfl rfl rfl (q_pick_f (v := (.bool false)) rfl rfl rfl) ?_
              refine wsa rfl rfl rfl (q_move (v := (.bool false)) rfl rfl) ?_
              refine wsk rfl rfl rfl ?_
              refine wsk rfl rfl rfl ?_
              refine wsk rfl rfl rfl ?_
              refine wsk rfl rfl rfl ?_
              refine wsk rfl rfl rfl ?_
              refine wsk rfl rfl rfl ?_
              refine wsa rfl rfl rfl (q_pick_f (v := (.bool false)) rfl rfl rfl) ?_
              refine wsa rfl rfl rfl (q_assign (v := (.bool false)) rfl rfl) ?_
              refine ws_nil ?_
              refine W_th ?_
              refine W_ret ?_
              obtain rfl := Option.some.inj H
              refine rt1 (.bool false) rfl rfl rfl s102_37 ?_
              exact ⟨rfl, e39⟩

end Gk

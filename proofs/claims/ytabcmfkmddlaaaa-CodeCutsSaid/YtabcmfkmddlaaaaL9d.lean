/- Printed by gen.py: for each Go function a pure function, and that the Go code comes to it. No condition beside the equation that says what the pure function gives. -/
import Derived.Test.YtabcmfkmddlaaaaL9a
set_option linter.unusedVariables false
set_option linter.unusedSimpArgs false
namespace Gk
open Go Go.Proofs

/-! largesse/largesselaw09.CodeCuts -/
noncomputable def law09_CodeCuts (a0b : List UInt8) (a1t : Int) (a2size : Int) : Option Bool :=
((law09_lives ).bind fun r1 =>
(if (!r1) = true then
((law09_lives ).bind fun r4 => some r4)
else
(if 300 < (a0b.length : Int) then
((law09_lives ).bind fun r7 => some r7)
else
(if 20 < a1t then
(if a1t ≤ 255 then
((law09_lives ).bind fun r11 => some r11)
else
((code_Cut a0b a1t).bind fun r13 =>
(if a1t < 1 then
(if r13.2 = 2 then
(if (r13.1.length : Int) = 0 then
((code_PartSize (a0b.length : Int) a1t).bind fun r18 => some (decide (r18 = 0)))
else some false)
else some false)
else
(if 255 < a1t then
(if r13.2 = 2 then
(if (r13.1.length : Int) = 0 then
((code_PartSize (a0b.length : Int) a1t).bind fun r23 => some (decide (r23 = 0)))
else some false)
else some false)
else
((ref09_Cut a0b a1t).bind fun r25 =>
(if r13.2 = 0 then
(if (r13.1.length : Int) = a1t then
((idx r25 0).bind fun c31 =>
((code_PartSize (a0b.length : Int) a1t).bind fun r33 =>
(if r33 = (c31.length : Int) then
((iterC (fun s36 : Int =>
(if s36 < (r13.1.length : Int) then
((idx r13.1 s36).bind fun c41 =>
((idx r25 s36).bind fun c43 =>
(if c41 = c43 then some (.inl (wI (s36 + 1)))
else some (.inr (.inr false)))))
else some (.inr (.inl ())))) 0).bind (Sum.elim (fun y36 =>
((code_Glue r13.1 (a0b.length : Int)).bind fun r48 =>
((code_Glue r13.1 a2size).bind fun r50 =>
(if r48.2 = 0 then
(if r48.1 = a0b then
(if a2size < 0 then
(if r50.2 = 2 then some (decide ((r50.1.length : Int) = 0))
else some false)
else
((idx r25 0).bind fun c56 =>
(if (wI (a1t * (c56.length : Int))) < a2size then
(if r50.2 = 2 then some (decide ((r50.1.length : Int) = 0))
else some false)
else
(if r50.2 = 0 then some (decide ((r50.1.length : Int) = a2size))
else some false))))
else some false)
else some false)))) (fun q36 => some q36)))
else some false)))
else some false)
else some false))))))
else
((code_Cut a0b a1t).bind fun r62 =>
(if a1t < 1 then
(if r62.2 = 2 then
(if (r62.1.length : Int) = 0 then
((code_PartSize (a0b.length : Int) a1t).bind fun r67 => some (decide (r67 = 0)))
else some false)
else some false)
else
(if 255 < a1t then
(if r62.2 = 2 then
(if (r62.1.length : Int) = 0 then
((code_PartSize (a0b.length : Int) a1t).bind fun r72 => some (decide (r72 = 0)))
else some false)
else some false)
else
((ref09_Cut a0b a1t).bind fun r74 =>
(if r62.2 = 0 then
(if (r62.1.length : Int) = a1t then
((idx r74 0).bind fun c80 =>
((code_PartSize (a0b.length : Int) a1t).bind fun r82 =>
(if r82 = (c80.length : Int) then
((iterC (fun s85 : Int =>
(if s85 < (r62.1.length : Int) then
((idx r62.1 s85).bind fun c90 =>
((idx r74 s85).bind fun c92 =>
(if c90 = c92 then some (.inl (wI (s85 + 1)))
else some (.inr (.inr false)))))
else some (.inr (.inl ())))) 0).bind (Sum.elim (fun y85 =>
((code_Glue r62.1 (a0b.length : Int)).bind fun r97 =>
((code_Glue r62.1 a2size).bind fun r99 =>
(if r97.2 = 0 then
(if r97.1 = a0b then
(if a2size < 0 then
(if r99.2 = 2 then some (decide ((r99.1.length : Int) = 0))
else some false)
else
((idx r74 0).bind fun c105 =>
(if (wI (a1t * (c105.length : Int))) < a2size then
(if r99.2 = 2 then some (decide ((r99.1.length : Int) = 0))
else some false)
else
(if r99.2 = 0 then some (decide ((r99.1.length : Int) = a2size))
else some false))))
else some false)
else some false)))) (fun q85 => some q85)))
else some false)))
else some false)
else some false)))))))))
set_option maxRecDepth 100000 in
set_option maxHeartbeats 8000000 in
theorem law09_CodeCuts_calls (a0b : List UInt8) (a1t : Int) (a2size : Int) (p0 : Value) (r : Bool) (w0 : World) (hp0 : By w0 [] p0 a0b) (H : law09_CodeCuts a0b a1t a2size = some r) :
    Calls Try.prog 11 [p0, (i64 a1t), (i64 a2size)].toArray w0 (fun e w' => e = .returned (.bool r) ∧ Ext w0 w') := by
  have hE : Ext w0 w0 := Ext.refl w0
  unfold law09_CodeCuts at H
  refine calls_W (n := 145) Try.func11 rfl rfl rfl ?_
  refine W_seq ?_
  refine W_reg (by kernel_rfl) ?_
  refine wla rfl rfl (q_assign (v := (.bool false)) rfl rfl) ?_
  refine wl_nil ?_
  refine W_th ?_
  refine W_seq ?_
  refine W_seq ?_
  refine W_reg (by kernel_rfl) ?_
  obtain ⟨r1, hr1, H⟩ := Option.bind_eq_some_iff.1 H
  refine wls rfl rfl (stp_call (vs := []) Try.func30 rfl rfl rfl (ar0 ) (law09_lives_calls   r1 _  hr1) ?_)
  rintro _ w1 ⟨rfl, x1⟩
  refine ⟨_, rfl, ?_⟩
  have e2 := hE.trans x1
  refine wla rfl rfl (q_not rfl rfl) ?_
  refine wlb rfl rfl (q_move (v := (.bool ((!r1)))) rfl rfl) (fun hb3 => ?_) (fun hb3 => ?_)
  · replace H := (if_pos hb3).symm.trans H
    refine wlk rfl rfl ?_
    refine wlk rfl rfl ?_
    refine wlk rfl rfl ?_
    refine wla rfl rfl (q_pick_t (v := (.bool true)) rfl rfl rfl) ?_
    refine wla rfl rfl (q_move (v := (.bool true)) rfl rfl) ?_
    refine wlk rfl rfl ?_
    refine wlk rfl rfl ?_
    refine wlk rfl rfl ?_
    refine wlk rfl rfl ?_
    refine wlk rfl rfl ?_
    refine wlk rfl rfl ?_
    refine wla rfl rfl (q_pick_t (v := (.bool true)) rfl rfl rfl) ?_
    refine wl_nil ?_
    refine W_th ?_
    refine W_cond true rfl rfl (fun _ => ?_) (fun hb => by cases hb)
    refine W_seq ?_
    refine W_reg (by kernel_rfl) ?_
    obtain ⟨r4, hr4, H⟩ := Option.bind_eq_some_iff.1 H
    refine wls rfl rfl (stp_call (vs := []) Try.func30 rfl rfl rfl (ar0 ) (law09_lives_calls   r4 _  hr4) ?_)
    rintro _ w4 ⟨rfl, x4⟩
    refine ⟨_, rfl, ?_⟩
    have e5 := e2.trans x4
    refine wla rfl rfl (q_assign (v := (.bool r4)) rfl rfl) ?_
    refine wl_nil ?_
    refine W_th ?_
    refine W_ret ?_
    refine th_r ?_
    obtain rfl := Option.some.inj H
    refine rt1 (.bool r4) rfl rfl rfl rfl ?_
    exact ⟨rfl, e5⟩
  · replace H := (if_neg (ne_true_of_eq_false hb3)).symm.trans H
    refine wla rfl rfl (q_move (v := p0) rfl rfl) ?_
    refine wla rfl rfl (q_len rfl T22.sl rfl (hp0.lift (Lift.ext e2 _))) ?_
    refine wla rfl rfl (q_gtI rfl rfl rfl) ?_
    refine wla rfl rfl (q_pick_f (v := (.bool ((decide (300 < (a0b.length : Int)))))) rfl rfl rfl) ?_
    refine wlb rfl rfl (q_move (v := (.bool ((decide (300 < (a0b.length : Int)))))) rfl rfl) (fun hb6 => ?_) (fun hb6 => ?_)
    · replace H := (if_pos (of_decide_eq_true hb6)).symm.trans H
      refine wlk rfl rfl ?_
      refine wlk rfl rfl ?_
      refine wlk rfl rfl ?_
      refine wlk rfl rfl ?_
      refine wlk rfl rfl ?_
      refine wlk rfl rfl ?_
      refine wla rfl rfl (q_pick_t (v := (.bool true)) rfl rfl rfl) ?_
      refine wl_nil ?_
      refine W_th ?_
      refine W_cond true rfl rfl (fun _ => ?_) (fun hb => by cases hb)
      refine W_seq ?_
      refine W_reg (by kernel_rfl) ?_
      obtain ⟨r7, hr7, H⟩ := Option.bind_eq_some_iff.1 H
      refine wls rfl rfl (stp_call (vs := []) Try.func30 rfl rfl rfl (ar0 ) (law09_lives_calls   r7 _  hr7) ?_)
      rintro _ w7 ⟨rfl, x7⟩
      refine ⟨_, rfl, ?_⟩
      have e8 := e2.trans x7
      refine wla rfl rfl (q_assign (v := (.bool r7)) rfl rfl) ?_
      refine wl_nil ?_
      refine W_th ?_
      refine W_ret ?_
      refine th_r ?_
      obtain rfl := Option.some.inj H
      refine rt1 (.bool r7) rfl rfl rfl rfl ?_
      exact ⟨rfl, e8⟩
    · replace H := (if_neg (of_decide_eq_false hb6)).symm.trans H
      refine wla rfl rfl (q_move (v := (i64 a1t)) rfl rfl) ?_
      refine wla rfl rfl (q_gtI rfl rfl rfl) ?_
      refine wlb rfl rfl (q_move (v := (.bool ((decide (20 < a1t))))) rfl rfl) (fun hb9 => ?_) (fun hb9 => ?_)
      · replace H := (if_pos (of_decide_eq_true hb9)).symm.trans H
        refine wla rfl rfl (q_move (v := (i64 a1t)) rfl rfl) ?_
        refine wla rfl rfl (q_leI rfl rfl rfl) ?_
        refine wla rfl rfl (q_pick_t (v := (.bool ((decide (a1t ≤ 255))))) rfl rfl rfl) ?_
        refine wla rfl rfl (q_pick_f (v := (.bool ((decide (a1t ≤ 255))))) rfl rfl rfl) ?_
        refine wl_nil ?_
        refine W_th ?_
        refine W_cond _ rfl rfl (fun hb10 => ?_) (fun hb10 => ?_)
        · replace H := (if_pos (of_decide_eq_true hb10)).symm.trans H
          refine W_seq ?_
          refine W_reg (by kernel_rfl) ?_
          obtain ⟨r11, hr11, H⟩ := Option.bind_eq_some_iff.1 H
          refine wls rfl rfl (stp_call (vs := []) Try.func30 rfl rfl rfl (ar0 ) (law09_lives_calls   r11 _  hr11) ?_)
          rintro _ w11 ⟨rfl, x11⟩
          refine ⟨_, rfl, ?_⟩
          have e12 := e2.trans x11
          refine wla rfl rfl (q_assign (v := (.bool r11)) rfl rfl) ?_
          refine wl_nil ?_
          refine W_th ?_
          refine W_ret ?_
          refine th_r ?_
          obtain rfl := Option.some.inj H
          refine rt1 (.bool r11) rfl rfl rfl rfl ?_
          exact ⟨rfl, e12⟩
        · replace H := (if_neg (of_decide_eq_false hb10)).symm.trans H
          refine W_skip ?_
          refine W_th ?_
          refine W_seq ?_
          refine W_reg (by kernel_rfl) ?_
          refine wla rfl rfl (q_move (v := p0) rfl rfl) ?_
          refine wla rfl rfl (q_move (v := (i64 a1t)) rfl rfl) ?_
          obtain ⟨r13, hr13, H⟩ := Option.bind_eq_some_iff.1 H
          refine wls rfl rfl (stp_call (vs := [p0, (i64 a1t)]) Try.func37 rfl rfl rfl (ar2 rfl rfl) (code_Cut_calls a0b a1t p0 r13 _ [] (Old.nil _) (hp0.lift (Lift.ext e2 _)) hr13) ?_)
          rintro _ w13 ⟨v13_0, rfl, x13, n13_0, o13_0⟩
          refine ⟨_, rfl, ?_⟩
          have i13_0 : Rw w13 [] v13_0 r13.1 := OwK.slk (SlK.stab (Sc.stab _)) _ o13_0 (fun k hk => (Old.nil _) k (n13_0 k hk)) (fun _ h => h.2)
          have e14 := e2.trans x13
          refine wla rfl rfl (q_move (v := (.tuple #[v13_0, (i64 r13.2)])) rfl rfl) ?_
          refine wla rfl rfl (q_extract rfl rfl rfl) ?_
          refine wla rfl rfl (q_extract rfl rfl rfl) ?_
          refine wla rfl rfl (q_assign (v := v13_0) rfl rfl) ?_
          refine wla rfl rfl (q_assign (v := (i64 r13.2)) rfl rfl) ?_
          refine wl_nil ?_
          refine W_th ?_
          refine W_seq ?_
          refine W_seq ?_
          refine W_reg (by kernel_rfl) ?_
          refine wla rfl rfl (q_move (v := (i64 a1t)) rfl rfl) ?_
          refine wla rfl rfl (q_ltI rfl rfl rfl) ?_
          refine wlb rfl rfl (q_move (v := (.bool ((decide (a1t < 1))))) rfl rfl) (fun hb15 => ?_) (fun hb15 => ?_)
          · replace H := (if_pos (of_decide_eq_true hb15)).symm.trans H
            refine wlk rfl rfl ?_
            refine wlk rfl rfl ?_
            refine wla rfl rfl (q_pick_t (v := (.bool true)) rfl rfl rfl) ?_
            refine wl_nil ?_
            refine W_th ?_
            refine W_cond true rfl rfl (fun _ => ?_) (fun hb => by cases hb)
            refine W_seq ?_
            refine W_reg (by kernel_rfl) ?_
            refine wla rfl rfl (q_move (v := (i64 r13.2)) rfl rfl) ?_
            refine wla rfl rfl (q_eqI rfl rfl rfl) ?_
            refine wlb rfl rfl (q_move (v := (.bool ((decide (r13.2 = 2))))) rfl rfl) (fun hb16 => ?_) (fun hb16 => ?_)
            · replace H := (if_pos (of_decide_eq_true hb16)).symm.trans H
              refine wla rfl rfl (q_move (v := v13_0) rfl rfl) ?_
              refine wla rfl rfl (q_len rfl T23.sl rfl i13_0) ?_
              refine wla rfl rfl (q_eqI rfl rfl rfl) ?_
              refine wla rfl rfl (q_pick_t (v := (.bool ((decide ((r13.1.length : Int) = 0))))) rfl rfl rfl) ?_
              refine wlb rfl rfl (q_move (v := (.bool ((decide ((r13.1.length : Int) = 0))))) rfl rfl) (fun hb17 => ?_) (fun hb17 => ?_)
              · replace H := (if_pos (of_decide_eq_true hb17)).symm.trans H
                refine wla rfl rfl (q_move (v := p0) rfl rfl) ?_
                refine wla rfl rfl (q_len rfl T22.sl rfl (hp0.lift (Lift.ext e14 _))) ?_
                refine wla rfl rfl (q_move (v := (i64 a1t)) rfl rfl) ?_
                obtain ⟨r18, hr18, H⟩ := Option.bind_eq_some_iff.1 H
                refine wls rfl rfl (stp_call (vs := [(i64 ((a0b.length : Int))), (i64 a1t)]) Try.func38 rfl rfl rfl (ar2 rfl rfl) (code_PartSize_calls (a0b.length : Int) a1t  r18 _  hr18) ?_)
                rintro _ w18 ⟨rfl, x18⟩
                refine ⟨_, rfl, ?_⟩
                replace i13_0 := i13_0.lift (Lift.ext x18 _)
                have e19 := e14.trans x18
                refine wla rfl rfl (q_eqI rfl rfl rfl) ?_
                refine wla rfl rfl (q_pick_t (v := (.bool ((decide (r18 = 0))))) rfl rfl rfl) ?_
                refine wla rfl rfl (q_assign (v := (.bool ((decide (r18 = 0))))) rfl rfl) ?_
                refine wl_nil ?_
                refine W_th ?_
                refine W_ret ?_
                refine th_r ?_
                obtain rfl := Option.some.inj H
                refine rt1 (.bool ((decide (r18 = 0)))) rfl rfl rfl rfl ?_
                exact ⟨rfl, e19⟩
              · replace H := (if_neg (of_decide_eq_false hb17)).symm.trans H
                refine wlk rfl rfl ?_
                refine wlk rfl rfl ?_
                refine wlk rfl rfl ?_
                refine wlk rfl rfl ?_
                refine wlk rfl rfl ?_
                refine wla rfl rfl (q_pick_f (v := (.bool false)) rfl rfl rfl) ?_
                refine wla rfl rfl (q_assign (v := (.bool false)) rfl rfl) ?_
                refine wl_nil ?_
                refine W_th ?_
                refine W_ret ?_
                refine th_r ?_
                obtain rfl := Option.some.inj H
                refine rt1 (.bool false) rfl rfl rfl rfl ?_
                exact ⟨rfl, e14⟩
            · replace H := (if_neg (of_decide_eq_false hb16)).symm.trans H
              refine wlk rfl rfl ?_
              refine wlk rfl rfl ?_
              refine wlk rfl rfl ?_
              refine wla rfl rfl (q_pick_f (v := (.bool false)) rfl rfl rfl) ?_
              refine wla rfl rfl (q_move (v := (.bool false)) rfl rfl) ?_
              refine wlk rfl rfl ?_
              refine wlk rfl rfl ?_
              refine wlk rfl rfl ?_
              refine wlk rfl rfl ?_
              refine wlk rfl rfl ?_
              refine wla rfl rfl (q_pick_f (v := (.bool false)) rfl rfl rfl) ?_
              refine wla rfl rfl (q_assign (v := (.bool false)) rfl rfl) ?_
              refine wl_nil ?_
              refine W_th ?_
              refine W_ret ?_
              refine th_r ?_
              obtain rfl := Option.some.inj H
              refine rt1 (.bool false) rfl rfl rfl rfl ?_
              exact ⟨rfl, e14⟩
          · replace H := (if_neg (of_decide_eq_false hb15)).symm.trans H
            refine wla rfl rfl (q_move (v := (i64 a1t)) rfl rfl) ?_
            refine wla rfl rfl (q_gtI rfl rfl rfl) ?_
            refine wla rfl rfl (q_pick_f (v := (.bool ((decide (255 < a1t))))) rfl rfl rfl) ?_
            refine wl_nil ?_
            refine W_th ?_
            refine W_cond _ rfl rfl (fun hb20 => ?_) (fun hb20 => ?_)
            · replace H := (if_pos (of_decide_eq_true hb20)).symm.trans H
              refine W_seq ?_
              refine W_reg (by kernel_rfl) ?_
              refine wla rfl rfl (q_move (v := (i64 r13.2)) rfl rfl) ?_
              refine wla rfl rfl (q_eqI rfl rfl rfl) ?_
              refine wlb rfl rfl (q_move (v := (.bool ((decide (r13.2 = 2))))) rfl rfl) (fun hb21 => ?_) (fun hb21 => ?_)
              · replace H := (if_pos (of_decide_eq_true hb21)).symm.trans H
                refine wla rfl rfl (q_move (v := v13_0) rfl rfl) ?_
                refine wla rfl rfl (q_len rfl T23.sl rfl i13_0) ?_
                refine wla rfl rfl (q_eqI rfl rfl rfl) ?_
                refine wla rfl rfl (q_pick_t (v := (.bool ((decide ((r13.1.length : Int) = 0))))) rfl rfl rfl) ?_
                refine wlb rfl rfl (q_move (v := (.bool ((decide ((r13.1.length : Int) = 0))))) rfl rfl) (fun hb22 => ?_) (fun hb22 => ?_)
                · replace H := (if_pos (of_decide_eq_true hb22)).symm.trans H
                  refine wla rfl rfl (q_move (v := p0) rfl rfl) ?_
                  refine wla rfl rfl (q_len rfl T22.sl rfl (hp0.lift (Lift.ext e14 _))) ?_
                  refine wla rfl rfl (q_move (v := (i64 a1t)) rfl rfl) ?_
                  obtain ⟨r23, hr23, H⟩ := Option.bind_eq_some_iff.1 H
                  refine wls rfl rfl (stp_call (vs := [(i64 ((a0b.length : Int))), (i64 a1t)]) Try.func38 rfl rfl rfl (ar2 rfl rfl) (code_PartSize_calls (a0b.length : Int) a1t  r23 _  hr23) ?_)
                  rintro _ w23 ⟨rfl, x23⟩
                  refine ⟨_, rfl, ?_⟩
                  replace i13_0 := i13_0.lift (Lift.ext x23 _)
                  have e24 := e14.trans x23
                  refine wla rfl rfl (q_eqI rfl rfl rfl) ?_
                  refine wla rfl rfl (q_pick_t (v := (.bool ((decide (r23 = 0))))) rfl rfl rfl) ?_
                  refine wla rfl rfl (q_assign (v := (.bool ((decide (r23 = 0))))) rfl rfl) ?_
                  refine wl_nil ?_
                  refine W_th ?_
                  refine W_ret ?_
                  refine th_r ?_
                  obtain rfl := Option.some.inj H
                  refine rt1 (.bool ((decide (r23 = 0)))) rfl rfl rfl rfl ?_
                  exact ⟨rfl, e24⟩
                · replace H := (if_neg (of_decide_eq_false hb22)).symm.trans H
                  refine wlk rfl rfl ?_
                  refine wlk rfl rfl ?_
                  refine wlk rfl rfl ?_
                  refine wlk rfl rfl ?_
                  refine wlk rfl rfl ?_
                  refine wla rfl rfl (q_pick_f (v := (.bool false)) rfl rfl rfl) ?_
                  refine wla rfl rfl (q_assign (v := (.bool false)) rfl rfl) ?_
                  refine wl_nil ?_
                  refine W_th ?_
                  refine W_ret ?_
                  refine th_r ?_
                  obtain rfl := Option.some.inj H
                  refine rt1 (.bool false) rfl rfl rfl rfl ?_
                  exact ⟨rfl, e14⟩
              · replace H := (if_neg (of_decide_eq_false hb21)).symm.trans H
                refine wlk rfl rfl ?_
                refine wlk rfl rfl ?_
                refine wlk rfl rfl ?_
                refine wla rfl rfl (q_pick_f (v := (.bool false)) rfl rfl rfl) ?_
                refine wla rfl rfl (q_move (v := (.bool false)) rfl rfl) ?_
                refine wlk rfl rfl ?_
                refine wlk rfl rfl ?_
                refine wlk rfl rfl ?_
                refine wlk rfl rfl ?_
                refine wlk rfl rfl ?_
                refine wla rfl rfl (q_pick_f (v := (.bool false)) rfl rfl rfl) ?_
                refine wla rfl rfl (q_assign (v := (.bool false)) rfl rfl) ?_
                refine wl_nil ?_
                refine W_th ?_
                refine W_ret ?_
                refine th_r ?_
                obtain rfl := Option.some.inj H
                refine rt1 (.bool false) rfl rfl rfl rfl ?_
                exact ⟨rfl, e14⟩
            · replace H := (if_neg (of_decide_eq_false hb20)).symm.trans H
              refine W_skip ?_
              refine W_th ?_
              refine W_seq ?_
              refine W_reg (by kernel_rfl) ?_
              refine wla rfl rfl (q_move (v := p0) rfl rfl) ?_
              refine wla rfl rfl (q_move (v := (i64 a1t)) rfl rfl) ?_
              obtain ⟨r25, hr25, H⟩ := Option.bind_eq_some_iff.1 H
              refine wls rfl rfl (stp_call (vs := [p0, (i64 a1t)]) Try.func39 rfl rfl rfl (ar2 rfl rfl) (ref09_Cut_calls a0b a1t p0 r25 _ [] (Old.nil _) (hp0.lift (Lift.ext e14 _)) hr25) ?_)
              rintro _ w25 ⟨v25, rfl, x25, n25_0, o25_0⟩
              refine ⟨_, rfl, ?_⟩
              have i25_0 : Rw w25 [] v25 r25 := OwK.slk (SlK.stab (Sc.stab _)) _ o25_0 (fun k hk => (Old.nil _) k (n25_0 k hk)) (fun _ h => h.2)
              replace i13_0 := i13_0.lift (Lift.ext x25 _)
              have e26 := e14.trans x25
              refine wla rfl rfl (q_assign (v := v25) rfl rfl) ?_
              refine wl_nil ?_
              refine W_th ?_
              refine W_seq ?_
              refine W_seq ?_
              refine W_draw [15] [(0, 0), (1, 0), (2, 0), (3, 0), (4, 0), (5, 0), (6, 0), (7, 0), (8, 0), (9, 0), (10, 0), (11, 0), (13, 0), (14, 0), (15, 1), (16, 0), (12, 2), (17, 0), (18, 0)] mixed (by kernel_rfl) (by kernel_rfl) (by kernel_rfl) (by kernel_rfl) ?_
              have x27 := Ext.drew w25
              replace i13_0 := i13_0.lift (Lift.ext x27 _)
              replace i25_0 := i25_0.lift (Lift.ext x27 _)
              have e28 := e26.trans x27
              refine wsa rfl rfl rfl (q_move (v := (i64 r13.2)) rfl rfl) ?_
              refine wsa rfl rfl rfl (q_neI rfl rfl rfl) ?_
              refine wsb rfl rfl rfl (q_move (v := (.bool ((!decide (r13.2 = 0))))) rfl rfl) (fun hb29 => ?_) (fun hb29 => ?_)
              · replace H := (if_neg (ndec_t hb29)).symm.trans H
                refine wsk rfl rfl rfl ?_
                refine wsk rfl rfl rfl ?_
                refine wsk rfl rfl rfl ?_
                refine wsk rfl rfl rfl ?_
                refine wsa rfl rfl rfl (q_pick_t (v := (.bool true)) rfl rfl rfl) ?_
                refine wsa rfl rfl rfl (q_move (v := (.bool true)) rfl rfl) ?_
                refine wsk rfl rfl rfl ?_
                refine wsk rfl rfl rfl ?_
                refine wsk rfl rfl rfl ?_
                refine wsk rfl rfl rfl ?_
                refine wsk rfl rfl rfl ?_
                refine wsk rfl rfl rfl ?_
                refine wsk rfl rfl rfl ?_
                refine wsk rfl rfl rfl ?_
                refine wsk rfl rfl rfl ?_
                refine wsa rfl rfl rfl (q_pick_t (v := (.bool true)) rfl rfl rfl) ?_
                refine ws_nil ?_
                refine W_th ?_
                refine W_cond true rfl rfl (fun _ => ?_) (fun hb => by cases hb)
                refine W_seq ?_
                refine W_reg (by kernel_rfl) ?_
                refine wla rfl rfl (q_assign (v := (.bool false)) rfl rfl) ?_
                refine wl_nil ?_
                refine W_th ?_
                refine W_ret ?_
                refine th_r ?_
                obtain rfl := Option.some.inj H
                refine rt1 (.bool false) rfl rfl rfl rfl ?_
                exact ⟨rfl, e28⟩
              · replace H := (if_pos (ndec_f hb29)).symm.trans H
                refine wsa rfl rfl rfl (q_move (v := v13_0) rfl rfl) ?_
                refine wsa rfl rfl rfl (q_len rfl T23.sl rfl i13_0) ?_
                refine wsa rfl rfl rfl (q_move (v := (i64 a1t)) rfl rfl) ?_
                refine wsa rfl rfl rfl (q_neI rfl rfl rfl) ?_
                refine wsa rfl rfl rfl (q_pick_f (v := (.bool ((!decide ((r13.1.length : Int) = a1t))))) rfl rfl rfl) ?_
                refine wsb rfl rfl rfl (q_move (v := (.bool ((!decide ((r13.1.length : Int) = a1t))))) rfl rfl) (fun hb30 => ?_) (fun hb30 => ?_)
                · replace H := (if_neg (ndec_t hb30)).symm.trans H
                  refine wsk rfl rfl rfl ?_
                  refine wsk rfl rfl rfl ?_
                  refine wsk rfl rfl rfl ?_
                  refine wsk rfl rfl rfl ?_
                  refine wsk rfl rfl rfl ?_
                  refine wsk rfl rfl rfl ?_
                  refine wsk rfl rfl rfl ?_
                  refine wsk rfl rfl rfl ?_
                  refine wsk rfl rfl rfl ?_
                  refine wsa rfl rfl rfl (q_pick_t (v := (.bool true)) rfl rfl rfl) ?_
                  refine ws_nil ?_
                  refine W_th ?_
                  refine W_cond true rfl rfl (fun _ => ?_) (fun hb => by cases hb)
                  refine W_seq ?_
                  refine W_reg (by kernel_rfl) ?_
                  refine wla rfl rfl (q_assign (v := (.bool false)) rfl rfl) ?_
                  refine wl_nil ?_
                  refine W_th ?_
                  refine W_ret ?_
                  refine th_r ?_
                  obtain rfl := Option.some.inj H
                  refine rt1 (.bool false) rfl rfl rfl rfl ?_
                  exact ⟨rfl, e28⟩
                · replace H := (if_pos (ndec_f hb30)).symm.trans H
                  refine wsa rfl rfl rfl (q_move (v := p0) rfl rfl) ?_
                  refine wsa rfl rfl rfl (q_len rfl T22.sl rfl (hp0.lift (Lift.ext e28 _))) ?_
                  refine wsa rfl rfl rfl (q_move (v := (i64 a1t)) rfl rfl) ?_
                  refine wsa rfl rfl rfl (q_move (v := v25) rfl rfl) ?_
                  obtain ⟨c31, hc31, H⟩ := Option.bind_eq_some_iff.1 H
                  refine wsa rfl rfl rfl (q_adr rfl T23 rfl rfl i25_0 hc31) ?_
                  refine wsq_load rfl rfl rfl rfl T23 rfl i25_0 hc31 (Ext.refl _) (fun v32 i32 => ?_)
                  refine wsa rfl rfl rfl (q_len rfl T22.sl rfl i32) ?_
                  obtain ⟨r33, hr33, H⟩ := Option.bind_eq_some_iff.1 H
                  refine wss rfl rfl rfl (stp_call (vs := [(i64 ((a0b.length : Int))), (i64 a1t)]) Try.func38 rfl rfl rfl (ar2 rfl rfl) (code_PartSize_calls (a0b.length : Int) a1t  r33 _  hr33) ?_)
                  rintro _ w33 ⟨rfl, x33⟩
                  refine ⟨_, rfl, x33, ?_⟩
                  replace i13_0 := i13_0.lift (Lift.ext x33 _)
                  replace i25_0 := i25_0.lift (Lift.ext x33 _)
                  replace i32 := i32.lift (Lift.ext x33 _)
                  have e34 := e28.trans x33
                  refine wsa rfl rfl rfl (q_neI rfl rfl rfl) ?_
                  refine wsa rfl rfl rfl (q_pick_f (v := (.bool ((!decide (r33 = (c31.length : Int)))))) rfl rfl rfl) ?_
                  refine ws_nil ?_
                  refine W_th ?_
                  refine W_cond _ rfl rfl (fun hb35 => ?_) (fun hb35 => ?_)
                  · replace H := (if_neg (ndec_t hb35)).symm.trans H
                    refine W_seq ?_
                    refine W_reg (by kernel_rfl) ?_
                    refine wla rfl rfl (q_assign (v := (.bool false)) rfl rfl) ?_
                    refine wl_nil ?_
                    refine W_th ?_
                    refine W_ret ?_
                    refine th_r ?_
                    obtain rfl := Option.some.inj H
                    refine rt1 (.bool false) rfl rfl rfl rfl ?_
                    exact ⟨rfl, e34⟩
                  · replace H := (if_pos (ndec_f hb35)).symm.trans H
                    refine W_skip ?_
                    refine W_th ?_
                    refine W_seq ?_
                    refine W_seq ?_
                    refine W_reg (by kernel_rfl) ?_
                    refine wla rfl rfl (q_move (v := v13_0) rfl rfl) ?_
                    refine wla rfl rfl (q_len rfl T23.sl rfl i13_0) ?_
                    refine wla rfl rfl (q_move (v := (i64 0)) rfl rfl) ?_
                    refine wl_nil ?_
                    refine W_th ?_
                    obtain ⟨x36, G36, H⟩ := Option.bind_eq_some_iff.1 H
                    refine W_mid (fun f w => ∃ y36, x36 = .inl y36 ∧ f 0 = p0 ∧ f 1 = (i64 a1t) ∧ f 2 = (i64 a2size) ∧ f 7 = v13_0 ∧ f 9 = v25 ∧ f 145 = undef ∧ Ext w0 w ∧ Rw w [] v13_0 r13.1 ∧ Rw w [] v25 r25) ?_ ?_
                    · refine W_block ?_
                      refine W_loop (fun s36 f w => f 0 = p0 ∧ f 1 = (i64 a1t) ∧ f 2 = (i64 a2size) ∧ f 7 = v13_0 ∧ f 9 = v25 ∧ f 80 = (i64 ((r13.1.length : Int))) ∧ f 81 = (i64 s36) ∧ f 145 = undef ∧ Ext w0 w ∧ Rw w [] v13_0 r13.1 ∧ Rw w [] v25 r25) G36 ?_ ?_
                      · exact ⟨rfl, rfl, rfl, rfl, rfl, rfl, rfl, rfl, e34, i13_0, i25_0⟩
                      · rintro s36 _ _ w37 ⟨s0_37, s1_37, s2_37, s7_37, s9_37, s80_37, s81_37, s145_37, hE37, i0_37, i1_37⟩ H36 hr36
                        refine W_seq ?_
                        refine W_reg (by kernel_rfl) ?_
                        refine wla rfl rfl (q_ltI rfl s81_37 s80_37) ?_
                        refine wl_nil ?_
                        refine W_th ?_
                        refine W_seq ?_
                        refine W_cond _ rfl rfl (fun hb38 => ?_) (fun hb38 => ?_)
                        · replace H36 := (if_pos (of_decide_eq_true hb38)).symm.trans H36
                          refine W_skip ?_
                          refine W_th ?_
                          refine W_seq ?_
                          refine W_block ?_
                          refine W_seq ?_
                          refine W_reg (by kernel_rfl) ?_
                          refine wla rfl rfl (q_move (v := (i64 s36)) rfl s81_37) ?_
                          refine wla rfl rfl (q_assign (v := (i64 s36)) rfl rfl) ?_
                          refine wl_nil ?_
                          refine W_th ?_
                          refine W_seq ?_
                          refine W_draw [3, 4, 8, 9] [(0, 0), (1, 0), (2, 0), (3, 1), (4, 1), (5, 0), (6, 0), (7, 0), (8, 1), (9, 1), (10, 0)] mixed (by kernel_rfl) (by kernel_rfl) (by kernel_rfl) (by kernel_rfl) ?_
                          have x39 := Ext.drew w37
                          replace i0_37 := i0_37.lift (Lift.ext x39 _)
                          replace i1_37 := i1_37.lift (Lift.ext x39 _)
                          have e40 := hE37.trans x39
                          refine wsa rfl rfl rfl (q_move (v := v13_0) rfl s7_37) ?_
                          refine wsa rfl rfl rfl (q_move (v := (i64 s36)) rfl rfl) ?_
                          obtain ⟨c41, hc41, H36⟩ := Option.bind_eq_some_iff.1 H36
                          refine wsa rfl rfl rfl (q_adr rfl T23 rfl rfl i0_37 hc41) ?_
                          refine wsq_load rfl rfl rfl rfl T23 rfl i0_37 hc41 (Ext.refl _) (fun v42 i42 => ?_)
                          refine wsq rfl rfl rfl (q_str rfl T22 rfl rfl rfl i42) ?_
                          refine wsa rfl rfl rfl (q_move (v := v25) rfl s9_37) ?_
                          refine wsa rfl rfl rfl (q_move (v := (i64 s36)) rfl rfl) ?_
                          obtain ⟨c43, hc43, H36⟩ := Option.bind_eq_some_iff.1 H36
                          refine wsa rfl rfl rfl (q_adr rfl T23 rfl rfl i1_37 hc43) ?_
                          refine wsq_load rfl rfl rfl rfl T23 rfl i1_37 hc43 (Ext.refl _) (fun v44 i44 => ?_)
                          refine wsq rfl rfl rfl (q_str rfl T22 rfl rfl rfl i44) ?_
                          refine wsa rfl rfl rfl (q_neS rfl rfl rfl) ?_
                          refine ws_nil ?_
                          refine W_th ?_
                          refine W_cond _ rfl rfl (fun hb45 => ?_) (fun hb45 => ?_)
                          · replace H36 := (if_neg (ndec_t hb45)).symm.trans H36
                            refine W_seq ?_
                            refine W_reg (by kernel_rfl) ?_
                            refine wla rfl rfl (q_assign (v := (.bool false)) rfl rfl) ?_
                            refine wl_nil ?_
                            refine W_th ?_
                            refine W_ret ?_
                            refine bk_r ?_
                            refine th_r ?_
                            obtain rfl := Option.some.inj H36
                            obtain rfl := hr36 _ rfl
                            simp only [Sum.elim_inr] at H
                            refine th_r ?_
                            refine bk_r ?_
                            refine th_r ?_
                            refine th_r ?_
                            obtain rfl := Option.some.inj H
                            refine rt1 (.bool false) rfl rfl rfl s145_37 ?_
                            exact ⟨rfl, e40⟩
                          · replace H36 := (if_pos (ndec_f hb45)).symm.trans H36
                            refine W_skip ?_
                            refine bk_n ?_
                            refine W_th ?_
                            refine W_reg (by kernel_rfl) ?_
                            refine wla rfl rfl (q_addI rfl s81_37 rfl) ?_
                            refine wla rfl rfl (q_move (v := (i64 ((wI (s36 + 1))))) rfl rfl) ?_
                            refine wl_nil ?_
                            obtain rfl := Option.some.inj H36
                            exact ⟨_, rfl, s0_37, s1_37, s2_37, s7_37, s9_37, s80_37, rfl, s145_37, e40, i0_37, i1_37⟩
                        · replace H36 := (if_neg (of_decide_eq_false hb38)).symm.trans H36
                          refine W_exit ?_
                          refine th_x ?_
                          obtain rfl := Option.some.inj H36
                          obtain rfl := hr36 _ rfl
                          refine th_x ?_
                          refine bk_x ?_
                          exact ⟨_, rfl, s0_37, s1_37, s2_37, s7_37, s9_37, s145_37, hE37, i0_37, i1_37⟩
                    · rintro _ w47 ⟨y36, rfl, s0_47, s1_47, s2_47, s7_47, s9_47, s145_47, hE47, i0_47, i1_47⟩
                      simp only [Sum.elim_inl] at H
                      refine W_th ?_
                      refine W_seq ?_
                      refine W_reg (by kernel_rfl) ?_
                      refine wla rfl rfl (q_move (v := v13_0) rfl s7_47) ?_
                      refine wla rfl rfl (q_move (v := p0) rfl s0_47) ?_
                      refine wla rfl rfl (q_len rfl T22.sl rfl (hp0.lift (Lift.ext hE47 _))) ?_
                      obtain ⟨r48, hr48, H⟩ := Option.bind_eq_some_iff.1 H
                      refine wls rfl rfl (stp_call (vs := [v13_0, (i64 ((a0b.length : Int)))]) Try.func40 rfl rfl rfl (ar2 rfl rfl) (code_Glue_calls r13.1 (a0b.length : Int) v13_0 r48 _ (i0_47.lift (Lift.sub (fun _ _ => trivial))) hr48) ?_)
                      rintro _ w48 ⟨v48_0, rfl, x48, n48_0, o48_0⟩
                      refine ⟨_, rfl, ?_⟩
                      have i48_0 : By w48 [] v48_0 r48.1 := SlK.avail o48_0 _ (fun k hk => (Old.nil _) k (n48_0 k hk))
                      replace i0_47 := i0_47.lift (Lift.ext x48 _)
                      replace i1_47 := i1_47.lift (Lift.ext x48 _)
                      have e49 := hE47.trans x48
                      refine wla rfl rfl (q_move (v := (.tuple #[v48_0, (i64 r48.2)])) rfl rfl) ?_
                      refine wla rfl rfl (q_extract rfl rfl rfl) ?_
                      refine wla rfl rfl (q_extract rfl rfl rfl) ?_
                      refine wla rfl rfl (q_assign (v := v48_0) rfl rfl) ?_
                      refine wla rfl rfl (q_assign (v := (i64 r48.2)) rfl rfl) ?_
                      refine wl_nil ?_
                      refine W_th ?_
                      refine W_seq ?_
                      refine W_reg (by kernel_rfl) ?_
                      refine wla rfl rfl (q_move (v := v13_0) rfl s7_47) ?_
                      refine wla rfl rfl (q_move (v := (i64 a2size)) rfl s2_47) ?_
                      obtain ⟨r50, hr50, H⟩ := Option.bind_eq_some_iff.1 H
                      refine wls rfl rfl (stp_call (vs := [v13_0, (i64 a2size)]) Try.func40 rfl rfl rfl (ar2 rfl rfl) (code_Glue_calls r13.1 a2size v13_0 r50 _ (i0_47.lift (Lift.sub (fun _ _ => trivial))) hr50) ?_)
                      rintro _ w50 ⟨v50_0, rfl, x50, n50_0, o50_0⟩
                      refine ⟨_, rfl, ?_⟩
                      have i50_0 : By w50 [] v50_0 r50.1 := SlK.avail o50_0 _ (fun k hk => (Old.nil _) k (n50_0 k hk))
                      replace i0_47 := i0_47.lift (Lift.ext x50 _)
                      replace i1_47 := i1_47.lift (Lift.ext x50 _)
                      replace i48_0 := i48_0.lift (Lift.ext x50 _)
                      have e51 := e49.trans x50
                      refine wla rfl rfl (q_move (v := (.tuple #[v50_0, (i64 r50.2)])) rfl rfl) ?_
                      refine wla rfl rfl (q_extract rfl rfl rfl) ?_
                      refine wla rfl rfl (q_extract rfl rfl rfl) ?_
                      refine wla rfl rfl (q_assign (v := v50_0) rfl rfl) ?_
                      refine wla rfl rfl (q_assign (v := (i64 r50.2)) rfl rfl) ?_
                      refine wl_nil ?_
                      refine W_th ?_
                      refine W_seq ?_
                      refine W_seq ?_
                      refine W_reg (by kernel_rfl) ?_
                      refine wla rfl rfl (q_move (v := (i64 r48.2)) rfl rfl) ?_
                      refine wla rfl rfl (q_neI rfl rfl rfl) ?_
                      refine wlb rfl rfl (q_move (v := (.bool ((!decide (r48.2 = 0))))) rfl rfl) (fun hb52 => ?_) (fun hb52 => ?_)
                      · replace H := (if_neg (ndec_t hb52)).symm.trans H
                        refine wlk rfl rfl ?_
                        refine wlk rfl rfl ?_
                        refine wlk rfl rfl ?_
                        refine wlk rfl rfl ?_
                        refine wlk rfl rfl ?_
                        refine wla rfl rfl (q_pick_t (v := (.bool true)) rfl rfl rfl) ?_
                        refine wl_nil ?_
                        refine W_th ?_
                        refine W_cond true rfl rfl (fun _ => ?_) (fun hb => by cases hb)
                        refine W_seq ?_
                        refine W_reg (by kernel_rfl) ?_
                        refine wla rfl rfl (q_assign (v := (.bool false)) rfl rfl) ?_
                        refine wl_nil ?_
                        refine W_th ?_
                        refine W_ret ?_
                        refine th_r ?_
                        obtain rfl := Option.some.inj H
                        refine rt1 (.bool false) rfl rfl rfl s145_47 ?_
                        exact ⟨rfl, e51⟩
                      · replace H := (if_pos (ndec_f hb52)).symm.trans H
                        refine wla rfl rfl (q_move (v := v48_0) rfl rfl) ?_
                        refine wlq rfl rfl (q_str rfl T22 rfl rfl rfl i48_0) ?_
                        refine wla rfl rfl (q_move (v := p0) rfl s0_47) ?_
                        refine wlq rfl rfl (q_str rfl T22 rfl rfl rfl (hp0.lift (Lift.ext e51 _))) ?_
                        refine wla rfl rfl (q_neS rfl rfl rfl) ?_
                        refine wla rfl rfl (q_pick_f (v := (.bool ((!decide (r48.1 = a0b))))) rfl rfl rfl) ?_
                        refine wl_nil ?_
                        refine W_th ?_
                        refine W_cond _ rfl rfl (fun hb53 => ?_) (fun hb53 => ?_)
                        · replace H := (if_neg (ndec_t hb53)).symm.trans H
                          refine W_seq ?_
                          refine W_reg (by kernel_rfl) ?_
                          refine wla rfl rfl (q_assign (v := (.bool false)) rfl rfl) ?_
                          refine wl_nil ?_
                          refine W_th ?_
                          refine W_ret ?_
                          refine th_r ?_
                          obtain rfl := Option.some.inj H
                          refine rt1 (.bool false) rfl rfl rfl s145_47 ?_
                          exact ⟨rfl, e51⟩
                        · replace H := (if_pos (ndec_f hb53)).symm.trans H
                          refine W_skip ?_
                          refine W_th ?_
                          refine W_seq ?_
                          refine W_seq ?_
                          refine W_reg (by kernel_rfl) ?_
                          refine wla rfl rfl (q_move (v := (i64 a2size)) rfl s2_47) ?_
                          refine wla rfl rfl (q_ltI rfl rfl rfl) ?_
                          refine wlb rfl rfl (q_move (v := (.bool ((decide (a2size < 0))))) rfl rfl) (fun hb54 => ?_) (fun hb54 => ?_)
                          · replace H := (if_pos (of_decide_eq_true hb54)).symm.trans H
                            refine wlk rfl rfl ?_
                            refine wlk rfl rfl ?_
                            refine wlk rfl rfl ?_
                            refine wlk rfl rfl ?_
                            refine wlk rfl rfl ?_
                            refine wlk rfl rfl ?_
                            refine wlk rfl rfl ?_
                            refine wlk rfl rfl ?_
                            refine wla rfl rfl (q_pick_t (v := (.bool true)) rfl rfl rfl) ?_
                            refine wl_nil ?_
                            refine W_th ?_
                            refine W_cond true rfl rfl (fun _ => ?_) (fun hb => by cases hb)
                            refine W_seq ?_
                            refine W_reg (by kernel_rfl) ?_
                            refine wla rfl rfl (q_move (v := (i64 r50.2)) rfl rfl) ?_
                            refine wla rfl rfl (q_eqI rfl rfl rfl) ?_
                            refine wlb rfl rfl (q_move (v := (.bool ((decide (r50.2 = 2))))) rfl rfl) (fun hb55 => ?_) (fun hb55 => ?_)
                            · replace H := (if_pos (of_decide_eq_true hb55)).symm.trans H
                              refine wla rfl rfl (q_move (v := v50_0) rfl rfl) ?_
                              refine wla rfl rfl (q_len rfl T22.sl rfl i50_0) ?_
                              refine wla rfl rfl (q_eqI rfl rfl rfl) ?_
                              refine wla rfl rfl (q_pick_t (v := (.bool ((decide ((r50.1.length : Int) = 0))))) rfl rfl rfl) ?_
                              refine wla rfl rfl (q_assign (v := (.bool ((decide ((r50.1.length : Int) = 0))))) rfl rfl) ?_
                              refine wl_nil ?_
                              refine W_th ?_
                              refine W_ret ?_
                              refine th_r ?_
                              obtain rfl := Option.some.inj H
                              refine rt1 (.bool ((decide ((r50.1.length : Int) = 0)))) rfl rfl rfl s145_47 ?_
                              exact ⟨rfl, e51⟩
                            · replace H := (if_neg (of_decide_eq_false hb55)).symm.trans H
                              refine wlk rfl rfl ?_
                              refine wlk rfl rfl ?_
                              refine wlk rfl rfl ?_
                              refine wla rfl rfl (q_pick_f (v := (.bool false)) rfl rfl rfl) ?_
                              refine wla rfl rfl (q_assign (v := (.bool false)) rfl rfl) ?_
                              refine wl_nil ?_
                              refine W_th ?_
                              refine W_ret ?_
                              refine th_r ?_
                              obtain rfl := Option.some.inj H
                              refine rt1 (.bool false) rfl rfl rfl s145_47 ?_
                              exact ⟨rfl, e51⟩
                          · replace H := (if_neg (of_decide_eq_false hb54)).symm.trans H
                            refine wla rfl rfl (q_move (v := (i64 a2size)) rfl s2_47) ?_
                            refine wla rfl rfl (q_move (v := (i64 a1t)) rfl s1_47) ?_
                            refine wla rfl rfl (q_move (v := v25) rfl s9_47) ?_
                            obtain ⟨c56, hc56, H⟩ := Option.bind_eq_some_iff.1 H
                            refine wla rfl rfl (q_adr rfl T23 rfl rfl i1_47 hc56) ?_
                            refine wlq_load rfl rfl rfl T23 rfl i1_47 hc56 (Ext.refl _) (fun v57 i57 => ?_)
                            refine wla rfl rfl (q_len rfl T22.sl rfl i57) ?_
                            refine wla rfl rfl (q_mulI rfl rfl rfl) ?_
                            refine wla rfl rfl (q_gtI rfl rfl rfl) ?_
                            refine wla rfl rfl (q_pick_f (v := (.bool ((decide ((wI (a1t * (c56.length : Int))) < a2size))))) rfl rfl rfl) ?_
                            refine wl_nil ?_
                            refine W_th ?_
                            refine W_cond _ rfl rfl (fun hb58 => ?_) (fun hb58 => ?_)
                            · replace H := (if_pos (of_decide_eq_true hb58)).symm.trans H
                              refine W_seq ?_
                              refine W_reg (by kernel_rfl) ?_
                              refine wla rfl rfl (q_move (v := (i64 r50.2)) rfl rfl) ?_
                              refine wla rfl rfl (q_eqI rfl rfl rfl) ?_
                              refine wlb rfl rfl (q_move (v := (.bool ((decide (r50.2 = 2))))) rfl rfl) (fun hb59 => ?_) (fun hb59 => ?_)
                              · replace H := (if_pos (of_decide_eq_true hb59)).symm.trans H
                                refine wla rfl rfl (q_move (v := v50_0) rfl rfl) ?_
                                refine wla rfl rfl (q_len rfl T22.sl rfl i50_0) ?_
                                refine wla rfl rfl (q_eqI rfl rfl rfl) ?_
                                refine wla rfl rfl (q_pick_t (v := (.bool ((decide ((r50.1.length : Int) = 0))))) rfl rfl rfl) ?_
                                refine wla rfl rfl (q_assign (v := (.bool ((decide ((r50.1.length : Int) = 0))))) rfl rfl) ?_
                                refine wl_nil ?_
                                refine W_th ?_
                                refine W_ret ?_
                                refine th_r ?_
                                obtain rfl := Option.some.inj H
                                refine rt1 (.bool ((decide ((r50.1.length : Int) = 0)))) rfl rfl rfl s145_47 ?_
                                exact ⟨rfl, e51⟩
                              · replace H := (if_neg (of_decide_eq_false hb59)).symm.trans H
                                refine wlk rfl rfl ?_
                                refine wlk rfl rfl ?_
                                refine wlk rfl rfl ?_
                                refine wla rfl rfl (q_pick_f (v := (.bool false)) rfl rfl rfl) ?_
                                refine wla rfl rfl (q_assign (v := (.bool false)) rfl rfl) ?_
                                refine wl_nil ?_
                                refine W_th ?_
                                refine W_ret ?_
                                refine th_r ?_
                                obtain rfl := Option.some.inj H
                                refine rt1 (.bool false) rfl rfl rfl s145_47 ?_
                                exact ⟨rfl, e51⟩
                            · replace H := (if_neg (of_decide_eq_false hb58)).symm.trans H
                              refine W_skip ?_
                              refine W_th ?_
                              refine W_seq ?_
                              refine W_reg (by kernel_rfl) ?_
                              refine wla rfl rfl (q_move (v := (i64 r50.2)) rfl rfl) ?_
                              refine wla rfl rfl (q_eqI rfl rfl rfl) ?_
                              refine wlb rfl rfl (q_move (v := (.bool ((decide (r50.2 = 0))))) rfl rfl) (fun hb60 => ?_) (fun hb60 => ?_)
                              · replace H := (if_pos (of_decide_eq_true hb60)).symm.trans H
                                refine wla rfl rfl (q_move (v := v50_0) rfl rfl) ?_
                                refine wla rfl rfl (q_len rfl T22.sl rfl i50_0) ?_
                                refine wla rfl rfl (q_move (v := (i64 a2size)) rfl s2_47) ?_
                                refine wla rfl rfl (q_eqI rfl rfl rfl) ?_
                                refine wla rfl rfl (q_pick_t (v := (.bool ((decide ((r50.1.length : Int) = a2size))))) rfl rfl rfl) ?_
                                refine wla rfl rfl (q_assign (v := (.bool ((decide ((r50.1.length : Int) = a2size))))) rfl rfl) ?_
                                refine wl_nil ?_
                                refine W_th ?_
                                refine W_ret ?_
                                obtain rfl := Option.some.inj H
                                refine rt1 (.bool ((decide ((r50.1.length : Int) = a2size)))) rfl rfl rfl s145_47 ?_
                                exact ⟨rfl, e51⟩
                              · replace H := (if_neg (of_decide_eq_false hb60)).symm.trans H
                                refine wlk rfl rfl ?_
                                refine wlk rfl rfl ?_
                                refine wlk rfl rfl ?_
                                refine wlk rfl rfl ?_
                                refine wla rfl rfl (q_pick_f (v := (.bool false)) rfl rfl rfl) ?_
                                refine wla rfl rfl (q_assign (v := (.bool false)) rfl rfl) ?_
                                refine wl_nil ?_
                                refine W_th ?_
                                refine W_ret ?_
                                obtain rfl := Option.some.inj H
                                refine rt1 (.bool false) rfl rfl rfl s145_47 ?_
                                exact ⟨rfl, e51⟩
      · replace H := (if_neg (of_decide_eq_false hb9)).symm.trans H
        refine wlk rfl rfl ?_
        refine wlk rfl rfl ?_
        refine wla rfl rfl (q_pick_f (v := (.bool false)) rfl rfl rfl) ?_
        refine wla rfl rfl (q_pick_f (v := (.bool false)) rfl rfl rfl) ?_
        refine wl_nil ?_
        refine W_th ?_
        refine W_cond false rfl rfl (fun hb => by cases hb) (fun _ => ?_)
        refine W_skip ?_
        refine W_th ?_
        refine W_seq ?_
        refine W_reg (by kernel_rfl) ?_
        refine wla rfl rfl (q_move (v := p0) rfl rfl) ?_
        refine wla rfl rfl (q_move (v := (i64 a1t)) rfl rfl) ?_
        obtain ⟨r62, hr62, H⟩ := Option.bind_eq_some_iff.1 H
        refine wls rfl rfl (stp_call (vs := [p0, (i64 a1t)]) Try.func37 rfl rfl rfl (ar2 rfl rfl) (code_Cut_calls a0b a1t p0 r62 _ [] (Old.nil _) (hp0.lift (Lift.ext e2 _)) hr62) ?_)
        rintro _ w62 ⟨v62_0, rfl, x62, n62_0, o62_0⟩
        refine ⟨_, rfl, ?_⟩
        have i62_0 : Rw w62 [] v62_0 r62.1 := OwK.slk (SlK.stab (Sc.stab _)) _ o62_0 (fun k hk => (Old.nil _) k (n62_0 k hk)) (fun _ h => h.2)
        have e63 := e2.trans x62
        refine wla rfl rfl (q_move (v := (.tuple #[v62_0, (i64 r62.2)])) rfl rfl) ?_
        refine wla rfl rfl (q_extract rfl rfl rfl) ?_
        refine wla rfl rfl (q_extract rfl rfl rfl) ?_
        refine wla rfl rfl (q_assign (v := v62_0) rfl rfl) ?_
        refine wla rfl rfl (q_assign (v := (i64 r62.2)) rfl rfl) ?_
        refine wl_nil ?_
        refine W_th ?_
        refine W_seq ?_
        refine W_seq ?_
        refine W_reg (by kernel_rfl) ?_
        refine wla rfl rfl (q_move (v := (i64 a1t)) rfl rfl) ?_
        refine wla rfl rfl (q_ltI rfl rfl rfl) ?_
        refine wlb rfl rfl (q_move (v := (.bool ((decide (a1t < 1))))) rfl rfl) (fun hb64 => ?_) (fun hb64 => ?_)
        · replace H := (if_pos (of_decide_eq_true hb64)).symm.trans H
          refine wlk rfl rfl ?_
          refine wlk rfl rfl ?_
          refine wla rfl rfl (q_pick_t (v := (.bool true)) rfl rfl rfl) ?_
          refine wl_nil ?_
          refine W_th ?_
          refine W_cond true rfl rfl (fun _ => ?_) (fun hb => by cases hb)
          refine W_seq ?_
          refine W_reg (by kernel_rfl) ?_
          refine wla rfl rfl (q_move (v := (i64 r62.2)) rfl rfl) ?_
          refine wla rfl rfl (q_eqI rfl rfl rfl) ?_
          refine wlb rfl rfl (q_move (v := (.bool ((decide (r62.2 = 2))))) rfl rfl) (fun hb65 => ?_) (fun hb65 => ?_)
          · replace H := (if_pos (of_decide_eq_true hb65)).symm.trans H
            refine wla rfl rfl (q_move (v := v62_0) rfl rfl) ?_
            refine wla rfl rfl (q_len rfl T23.sl rfl i62_0) ?_
            refine wla rfl rfl (q_eqI rfl rfl rfl) ?_
            refine wla rfl rfl (q_pick_t (v := (.bool ((decide ((r62.1.length : Int) = 0))))) rfl rfl rfl) ?_
            refine wlb rfl rfl (q_move (v := (.bool ((decide ((r62.1.length : Int) = 0))))) rfl rfl) (fun hb66 => ?_) (fun hb66 => ?_)
            · replace H := (if_pos (of_decide_eq_true hb66)).symm.trans H
              refine wla rfl rfl (q_move (v := p0) rfl rfl) ?_
              refine wla rfl rfl (q_len rfl T22.sl rfl (hp0.lift (Lift.ext e63 _))) ?_
              refine wla rfl rfl (q_move (v := (i64 a1t)) rfl rfl) ?_
              obtain ⟨r67, hr67, H⟩ := Option.bind_eq_some_iff.1 H
              refine wls rfl rfl (stp_call (vs := [(i64 ((a0b.length : Int))), (i64 a1t)]) Try.func38 rfl rfl rfl (ar2 rfl rfl) (code_PartSize_calls (a0b.length : Int) a1t  r67 _  hr67) ?_)
              rintro _ w67 ⟨rfl, x67⟩
              refine ⟨_, rfl, ?_⟩
              replace i62_0 := i62_0.lift (Lift.ext x67 _)
              have e68 := e63.trans x67
              refine wla rfl rfl (q_eqI rfl rfl rfl) ?_
              refine wla rfl rfl (q_pick_t (v := (.bool ((decide (r67 = 0))))) rfl rfl rfl) ?_
              refine wla rfl rfl (q_assign (v := (.bool ((decide (r67 = 0))))) rfl rfl) ?_
              refine wl_nil ?_
              refine W_th ?_
              refine W_ret ?_
              refine th_r ?_
              obtain rfl := Option.some.inj H
              refine rt1 (.bool ((decide (r67 = 0)))) rfl rfl rfl rfl ?_
              exact ⟨rfl, e68⟩
            · replace H := (if_neg (of_decide_eq_false hb66)).symm.trans H
              refine wlk rfl rfl ?_
              refine wlk rfl rfl ?_
              refine wlk rfl rfl ?_
              refine wlk rfl rfl ?_
              refine wlk rfl rfl ?_
              refine wla rfl rfl (q_pick_f (v := (.bool false)) rfl rfl rfl) ?_
              refine wla rfl rfl (q_assign (v := (.bool false)) rfl rfl) ?_
              refine wl_nil ?_
              refine W_th ?_
              refine W_ret ?_
              refine th_r ?_
              obtain rfl := Option.some.inj H
              refine rt1 (.bool false) rfl rfl rfl rfl ?_
              exact ⟨rfl, e63⟩
          · replace H := (if_neg (of_decide_eq_false hb65)).symm.trans H
            refine wlk rfl rfl ?_
            refine wlk rfl rfl ?_
            refine wlk rfl rfl ?_
            refine wla rfl rfl (q_pick_f (v := (.bool false)) rfl rfl rfl) ?_
            refine wla rfl rfl (q_move (v := (.bool false)) rfl rfl) ?_
            refine wlk rfl rfl ?_
            refine wlk rfl rfl ?_
            refine wlk rfl rfl ?_
            refine wlk rfl rfl ?_
            refine wlk rfl rfl ?_
            refine wla rfl rfl (q_pick_f (v := (.bool false)) rfl rfl rfl) ?_
            refine wla rfl rfl (q_assign (v := (.bool false)) rfl rfl) ?_
            refine wl_nil ?_
            refine W_th ?_
            refine W_ret ?_
            refine th_r ?_
            obtain rfl := Option.some.inj H
            refine rt1 (.bool false) rfl rfl rfl rfl ?_
            exact ⟨rfl, e63⟩
        · replace H := (if_neg (of_decide_eq_false hb64)).symm.trans H
          refine wla rfl rfl (q_move (v := (i64 a1t)) rfl rfl) ?_
          refine wla rfl rfl (q_gtI rfl rfl rfl) ?_
          refine wla rfl rfl (q_pick_f (v := (.bool ((decide (255 < a1t))))) rfl rfl rfl) ?_
          refine wl_nil ?_
          refine W_th ?_
          refine W_cond _ rfl rfl (fun hb69 => ?_) (fun hb69 => ?_)
          · replace H := (if_pos (of_decide_eq_true hb69)).symm.trans H
            refine W_seq ?_
            refine W_reg (by kernel_rfl) ?_
            refine wla rfl rfl (q_move (v := (i64 r62.2)) rfl rfl) ?_
            refine wla rfl rfl (q_eqI rfl rfl rfl) ?_
            refine wlb rfl rfl (q_move (v := (.bool ((decide (r62.2 = 2))))) rfl rfl) (fun hb70 => ?_) (fun hb70 => ?_)
            · replace H := (if_pos (of_decide_eq_true hb70)).symm.trans H
              refine wla rfl rfl (q_move (v := v62_0) rfl rfl) ?_
              refine wla rfl rfl (q_len rfl T23.sl rfl i62_0) ?_
              refine wla rfl rfl (q_eqI rfl rfl rfl) ?_
              refine wla rfl rfl (q_pick_t (v := (.bool ((decide ((r62.1.length : Int) = 0))))) rfl rfl rfl) ?_
              refine wlb rfl rfl (q_move (v := (.bool ((decide ((r62.1.length : Int) = 0))))) rfl rfl) (fun hb71 => ?_) (fun hb71 => ?_)
              · replace H := (if_pos (of_decide_eq_true hb71)).symm.trans H
                refine wla rfl rfl (q_move (v := p0) rfl rfl) ?_
                refine wla rfl rfl (q_len rfl T22.sl rfl (hp0.lift (Lift.ext e63 _))) ?_
                refine wla rfl rfl (q_move (v := (i64 a1t)) rfl rfl) ?_
                obtain ⟨r72, hr72, H⟩ := Option.bind_eq_some_iff.1 H
                refine wls rfl rfl (stp_call (vs := [(i64 ((a0b.length : Int))), (i64 a1t)]) Try.func38 rfl rfl rfl (ar2 rfl rfl) (code_PartSize_calls (a0b.length : Int) a1t  r72 _  hr72) ?_)
                rintro _ w72 ⟨rfl, x72⟩
                refine ⟨_, rfl, ?_⟩
                replace i62_0 := i62_0.lift (Lift.ext x72 _)
                have e73 := e63.trans x72
                refine wla rfl rfl (q_eqI rfl rfl rfl) ?_
                refine wla rfl rfl (q_pick_t (v := (.bool ((decide (r72 = 0))))) rfl rfl rfl) ?_
                refine wla rfl rfl (q_assign (v := (.bool ((decide (r72 = 0))))) rfl rfl) ?_
                refine wl_nil ?_
                refine W_th ?_
                refine W_ret ?_
                refine th_r ?_
                obtain rfl := Option.some.inj H
                refine rt1 (.bool ((decide (r72 = 0)))) rfl rfl rfl rfl ?_
                exact ⟨rfl, e73⟩
              · replace H := (if_neg (of_decide_eq_false hb71)).symm.trans H
                refine wlk rfl rfl ?_
                refine wlk rfl rfl ?_
                refine wlk rfl rfl ?_
                refine wlk rfl rfl ?_
                refine wlk rfl rfl ?_
                refine wla rfl rfl (q_pick_f (v := (.bool false)) rfl rfl rfl) ?_
                refine wla rfl rfl (q_assign (v := (.bool false)) rfl rfl) ?_
                refine wl_nil ?_
                refine W_th ?_
                refine W_ret ?_
                refine th_r ?_
                obtain rfl := Option.some.inj H
                refine rt1 (.bool false) rfl rfl rfl rfl ?_
                exact ⟨rfl, e63⟩
            · replace H := (if_neg (of_decide_eq_false hb70)).symm.trans H
              refine wlk rfl rfl ?_
              refine wlk rfl rfl ?_
              refine wlk rfl rfl ?_
              refine wla rfl rfl (q_pick_f (v := (.bool false)) rfl rfl rfl) ?_
              refine wla rfl rfl (q_move (v := (.bool false)) rfl rfl) ?_
              refine wlk rfl rfl ?_
              refine wlk rfl rfl ?_
              refine wlk rfl rfl ?_
              refine wlk rfl rfl ?_
              refine wlk rfl rfl ?_
              refine wla rfl rfl (q_pick_f (v := (.bool false)) rfl rfl rfl) ?_
              refine wla rfl rfl (q_assign (v := (.bool false)) rfl rfl) ?_
              refine wl_nil ?_
              refine W_th ?_
              refine W_ret ?_
              refine th_r ?_
              obtain rfl := Option.some.inj H
              refine rt1 (.bool false) rfl rfl rfl rfl ?_
              exact ⟨rfl, e63⟩
          · replace H := (if_neg (of_decide_eq_false hb69)).symm.trans H
            refine W_skip ?_
            refine W_th ?_
            refine W_seq ?_
            refine W_reg (by kernel_rfl) ?_
            refine wla rfl rfl (q_move (v := p0) rfl rfl) ?_
            refine wla rfl rfl (q_move (v := (i64 a1t)) rfl rfl) ?_
            obtain ⟨r74, hr74, H⟩ := Option.bind_eq_some_iff.1 H
            refine wls rfl rfl (stp_call (vs := [p0, (i64 a1t)]) Try.func39 rfl rfl rfl (ar2 rfl rfl) (ref09_Cut_calls a0b a1t p0 r74 _ [] (Old.nil _) (hp0.lift (Lift.ext e63 _)) hr74) ?_)
            rintro _ w74 ⟨v74, rfl, x74, n74_0, o74_0⟩
            refine ⟨_, rfl, ?_⟩
            have i74_0 : Rw w74 [] v74 r74 := OwK.slk (SlK.stab (Sc.stab _)) _ o74_0 (fun k hk => (Old.nil _) k (n74_0 k hk)) (fun _ h => h.2)
            replace i62_0 := i62_0.lift (Lift.ext x74 _)
            have e75 := e63.trans x74
            refine wla rfl rfl (q_assign (v := v74) rfl rfl) ?_
            refine wl_nil ?_
            refine W_th ?_
            refine W_seq ?_
            refine W_seq ?_
            refine W_draw [15] [(0, 0), (1, 0), (2, 0), (3, 0), (4, 0), (5, 0), (6, 0), (7, 0), (8, 0), (9, 0), (10, 0), (11, 0), (13, 0), (14, 0), (15, 1), (16, 0), (12, 2), (17, 0), (18, 0)] mixed (by kernel_rfl) (by kernel_rfl) (by kernel_rfl) (by kernel_rfl) ?_
            have x76 := Ext.drew w74
            replace i62_0 := i62_0.lift (Lift.ext x76 _)
            replace i74_0 := i74_0.lift (Lift.ext x76 _)
            have e77 := e75.trans x76
            refine wsa rfl rfl rfl (q_move (v := (i64 r62.2)) rfl rfl) ?_
            refine wsa rfl rfl rfl (q_neI rfl rfl rfl) ?_
            refine wsb rfl rfl rfl (q_move (v := (.bool ((!decide (r62.2 = 0))))) rfl rfl) (fun hb78 => ?_) (fun hb78 => ?_)
            · replace H := (if_neg (ndec_t hb78)).symm.trans H
              refine wsk rfl rfl rfl ?_
              refine wsk rfl rfl rfl ?_
              refine wsk rfl rfl rfl ?_
              refine wsk rfl rfl rfl ?_
              refine wsa rfl rfl rfl (q_pick_t (v := (.bool true)) rfl rfl rfl) ?_
              refine wsa rfl rfl rfl (q_move (v := (.bool true)) rfl rfl) ?_
              refine wsk rfl rfl rfl ?_
              refine wsk rfl rfl rfl ?_
              refine wsk rfl rfl rfl ?_
              refine wsk rfl rfl rfl ?_
              refine wsk rfl rfl rfl ?_
              refine wsk rfl rfl rfl ?_
              refine wsk rfl rfl rfl ?_
              refine wsk rfl rfl rfl ?_
              refine wsk rfl rfl rfl ?_
              refine wsa rfl rfl rfl (q_pick_t (v := (.bool true)) rfl rfl rfl) ?_
              refine ws_nil ?_
              refine W_th ?_
              refine W_cond true rfl rfl (fun _ => ?_) (fun hb => by cases hb)
              refine W_seq ?_
              refine W_reg (by kernel_rfl) ?_
              refine wla rfl rfl (q_assign (v := (.bool false)) rfl rfl) ?_
              refine wl_nil ?_
              refine W_th ?_
              refine W_ret ?_
              refine th_r ?_
              obtain rfl := Option.some.inj H
              refine rt1 (.bool false) rfl rfl rfl rfl ?_
              exact ⟨rfl, e77⟩
            · replace H := (if_pos (ndec_f hb78)).symm.trans H
              refine wsa rfl rfl rfl (q_move (v := v62_0) rfl rfl) ?_
              refine wsa rfl rfl rfl (q_len rfl T23.sl rfl i62_0) ?_
              refine wsa rfl rfl rfl (q_move (v := (i64 a1t)) rfl rfl) ?_
              refine wsa rfl rfl rfl (q_neI rfl rfl rfl) ?_
              refine wsa rfl rfl rfl (q_pick_f (v := (.bool ((!decide ((r62.1.length : Int) = a1t))))) rfl rfl rfl) ?_
              refine wsb rfl rfl rfl (q_move (v := (.bool ((!decide ((r62.1.length : Int) = a1t))))) rfl rfl) (fun hb79 => ?_) (fun hb79 => ?_)
              · replace H := (if_neg (ndec_t hb79)).symm.trans H
                refine wsk rfl rfl rfl ?_
                refine wsk rfl rfl rfl ?_
                refine wsk rfl rfl rfl ?_
                refine wsk rfl rfl rfl ?_
                refine wsk rfl rfl rfl ?_
                refine wsk rfl rfl rfl ?_
                refine wsk rfl rfl rfl ?_
                refine wsk rfl rfl rfl ?_
                refine wsk rfl rfl rfl ?_
                refine wsa rfl rfl rfl (q_pick_t (v := (.bool true)) rfl rfl rfl) ?_
                refine ws_nil ?_
                refine W_th ?_
                refine W_cond true rfl rfl (fun _ => ?_) (fun hb => by cases hb)
                refine W_seq ?_
                refine W_reg (by kernel_rfl) ?_
                refine wla rfl rfl (q_assign (v := (.bool false)) rfl rfl) ?_
                refine wl_nil ?_
                refine W_th ?_
                refine W_ret ?_
                refine th_r ?_
                obtain rfl := Option.some.inj H
                refine rt1 (.bool false) rfl rfl rfl rfl ?_
                exact ⟨rfl, e77⟩
              · replace H := (if_pos (ndec_f hb79)).symm.trans H
                refine wsa rfl rfl rfl (q_move (v := p0) rfl rfl) ?_
                refine wsa rfl rfl rfl (q_len rfl T22.sl rfl (hp0.lift (Lift.ext e77 _))) ?_
                refine wsa rfl rfl rfl (q_move (v := (i64 a1t)) rfl rfl) ?_
                refine wsa rfl rfl rfl (q_move (v := v74) rfl rfl) ?_
                obtain ⟨c80, hc80, H⟩ := Option.bind_eq_some_iff.1 H
                refine wsa rfl rfl rfl (q_adr rfl T23 rfl rfl i74_0 hc80) ?_
                refine wsq_load rfl rfl rfl rfl T23 rfl i74_0 hc80 (Ext.refl _) (fun v81 i81 => ?_)
                refine wsa rfl rfl rfl (q_len rfl T22.sl rfl i81) ?_
                obtain ⟨r82, hr82, H⟩ := Option.bind_eq_some_iff.1 H
                refine wss rfl rfl rfl (stp_call (vs := [(i64 ((a0b.length : Int))), (i64 a1t)]) Try.func38 rfl rfl rfl (ar2 rfl rfl) (code_PartSize_calls (a0b.length : Int) a1t  r82 _  hr82) ?_)
                rintro _ w82 ⟨rfl, x82⟩
                refine ⟨_, rfl, x82, ?_⟩
                replace i62_0 := i62_0.lift (Lift.ext x82 _)
                replace i74_0 := i74_0.lift (Lift.ext x82 _)
                replace i81 := i81.lift (Lift.ext x82 _)
                have e83 := e77.trans x82
                refine wsa rfl rfl rfl (q_neI rfl rfl rfl) ?_
                refine wsa rfl rfl rfl (q_pick_f (v := (.bool ((!decide (r82 = (c80.length : Int)))))) rfl rfl rfl) ?_
                refine ws_nil ?_
                refine W_th ?_
                refine W_cond _ rfl rfl (fun hb84 => ?_) (fun hb84 => ?_)
                · replace H := (if_neg (ndec_t hb84)).symm.trans H
                  refine W_seq ?_
                  refine W_reg (by kernel_rfl) ?_
                  refine wla rfl rfl (q_assign (v := (.bool false)) rfl rfl) ?_
                  refine wl_nil ?_
                  refine W_th ?_
                  refine W_ret ?_
                  refine th_r ?_
                  obtain rfl := Option.some.inj H
                  refine rt1 (.bool false) rfl rfl rfl rfl ?_
                  exact ⟨rfl, e83⟩
                · replace H := (if_pos (ndec_f hb84)).symm.trans H
                  refine W_skip ?_
                  refine W_th ?_
                  refine W_seq ?_
                  refine W_seq ?_
                  refine W_reg (by kernel_rfl) ?_
                  refine wla rfl rfl (q_move (v := v62_0) rfl rfl) ?_
                  refine wla rfl rfl (q_len rfl T23.sl rfl i62_0) ?_
                  refine wla rfl rfl (q_move (v := (i64 0)) rfl rfl) ?_
                  refine wl_nil ?_
                  refine W_th ?_
                  obtain ⟨x85, G85, H⟩ := Option.bind_eq_some_iff.1 H
                  refine W_mid (fun f w => ∃ y85, x85 = .inl y85 ∧ f 0 = p0 ∧ f 1 = (i64 a1t) ∧ f 2 = (i64 a2size) ∧ f 7 = v62_0 ∧ f 9 = v74 ∧ f 145 = undef ∧ Ext w0 w ∧ Rw w [] v62_0 r62.1 ∧ Rw w [] v74 r74) ?_ ?_
                  · refine W_block ?_
                    refine W_loop (fun s85 f w => f 0 = p0 ∧ f 1 = (i64 a1t) ∧ f 2 = (i64 a2size) ∧ f 7 = v62_0 ∧ f 9 = v74 ∧ f 80 = (i64 ((r62.1.length : Int))) ∧ f 81 = (i64 s85) ∧ f 145 = undef ∧ Ext w0 w ∧ Rw w [] v62_0 r62.1 ∧ Rw w [] v74 r74) G85 ?_ ?_
                    · exact ⟨rfl, rfl, rfl, rfl, rfl, rfl, rfl, rfl, e83, i62_0, i74_0⟩
                    · rintro s85 _ _ w86 ⟨s0_86, s1_86, s2_86, s7_86, s9_86, s80_86, s81_86, s145_86, hE86, i0_86, i1_86⟩ H85 hr85
                      refine W_seq ?_
                      refine W_reg (by kernel_rfl) ?_
                      refine wla rfl rfl (q_ltI rfl s81_86 s80_86) ?_
                      refine wl_nil ?_
                      refine W_th ?_
                      refine W_seq ?_
                      refine W_cond _ rfl rfl (fun hb87 => ?_) (fun hb87 => ?_)
                      · replace H85 := (if_pos (of_decide_eq_true hb87)).symm.trans H85
                        refine W_skip ?_
                        refine W_th ?_
                        refine W_seq ?_
                        refine W_block ?_
                        refine W_seq ?_
                        refine W_reg (by kernel_rfl) ?_
                        refine wla rfl rfl (q_move (v := (i64 s85)) rfl s81_86) ?_
                        refine wla rfl rfl (q_assign (v := (i64 s85)) rfl rfl) ?_
                        refine wl_nil ?_
                        refine W_th ?_
                        refine W_seq ?_
                        refine W_draw [3, 4, 8, 9] [(0, 0), (1, 0), (2, 0), (3, 1), (4, 1), (5, 0), (6, 0), (7, 0), (8, 1), (9, 1), (10, 0)] mixed (by kernel_rfl) (by kernel_rfl) (by kernel_rfl) (by kernel_rfl) ?_
                        have x88 := Ext.drew w86
                        replace i0_86 := i0_86.lift (Lift.ext x88 _)
                        replace i1_86 := i1_86.lift (Lift.ext x88 _)
                        have e89 := hE86.trans x88
                        refine wsa rfl rfl rfl (q_move (v := v62_0) rfl s7_86) ?_
                        refine wsa rfl rfl rfl (q_move (v := (i64 s85)) rfl rfl) ?_
                        obtain ⟨c90, hc90, H85⟩ := Option.bind_eq_some_iff.1 H85
                        refine wsa rfl rfl rfl (q_adr rfl T23 rfl rfl i0_86 hc90) ?_
                        refine wsq_load rfl rfl rfl rfl T23 rfl i0_86 hc90 (Ext.refl _) (fun v91 i91 => ?_)
                        refine wsq rfl rfl rfl (q_str rfl T22 rfl rfl rfl i91) ?_
                        refine wsa rfl rfl rfl (q_move (v := v74) rfl s9_86) ?_
                        refine wsa rfl rfl rfl (q_move (v := (i64 s85)) rfl rfl) ?_
                        obtain ⟨c92, hc92, H85⟩ := Option.bind_eq_some_iff.1 H85
                        refine wsa rfl rfl rfl (q_adr rfl T23 rfl rfl i1_86 hc92) ?_
                        refine wsq_load rfl rfl rfl rfl T23 rfl i1_86 hc92 (Ext.refl _) (fun v93 i93 => ?_)
                        refine wsq rfl rfl rfl (q_str rfl T22 rfl rfl rfl i93) ?_
                        refine wsa rfl rfl rfl (q_neS rfl rfl rfl) ?_
                        refine ws_nil ?_
                        refine W_th ?_
                        refine W_cond _ rfl rfl (fun hb94 => ?_) (fun hb94 => ?_)
                        · replace H85 := (if_neg (ndec_t hb94)).symm.trans H85
                          refine W_seq ?_
                          refine W_reg (by kernel_rfl) ?_
                          refine wla rfl rfl (q_assign (v := (.bool false)) rfl rfl) ?_
                          refine wl_nil ?_
                          refine W_th ?_
                          refine W_ret ?_
                          refine bk_r ?_
                          refine th_r ?_
                          obtain rfl := Option.some.inj H85
                          obtain rfl := hr85 _ rfl
                          simp only [Sum.elim_inr] at H
                          refine th_r ?_
                          refine bk_r ?_
                          refine th_r ?_
                          refine th_r ?_
                          obtain rfl := Option.some.inj H
                          refine rt1 (.bool false) rfl rfl rfl s145_86 ?_
                          exact ⟨rfl, e89⟩
                        · replace H85 := (if_pos (ndec_f hb94)).symm.trans H85
                          refine W_skip ?_
                          refine bk_n ?_
                          refine W_th ?_
                          refine W_reg (by kernel_rfl) ?_
                          refine wla rfl rfl (q_addI rfl s81_86 rfl) ?_
                          refine wla rfl rfl (q_move (v := (i64 ((wI (s85 + 1))))) rfl rfl) ?_
                          refine wl_nil ?_
                          obtain rfl := Option.some.inj H85
                          exact ⟨_, rfl, s0_86, s1_86, s2_86, s7_86, s9_86, s80_86, rfl, s145_86, e89, i0_86, i1_86⟩
                      · replace H85 := (if_neg (of_decide_eq_false hb87)).symm.trans H85
                        refine W_exit ?_
                        refine th_x ?_
                        obtain rfl := Option.some.inj H85
                        obtain rfl := hr85 _ rfl
                        refine th_x ?_
                        refine bk_x ?_
                        exact ⟨_, rfl, s0_86, s1_86, s2_86, s7_86, s9_86, s145_86, hE86, i0_86, i1_86⟩
                  · rintro _ w96 ⟨y85, rfl, s0_96, s1_96, s2_96, s7_96, s9_96, s145_96, hE96, i0_96, i1_96⟩
                    simp only [Sum.elim_inl] at H
                    refine W_th ?_
                    refine W_seq ?_
                    refine W_reg (by kernel_rfl) ?_
                    refine wla rfl rfl (q_move (v := v62_0) rfl s7_96) ?_
                    refine wla rfl rfl (q_move (v := p0) rfl s0_96) ?_
                    refine wla rfl rfl (q_len rfl T22.sl rfl (hp0.lift (Lift.ext hE96 _))) ?_
                    obtain ⟨r97, hr97, H⟩ := Option.bind_eq_some_iff.1 H
                    refine wls rfl rfl (stp_call (vs := [v62_0, (i64 ((a0b.length : Int)))]) Try.func40 rfl rfl rfl (ar2 rfl rfl) (code_Glue_calls r62.1 (a0b.length : Int) v62_0 r97 _ (i0_96.lift (Lift.sub (fun _ _ => trivial))) hr97) ?_)
                    rintro _ w97 ⟨v97_0, rfl, x97, n97_0, o97_0⟩
                    refine ⟨_, rfl, ?_⟩
                    have i97_0 : By w97 [] v97_0 r97.1 := SlK.avail o97_0 _ (fun k hk => (Old.nil _) k (n97_0 k hk))
                    replace i0_96 := i0_96.lift (Lift.ext x97 _)
                    replace i1_96 := i1_96.lift (Lift.ext x97 _)
                    have e98 := hE96.trans x97
                    refine wla rfl rfl (q_move (v := (.tuple #[v97_0, (i64 r97.2)])) rfl rfl) ?_
                    refine wla rfl rfl (q_extract rfl rfl rfl) ?_
                    refine wla rfl rfl (q_extract rfl rfl rfl) ?_
                    refine wla rfl rfl (q_assign (v := v97_0) rfl rfl) ?_
                    refine wla rfl rfl (q_assign (v := (i64 r97.2)) rfl rfl) ?_
                    refine wl_nil ?_
                    refine W_th ?_
                    refine W_seq ?_
                    refine W_reg (by kernel_rfl) ?_
                    refine wla rfl rfl (q_move (v := v62_0) rfl s7_96) ?_
                    refine wla rfl rfl (q_move (v := (i64 a2size)) rfl s2_96) ?_
                    obtain ⟨r99, hr99, H⟩ := Option.bind_eq_some_iff.1 H
                    refine wls rfl rfl (stp_call (vs := [v62_0, (i64 a2size)]) Try.func40 rfl rfl rfl (ar2 rfl rfl) (code_Glue_calls r62.1 a2size v62_0 r99 _ (i0_96.lift (Lift.sub (fun _ _ => trivial))) hr99) ?_)
                    rintro _ w99 ⟨v99_0, rfl, x99, n99_0, o99_0⟩
                    refine ⟨_, rfl, ?_⟩
                    have i99_0 : By w99 [] v99_0 r99.1 := SlK.avail o99_0 _ (fun k hk => (Old.nil _) k (n99_0 k hk))
                    replace i0_96 := i0_96.lift (Lift.ext x99 _)
                    replace i1_96 := i1_96.lift (Lift.ext x99 _)
                    replace i97_0 := i97_0.lift (Lift.ext x99 _)
                    have e100 := e98.trans x99
                    refine wla rfl rfl (q_move (v := (.tuple #[v99_0, (i64 r99.2)])) rfl rfl) ?_
                    refine wla rfl rfl (q_extract rfl rfl rfl) ?_
                    refine wla rfl rfl (q_extract rfl rfl rfl) ?_
                    refine wla rfl rfl (q_assign (v := v99_0) rfl rfl) ?_
                    refine wla rfl rfl (q_assign (v := (i64 r99.2)) rfl rfl) ?_
                    refine wl_nil ?_
                    refine W_th ?_
                    refine W_seq ?_
                    refine W_seq ?_
                    refine W_reg (by kernel_rfl) ?_
                    refine wla rfl rfl (q_move (v := (i64 r97.2)) rfl rfl) ?_
                    refine wla rfl rfl (q_neI rfl rfl rfl) ?_
                    refine wlb rfl rfl (q_move (v := (.bool ((!decide (r97.2 = 0))))) rfl rfl) (fun hb101 => ?_) (fun hb101 => ?_)
                    · replace H := (if_neg (ndec_t hb101)).symm.trans H
                      refine wlk rfl rfl ?_
                      refine wlk rfl rfl ?_
                      refine wlk rfl rfl ?_
                      refine wlk rfl rfl ?_
                      refine wlk rfl rfl ?_
                      refine wla rfl rfl (q_pick_t (v := (.bool true)) rfl rfl rfl) ?_
                      refine wl_nil ?_
                      refine W_th ?_
                      refine W_cond true rfl rfl (fun _ => ?_) (fun hb => by cases hb)
                      refine W_seq ?_
                      refine W_reg (by kernel_rfl) ?_
                      refine wla rfl rfl (q_assign (v := (.bool false)) rfl rfl) ?_
                      refine wl_nil ?_
                      refine W_th ?_
                      refine W_ret ?_
                      refine th_r ?_
                      obtain rfl := Option.some.inj H
                      refine rt1 (.bool false) rfl rfl rfl s145_96 ?_
                      exact ⟨rfl, e100⟩
                    · replace H := (if_pos (ndec_f hb101)).symm.trans H
                      refine wla rfl rfl (q_move (v := v97_0) rfl rfl) ?_
                      refine wlq rfl rfl (q_str rfl T22 rfl rfl rfl i97_0) ?_
                      refine wla rfl rfl (q_move (v := p0) rfl s0_96) ?_
                      refine wlq rfl rfl (q_str rfl T22 rfl rfl rfl (hp0.lift (Lift.ext e100 _))) ?_
                      refine wla rfl rfl (q_neS rfl rfl rfl) ?_
                      refine wla rfl rfl (q_pick_f (v := (.bool ((!decide (r97.1 = a0b))))) rfl rfl rfl) ?_
                      refine wl_nil ?_
                      refine W_th ?_
                      refine W_cond _ rfl rfl (fun hb102 => ?_) (fun hb102 => ?_)
                      · replace H := (if_neg (ndec_t hb102)).symm.trans H
                        refine W_seq ?_
                        refine W_reg (by kernel_rfl) ?_
                        refine wla rfl rfl (q_assign (v := (.bool false)) rfl rfl) ?_
                        refine wl_nil ?_
                        refine W_th ?_
                        refine W_ret ?_
                        refine th_r ?_
                        obtain rfl := Option.some.inj H
                        refine rt1 (.bool false) rfl rfl rfl s145_96 ?_
                        exact ⟨rfl, e100⟩
                      · replace H := (if_pos (ndec_f hb102)).symm.trans H
                        refine W_skip ?_
                        refine W_th ?_
                        refine W_seq ?_
                        refine W_seq ?_
                        refine W_reg (by kernel_rfl) ?_
                        refine wla rfl rfl (q_move (v := (i64 a2size)) rfl s2_96) ?_
                        refine wla rfl rfl (q_ltI rfl rfl rfl) ?_
                        refine wlb rfl rfl (q_move (v := (.bool ((decide (a2size < 0))))) rfl rfl) (fun hb103 => ?_) (fun hb103 => ?_)
                        · replace H := (if_pos (of_decide_eq_true hb103)).symm.trans H
                          refine wlk rfl rfl ?_
                          refine wlk rfl rfl ?_
                          refine wlk rfl rfl ?_
                          refine wlk rfl rfl ?_
                          refine wlk rfl rfl ?_
                          refine wlk rfl rfl ?_
                          refine wlk rfl rfl ?_
                          refine wlk rfl rfl ?_
                          refine wla rfl rfl (q_pick_t (v := (.bool true)) rfl rfl rfl) ?_
                          refine wl_nil ?_
                          refine W_th ?_
                          refine W_cond true rfl rfl (fun _ => ?_) (fun hb => by cases hb)
                          refine W_seq ?_
                          refine W_reg (by kernel_rfl) ?_
                          refine wla rfl rfl (q_move (v := (i64 r99.2)) rfl rfl) ?_
                          refine wla rfl rfl (q_eqI rfl rfl rfl) ?_
                          refine wlb rfl rfl (q_move (v := (.bool ((decide (r99.2 = 2))))) rfl rfl) (fun hb104 => ?_) (fun hb104 => ?_)
                          · replace H := (if_pos (of_decide_eq_true hb104)).symm.trans H
                            refine wla rfl rfl (q_move (v := v99_0) rfl rfl) ?_
                            refine wla rfl rfl (q_len rfl T22.sl rfl i99_0) ?_
                            refine wla rfl rfl (q_eqI rfl rfl rfl) ?_
                            refine wla rfl rfl (q_pick_t (v := (.bool ((decide ((r99.1.length : Int) = 0))))) rfl rfl rfl) ?_
                            refine wla rfl rfl (q_assign (v := (.bool ((decide ((r99.1.length : Int) = 0))))) rfl rfl) ?_
                            refine wl_nil ?_
                            refine W_th ?_
                            refine W_ret ?_
                            refine th_r ?_
                            obtain rfl := Option.some.inj H
                            refine rt1 (.bool ((decide ((r99.1.length : Int) = 0)))) rfl rfl rfl s145_96 ?_
                            exact ⟨rfl, e100⟩
                          · replace H := (if_neg (of_decide_eq_false hb104)).symm.trans H
                            refine wlk rfl rfl ?_
                            refine wlk rfl rfl ?_
                            refine wlk rfl rfl ?_
                            refine wla rfl rfl (q_pick_f (v := (.bool false)) rfl rfl rfl) ?_
                            refine wla rfl rfl (q_assign (v := (.bool false)) rfl rfl) ?_
                            refine wl_nil ?_
                            refine W_th ?_
                            refine W_ret ?_
                            refine th_r ?_
                            obtain rfl := Option.some.inj H
                            refine rt1 (.bool false) rfl rfl rfl s145_96 ?_
                            exact ⟨rfl, e100⟩
                        · replace H := (if_neg (of_decide_eq_false hb103)).symm.trans H
                          refine wla rfl rfl (q_move (v := (i64 a2size)) rfl s2_96) ?_
                          refine wla rfl rfl (q_move (v := (i64 a1t)) rfl s1_96) ?_
                          refine wla rfl rfl (q_move (v := v74) rfl s9_96) ?_
                          obtain ⟨c105, hc105, H⟩ := Option.bind_eq_some_iff.1 H
                          refine wla rfl rfl (q_adr rfl T23 rfl rfl i1_96 hc105) ?_
                          refine wlq_load rfl rfl rfl T23 rfl i1_96 hc105 (Ext.refl _) (fun v106 i106 => ?_)
                          refine wla rfl rfl (q_len rfl T22.sl rfl i106) ?_
                          refine wla rfl rfl (q_mulI rfl rfl rfl) ?_
                          refine wla rfl rfl (q_gtI rfl rfl rfl) ?_
                          refine wla rfl rfl (q_pick_f (v := (.bool ((decide ((wI (a1t * (c105.length : Int))) < a2size))))) rfl rfl rfl) ?_
                          refine wl_nil ?_
                          refine W_th ?_
                          refine W_cond _ rfl rfl (fun hb107 => ?_) (fun hb107 => ?_)
                          · replace H := (if_pos (of_decide_eq_true hb107)).symm.trans H
                            refine W_seq ?_
                            refine W_reg (by kernel_rfl) ?_
                            refine wla rfl rfl (q_move (v := (i64 r99.2)) rfl rfl) ?_
                            refine wla rfl rfl (q_eqI rfl rfl rfl) ?_
                            refine wlb rfl rfl (q_move (v := (.bool ((decide (r99.2 = 2))))) rfl rfl) (fun hb108 => ?_) (fun hb108 => ?_)
                            · replace H := (if_pos (of_decide_eq_true hb108)).symm.trans H
                              refine wla rfl rfl (q_move (v := v99_0) rfl rfl) ?_
                              refine wla rfl rfl (q_len rfl T22.sl rfl i99_0) ?_
                              refine wla rfl rfl (q_eqI rfl rfl rfl) ?_
                              refine wla rfl rfl (q_pick_t (v := (.bool ((decide ((r99.1.length : Int) = 0))))) rfl rfl rfl) ?_
                              refine wla rfl rfl (q_assign (v := (.bool ((decide ((r99.1.length : Int) = 0))))) rfl rfl) ?_
                              refine wl_nil ?_
                              refine W_th ?_
                              refine W_ret ?_
                              refine th_r ?_
                              obtain rfl := Option.some.inj H
                              refine rt1 (.bool ((decide ((r99.1.length : Int) = 0)))) rfl rfl rfl s145_96 ?_
                              exact ⟨rfl, e100⟩
                            · replace H := (if_neg (of_decide_eq_false hb108)).symm.trans H
                              refine wlk rfl rfl ?_
                              refine wlk rfl rfl ?_
                              refine wlk rfl rfl ?_
                              refine wla rfl rfl (q_pick_f (v := (.bool false)) rfl rfl rfl) ?_
                              refine wla rfl rfl (q_assign (v := (.bool false)) rfl rfl) ?_
                              refine wl_nil ?_
                              refine W_th ?_
                              refine W_ret ?_
                              refine th_r ?_
                              obtain rfl := Option.some.inj H
                              refine rt1 (.bool false) rfl rfl rfl s145_96 ?_
                              exact ⟨rfl, e100⟩
                          · replace H := (if_neg (of_decide_eq_false hb107)).symm.trans H
                            refine W_skip ?_
                            refine W_th ?_
                            refine W_seq ?_
                            refine W_reg (by kernel_rfl) ?_
                            refine wla rfl rfl (q_move (v := (i64 r99.2)) rfl rfl) ?_
                            refine wla rfl rfl (q_eqI rfl rfl rfl) ?_
                            refine wlb rfl rfl (q_move (v := (.bool ((decide (r99.2 = 0))))) rfl rfl) (fun hb109 => ?_) (fun hb109 => ?_)
                            · replace H := (if_pos (of_decide_eq_true hb109)).symm.trans H
                              refine wla rfl rfl (q_move (v := v99_0) rfl rfl) ?_
                              refine wla rfl rfl (q_len rfl T22.sl rfl i99_0) ?_
                              refine wla rfl rfl (q_move (v := (i64 a2size)) rfl s2_96) ?_
                              refine wla rfl rfl (q_eqI rfl rfl rfl) ?_
                              refine wla rfl rfl (q_pick_t (v := (.bool ((decide ((r99.1.length : Int) = a2size))))) rfl rfl rfl) ?_
                              refine wla rfl rfl (q_assign (v := (.bool ((decide ((r99.1.length : Int) = a2size))))) rfl rfl) ?_
                              refine wl_nil ?_
                              refine W_th ?_
                              refine W_ret ?_
                              obtain rfl := Option.some.inj H
                              refine rt1 (.bool ((decide ((r99.1.length : Int) = a2size)))) rfl rfl rfl s145_96 ?_
                              exact ⟨rfl, e100⟩
                            · replace H := (if_neg (of_decide_eq_false hb109)).symm.trans H
                              refine wlk rfl rfl ?_
                              refine wlk rfl rfl ?_
                              refine wlk rfl rfl ?_
                              refine wlk rfl rfl ?_
                              refine wla rfl rfl (q_pick_f (v := (.bool false)) rfl rfl rfl) ?_
                              refine wla rfl rfl (q_assign (v := (.bool false)) rfl rfl) ?_
                              refine wl_nil ?_
                              refine W_th ?_
                              refine W_ret ?_
                              obtain rfl := Option.some.inj H
                              refine rt1 (.bool false) rfl rfl rfl s145_96 ?_
                              exact ⟨rfl, e100⟩

end Gk

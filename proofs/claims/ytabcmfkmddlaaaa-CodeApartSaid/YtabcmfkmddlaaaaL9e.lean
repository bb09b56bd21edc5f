/- Printed by gen.py: for each Go function a pure function, and that the Go code comes to it. No condition beside the equation that says what the pure function gives. -/
import Derived.Test.YtabcmfkmddlaaaaL9a
set_option linter.unusedVariables false
set_option linter.unusedSimpArgs false
namespace Gk
open Go Go.Proofs

/-! largesse/largesselaw09.CodeApart -/
noncomputable def law09_CodeApart (a0parts : List (List UInt8)) (a1where : List UInt8) (a2by : List UInt8) (a3more : Int) : Option Bool :=
((law09_lives ).bind fun r1 =>
(if (!r1) = true then
((law09_lives ).bind fun r4 => some r4)
else
((law09_few a0parts).bind fun r6 =>
(if (!r6) = true then
((law09_lives ).bind fun r9 => some r9)
else
(if (a0parts.length : Int) = 0 then
((law09_lives ).bind fun r12 => some r12)
else
(if 8 < (a0parts.length : Int) then
((law09_lives ).bind fun r15 => some r15)
else
((law09_unlike a0parts).bind fun r17 =>
(if r17 = true then
((law09_lives ).bind fun r20 => some r20)
else
(if 40 < (a1where.length : Int) then
((law09_lives ).bind fun r23 => some r23)
else
((idx a0parts 0).bind fun c27 =>
((iterC (fun s30 : List (List UInt8) × Int =>
(if s30.2 < (a0parts.length : Int) then
((idx a0parts s30.2).bind fun c33 =>
((appL (([] : List UInt8)) c33).bind fun c39 =>
((appL s30.1 [c39]).bind fun c46 => some (.inl (c46, (wI (s30.2 + 1)))))))
else some (.inr s30.1))) (([] : List (List UInt8)), 0)).bind fun x30 =>
((iterC (fun s53 : List (List UInt8) × Int =>
(if s53.2 < (a1where.length : Int) then
((idx a1where s53.2).bind fun c56 =>
(if s53.2 < (a2by.length : Int) then
(if 0 < (c27.length : Int) then
((remI ((c56.toNat : Int)) ((a0parts.length : Int))).bind fun c61 =>
((idx s53.1 c61).bind fun c62 =>
((divI ((c56.toNat : Int)) ((a0parts.length : Int))).bind fun c64 =>
((remI c64 ((c27.length : Int))).bind fun c65 =>
((idx c62 c65).bind fun c66 =>
((idx a2by s53.2).bind fun c67 => some (.inl ((s53.1.set (c61 : Int).toNat (c62.set (c65 : Int).toNat ((c66 ^^^ c67)))), (wI (s53.2 + 1))))))))))
else some (.inl (s53.1, (wI (s53.2 + 1)))))
else some (.inl (s53.1, (wI (s53.2 + 1))))))
else some (.inr s53.1))) (x30, 0)).bind fun x53 =>
((field_New ).bind fun r72 =>
((code_Encode r72 (wI ((a0parts.length : Int) + (wI ((((UInt64.ofInt a3more) % (5 : UInt64))).toNat : Int)))) a0parts).bind fun r74 =>
((code_Encode r72 (wI ((a0parts.length : Int) + (wI ((((UInt64.ofInt a3more) % (5 : UInt64))).toNat : Int)))) x53).bind fun r76 =>
(if r74.2 = 0 then
(if r76.2 = 0 then
((iterC (fun s80 : Int =>
(if s80 < (c27.length : Int) then
((iterC (fun s83 : Bool × Int =>
(if s83.2 < (a0parts.length : Int) then
(if s83.1 = true then some (.inl (true, (wI (s83.2 + 1))))
else
((idx a0parts s83.2).bind fun c89 =>
((idx c89 s80).bind fun c91 =>
((idx x53 s83.2).bind fun c92 =>
((idx c92 s80).bind fun c94 => some (.inl ((!decide (c91 = c94)), (wI (s83.2 + 1)))))))))
else some (.inr s83.1))) (false, 0)).bind fun x83 =>
((iterC (fun s97 : Int × Int =>
(if s97.2 < (r74.1.length : Int) then
((idx r74.1 s97.2).bind fun c102 =>
((idx c102 s80).bind fun c104 =>
((idx r76.1 s97.2).bind fun c105 =>
((idx c105 s80).bind fun c107 =>
(if c104 = c107 then some (.inl ((wI (s97.1 + 1)), (wI (s97.2 + 1))))
else some (.inl (s97.1, (wI (s97.2 + 1)))))))))
else some (.inr s97.1))) (0, 0)).bind fun x97 =>
(if x83 = true then
(if (a0parts.length : Int) ≤ x97 then some (.inr (.inr false))
else
(if (!x83) = true then
(if x97 = (wI ((a0parts.length : Int) + (wI ((((UInt64.ofInt a3more) % (5 : UInt64))).toNat : Int)))) then some (.inl (wI (s80 + 1)))
else some (.inr (.inr false)))
else some (.inl (wI (s80 + 1)))))
else
(if (!x83) = true then
(if x97 = (wI ((a0parts.length : Int) + (wI ((((UInt64.ofInt a3more) % (5 : UInt64))).toNat : Int)))) then some (.inl (wI (s80 + 1)))
else some (.inr (.inr false)))
else some (.inl (wI (s80 + 1)))))))
else some (.inr (.inl ())))) 0).bind (Sum.elim (fun y80 => some true) (fun q80 => some q80)))
else some false)
else some false))))))))))))))))
set_option maxRecDepth 100000 in
set_option maxHeartbeats 8000000 in
theorem law09_CodeApart_calls (a0parts : List (List UInt8)) (a1where : List UInt8) (a2by : List UInt8) (a3more : Int) (p0 : Value) (p1 : Value) (p2 : Value) (r : Bool) (w0 : World) (hp0 : Rw w0 [] p0 a0parts) (hp1 : By w0 [] p1 a1where) (hp2 : By w0 [] p2 a2by) (H : law09_CodeApart a0parts a1where a2by a3more = some r) :
    Calls Try.prog 8 [p0, p1, p2, (i64 a3more)].toArray w0 (fun e w' => e = .returned (.bool r) ∧ Ext w0 w') := by
  have hE : Ext w0 w0 := Ext.refl w0
  unfold law09_CodeApart at H
  refine calls_W (n := 204) Try.func8 rfl rfl rfl ?_
  refine W_seq ?_
  refine W_reg (by kernel_rfl) ?_
  refine wla rfl rfl (q_assign (v := (.bool false)) rfl rfl) ?_
  refine wl_nil ?_
  refine W_th ?_
  refine W_seq ?_
  refine W_seq ?_
  refine W_reg (by kernel_rfl) ?_
  obtain ⟨r1, hr1, H⟩ := Option.bind_eq_some_iff.1 H
  refine wls rfl rfl (stp_call (vs := []) Try.func30 rfl rfl rfl (ar0 ) (law09_lives_calls   r1 _  hr1) ?_)
  rintro _ w1 ⟨rfl, x1⟩
  refine ⟨_, rfl, ?_⟩
  have e2 := hE.trans x1
  refine wla rfl rfl (q_not rfl rfl) ?_
  refine wlb rfl rfl (q_move (v := (.bool ((!r1)))) rfl rfl) (fun hb3 => ?_) (fun hb3 => ?_)
  · replace H := (if_pos hb3).symm.trans H
    refine wlk rfl rfl ?_
    refine wlk rfl rfl ?_
    refine wlk rfl rfl ?_
    refine wla rfl rfl (q_pick_t (v := (.bool true)) rfl rfl rfl) ?_
    refine wla rfl rfl (q_move (v := (.bool true)) rfl rfl) ?_
    refine wlk rfl rfl ?_
    refine wlk rfl rfl ?_
    refine wlk rfl rfl ?_
    refine wla rfl rfl (q_pick_t (v := (.bool true)) rfl rfl rfl) ?_
    refine wla rfl rfl (q_move (v := (.bool true)) rfl rfl) ?_
    refine wlk rfl rfl ?_
    refine wlk rfl rfl ?_
    refine wlk rfl rfl ?_
    refine wla rfl rfl (q_pick_t (v := (.bool true)) rfl rfl rfl) ?_
    refine wla rfl rfl (q_move (v := (.bool true)) rfl rfl) ?_
    refine wlk rfl rfl ?_
    refine wlk rfl rfl ?_
    refine wla rfl rfl (q_pick_t (v := (.bool true)) rfl rfl rfl) ?_
    refine wla rfl rfl (q_move (v := (.bool true)) rfl rfl) ?_
    refine wlk rfl rfl ?_
    refine wlk rfl rfl ?_
    refine wlk rfl rfl ?_
    refine wla rfl rfl (q_pick_t (v := (.bool true)) rfl rfl rfl) ?_
    refine wl_nil ?_
    refine W_th ?_
    refine W_cond true rfl rfl (fun _ => ?_) (fun hb => by cases hb)
    refine W_seq ?_
    refine W_reg (by kernel_rfl) ?_
    obtain ⟨r4, hr4, H⟩ := Option.bind_eq_some_iff.1 H
    refine wls rfl rfl (stp_call (vs := []) Try.func30 rfl rfl rfl (ar0 ) (law09_lives_calls   r4 _  hr4) ?_)
    rintro _ w4 ⟨rfl, x4⟩
    refine ⟨_, rfl, ?_⟩
    have e5 := e2.trans x4
    refine wla rfl rfl (q_assign (v := (.bool r4)) rfl rfl) ?_
    refine wl_nil ?_
    refine W_th ?_
    refine W_ret ?_
    refine th_r ?_
    obtain rfl := Option.some.inj H
    refine rt1 (.bool r4) rfl rfl rfl rfl ?_
    exact ⟨rfl, e5⟩
  · replace H := (if_neg (ne_true_of_eq_false hb3)).symm.trans H
    refine wla rfl rfl (q_move (v := p0) rfl rfl) ?_
    obtain ⟨r6, hr6, H⟩ := Option.bind_eq_some_iff.1 H
    refine wls rfl rfl (stp_call (vs := [p0]) Try.func31 rfl rfl rfl (ar1 rfl) (law09_few_calls a0parts p0 r6 _ (hp0.lift (Lift.ext e2 _)) hr6) ?_)
    rintro _ w6 ⟨rfl, x6⟩
    refine ⟨_, rfl, ?_⟩
    have e7 := e2.trans x6
    refine wla rfl rfl (q_not rfl rfl) ?_
    refine wla rfl rfl (q_pick_f (v := (.bool ((!r6)))) rfl rfl rfl) ?_
    refine wlb rfl rfl (q_move (v := (.bool ((!r6)))) rfl rfl) (fun hb8 => ?_) (fun hb8 => ?_)
    · replace H := (if_pos hb8).symm.trans H
      refine wlk rfl rfl ?_
      refine wlk rfl rfl ?_
      refine wlk rfl rfl ?_
      refine wla rfl rfl (q_pick_t (v := (.bool true)) rfl rfl rfl) ?_
      refine wla rfl rfl (q_move (v := (.bool true)) rfl rfl) ?_
      refine wlk rfl rfl ?_
      refine wlk rfl rfl ?_
      refine wlk rfl rfl ?_
      refine wla rfl rfl (q_pick_t (v := (.bool true)) rfl rfl rfl) ?_
      refine wla rfl rfl (q_move (v := (.bool true)) rfl rfl) ?_
      refine wlk rfl rfl ?_
      refine wlk rfl rfl ?_
      refine wla rfl rfl (q_pick_t (v := (.bool true)) rfl rfl rfl) ?_
      refine wla rfl rfl (q_move (v := (.bool true)) rfl rfl) ?_
      refine wlk rfl rfl ?_
      refine wlk rfl rfl ?_
      refine wlk rfl rfl ?_
      refine wla rfl rfl (q_pick_t (v := (.bool true)) rfl rfl rfl) ?_
      refine wl_nil ?_
      refine W_th ?_
      refine W_cond true rfl rfl (fun _ => ?_) (fun hb => by cases hb)
      refine W_seq ?_
      refine W_reg (by kernel_rfl) ?_
      obtain ⟨r9, hr9, H⟩ := Option.bind_eq_some_iff.1 H
      refine wls rfl rfl (stp_call (vs := []) Try.func30 rfl rfl rfl (ar0 ) (law09_lives_calls   r9 _  hr9) ?_)
      rintro _ w9 ⟨rfl, x9⟩
      refine ⟨_, rfl, ?_⟩
      have e10 := e7.trans x9
      refine wla rfl rfl (q_assign (v := (.bool r9)) rfl rfl) ?_
      refine wl_nil ?_
      refine W_th ?_
      refine W_ret ?_
      refine th_r ?_
      obtain rfl := Option.some.inj H
      refine rt1 (.bool r9) rfl rfl rfl rfl ?_
      exact ⟨rfl, e10⟩
    · replace H := (if_neg (ne_true_of_eq_false hb8)).symm.trans H
      refine wla rfl rfl (q_move (v := p0) rfl rfl) ?_
      refine wla rfl rfl (q_len rfl T23.sl rfl (hp0.lift (Lift.ext e7 _))) ?_
      refine wla rfl rfl (q_eqI rfl rfl rfl) ?_
      refine wla rfl rfl (q_pick_f (v := (.bool ((decide ((a0parts.length : Int) = 0))))) rfl rfl rfl) ?_
      refine wlb rfl rfl (q_move (v := (.bool ((decide ((a0parts.length : Int) = 0))))) rfl rfl) (fun hb11 => ?_) (fun hb11 => ?_)
      · replace H := (if_pos (of_decide_eq_true hb11)).symm.trans H
        refine wlk rfl rfl ?_
        refine wlk rfl rfl ?_
        refine wlk rfl rfl ?_
        refine wla rfl rfl (q_pick_t (v := (.bool true)) rfl rfl rfl) ?_
        refine wla rfl rfl (q_move (v := (.bool true)) rfl rfl) ?_
        refine wlk rfl rfl ?_
        refine wlk rfl rfl ?_
        refine wla rfl rfl (q_pick_t (v := (.bool true)) rfl rfl rfl) ?_
        refine wla rfl rfl (q_move (v := (.bool true)) rfl rfl) ?_
        refine wlk rfl rfl ?_
        refine wlk rfl rfl ?_
        refine wlk rfl rfl ?_
        refine wla rfl rfl (q_pick_t (v := (.bool true)) rfl rfl rfl) ?_
        refine wl_nil ?_
        refine W_th ?_
        refine W_cond true rfl rfl (fun _ => ?_) (fun hb => by cases hb)
        refine W_seq ?_
        refine W_reg (by kernel_rfl) ?_
        obtain ⟨r12, hr12, H⟩ := Option.bind_eq_some_iff.1 H
        refine wls rfl rfl (stp_call (vs := []) Try.func30 rfl rfl rfl (ar0 ) (law09_lives_calls   r12 _  hr12) ?_)
        rintro _ w12 ⟨rfl, x12⟩
        refine ⟨_, rfl, ?_⟩
        have e13 := e7.trans x12
        refine wla rfl rfl (q_assign (v := (.bool r12)) rfl rfl) ?_
        refine wl_nil ?_
        refine W_th ?_
        refine W_ret ?_
        refine th_r ?_
        obtain rfl := Option.some.inj H
        refine rt1 (.bool r12) rfl rfl rfl rfl ?_
        exact ⟨rfl, e13⟩
      · replace H := (if_neg (of_decide_eq_false hb11)).symm.trans H
        refine wla rfl rfl (q_move (v := p0) rfl rfl) ?_
        refine wla rfl rfl (q_len rfl T23.sl rfl (hp0.lift (Lift.ext e7 _))) ?_
        refine wla rfl rfl (q_gtI rfl rfl rfl) ?_
        refine wla rfl rfl (q_pick_f (v := (.bool ((decide (8 < (a0parts.length : Int)))))) rfl rfl rfl) ?_
        refine wlb rfl rfl (q_move (v := (.bool ((decide (8 < (a0parts.length : Int)))))) rfl rfl) (fun hb14 => ?_) (fun hb14 => ?_)
        · replace H := (if_pos (of_decide_eq_true hb14)).symm.trans H
          refine wlk rfl rfl ?_
          refine wlk rfl rfl ?_
          refine wla rfl rfl (q_pick_t (v := (.bool true)) rfl rfl rfl) ?_
          refine wla rfl rfl (q_move (v := (.bool true)) rfl rfl) ?_
          refine wlk rfl rfl ?_
          refine wlk rfl rfl ?_
          refine wlk rfl rfl ?_
          refine wla rfl rfl (q_pick_t (v := (.bool true)) rfl rfl rfl) ?_
          refine wl_nil ?_
          refine W_th ?_
          refine W_cond true rfl rfl (fun _ => ?_) (fun hb => by cases hb)
          refine W_seq ?_
          refine W_reg (by kernel_rfl) ?_
          obtain ⟨r15, hr15, H⟩ := Option.bind_eq_some_iff.1 H
          refine wls rfl rfl (stp_call (vs := []) Try.func30 rfl rfl rfl (ar0 ) (law09_lives_calls   r15 _  hr15) ?_)
          rintro _ w15 ⟨rfl, x15⟩
          refine ⟨_, rfl, ?_⟩
          have e16 := e7.trans x15
          refine wla rfl rfl (q_assign (v := (.bool r15)) rfl rfl) ?_
          refine wl_nil ?_
          refine W_th ?_
          refine W_ret ?_
          refine th_r ?_
          obtain rfl := Option.some.inj H
          refine rt1 (.bool r15) rfl rfl rfl rfl ?_
          exact ⟨rfl, e16⟩
        · replace H := (if_neg (of_decide_eq_false hb14)).symm.trans H
          refine wla rfl rfl (q_move (v := p0) rfl rfl) ?_
          obtain ⟨r17, hr17, H⟩ := Option.bind_eq_some_iff.1 H
          refine wls rfl rfl (stp_call (vs := [p0]) Try.func32 rfl rfl rfl (ar1 rfl) (law09_unlike_calls a0parts p0 r17 _ (hp0.lift (Lift.ext e7 _)) hr17) ?_)
          rintro _ w17 ⟨rfl, x17⟩
          refine ⟨_, rfl, ?_⟩
          have e18 := e7.trans x17
          refine wla rfl rfl (q_pick_f (v := (.bool r17)) rfl rfl rfl) ?_
          refine wlb rfl rfl (q_move (v := (.bool r17)) rfl rfl) (fun hb19 => ?_) (fun hb19 => ?_)
          · replace H := (if_pos hb19).symm.trans H
            refine wlk rfl rfl ?_
            refine wlk rfl rfl ?_
            refine wlk rfl rfl ?_
            refine wla rfl rfl (q_pick_t (v := (.bool true)) rfl rfl rfl) ?_
            refine wl_nil ?_
            refine W_th ?_
            refine W_cond true rfl rfl (fun _ => ?_) (fun hb => by cases hb)
            refine W_seq ?_
            refine W_reg (by kernel_rfl) ?_
            obtain ⟨r20, hr20, H⟩ := Option.bind_eq_some_iff.1 H
            refine wls rfl rfl (stp_call (vs := []) Try.func30 rfl rfl rfl (ar0 ) (law09_lives_calls   r20 _  hr20) ?_)
            rintro _ w20 ⟨rfl, x20⟩
            refine ⟨_, rfl, ?_⟩
            have e21 := e18.trans x20
            refine wla rfl rfl (q_assign (v := (.bool r20)) rfl rfl) ?_
            refine wl_nil ?_
            refine W_th ?_
            refine W_ret ?_
            refine th_r ?_
            obtain rfl := Option.some.inj H
            refine rt1 (.bool r20) rfl rfl rfl rfl ?_
            exact ⟨rfl, e21⟩
          · replace H := (if_neg (ne_true_of_eq_false hb19)).symm.trans H
            refine wla rfl rfl (q_move (v := p1) rfl rfl) ?_
            refine wla rfl rfl (q_len rfl T22.sl rfl (hp1.lift (Lift.ext e18 _))) ?_
            refine wla rfl rfl (q_gtI rfl rfl rfl) ?_
            refine wla rfl rfl (q_pick_f (v := (.bool ((decide (40 < (a1where.length : Int)))))) rfl rfl rfl) ?_
            refine wl_nil ?_
            refine W_th ?_
            refine W_cond _ rfl rfl (fun hb22 => ?_) (fun hb22 => ?_)
            · replace H := (if_pos (of_decide_eq_true hb22)).symm.trans H
              refine W_seq ?_
              refine W_reg (by kernel_rfl) ?_
              obtain ⟨r23, hr23, H⟩ := Option.bind_eq_some_iff.1 H
              refine wls rfl rfl (stp_call (vs := []) Try.func30 rfl rfl rfl (ar0 ) (law09_lives_calls   r23 _  hr23) ?_)
              rintro _ w23 ⟨rfl, x23⟩
              refine ⟨_, rfl, ?_⟩
              have e24 := e18.trans x23
              refine wla rfl rfl (q_assign (v := (.bool r23)) rfl rfl) ?_
              refine wl_nil ?_
              refine W_th ?_
              refine W_ret ?_
              refine th_r ?_
              obtain rfl := Option.some.inj H
              refine rt1 (.bool r23) rfl rfl rfl rfl ?_
              exact ⟨rfl, e24⟩
            · replace H := (if_neg (of_decide_eq_false hb22)).symm.trans H
              refine W_skip ?_
              refine W_th ?_
              refine W_seq ?_
              refine W_draw [4] [(0, 0), (1, 0), (2, 0), (3, 0), (4, 1), (5, 0), (6, 0), (7, 0)] mixed (by kernel_rfl) (by kernel_rfl) (by kernel_rfl) (by kernel_rfl) ?_
              have x25 := Ext.drew w17
              have e26 := e18.trans x25
              refine wsa rfl rfl rfl (q_move (v := p0) rfl rfl) ?_
              refine wsa rfl rfl rfl (q_len rfl T23.sl rfl (hp0.lift (Lift.ext e26 _))) ?_
              refine wsa rfl rfl rfl (q_move (v := p0) rfl rfl) ?_
              obtain ⟨c27, hc27, H⟩ := Option.bind_eq_some_iff.1 H
              refine wsa rfl rfl rfl (q_adr rfl T23 rfl rfl (hp0.lift (Lift.ext e26 _)) hc27) ?_
              refine wsq_load rfl rfl rfl rfl T23 rfl hp0 hc27 e26 (fun v28 ha28 => ?_)
              refine wsa rfl rfl rfl (q_len rfl T22.sl rfl (ha28.lift (Lift.ext e26 _))) ?_
              refine wsa rfl rfl rfl (q_assign (v := (i64 ((a0parts.length : Int)))) rfl rfl) ?_
              refine wsa rfl rfl rfl (q_assign (v := (i64 ((c27.length : Int)))) rfl rfl) ?_
              refine ws_nil ?_
              refine W_th ?_
              refine W_seq ?_
              refine W_reg (by kernel_rfl) ?_
              refine wla rfl rfl (q_move (v := (i64 ((a0parts.length : Int)))) rfl rfl) ?_
              refine wla rfl rfl (q_move (v := (i64 a3more)) rfl rfl) ?_
              refine wla rfl rfl (q_cvt64I rfl rfl rfl rfl) ?_
              refine wla rfl rfl (q_rem64 rfl rfl (cst64 (5 : UInt64) rfl) (by decide)) ?_
              refine wla rfl rfl (q_cvtI64 rfl rfl rfl rfl) ?_
              refine wla rfl rfl (q_addI rfl rfl rfl) ?_
              refine wla rfl rfl (q_assign (v := (i64 ((wI ((a0parts.length : Int) + (wI ((((UInt64.ofInt a3more) % (5 : UInt64))).toNat : Int))))))) rfl rfl) ?_
              refine wl_nil ?_
              refine W_th ?_
              refine W_seq ?_
              refine W_reg (by kernel_rfl) ?_
              refine wla rfl rfl (q_assign (v := (.slice none 0 0)) rfl rfl) ?_
              have oG29 : OwD (World.drew w17) 22 5 (.tuple #[.slice none 0 0]) (.slice none 0 0) [] := OwD.nil _ _ _
              have nG29 : Nw w0 (.tuple #[.slice none 0 0]) := nw_nilG _
              refine wl_nil ?_
              refine W_th ?_
              refine W_seq ?_
              refine W_seq ?_
              refine W_reg (by kernel_rfl) ?_
              refine wla rfl rfl (q_move (v := p0) rfl rfl) ?_
              refine wla rfl rfl (q_len rfl T23.sl rfl (hp0.lift (Lift.ext e26 _))) ?_
              refine wla rfl rfl (q_move (v := (i64 0)) rfl rfl) ?_
              refine wl_nil ?_
              refine W_th ?_
              obtain ⟨x30, G30, H⟩ := Option.bind_eq_some_iff.1 H
              refine W_mid (fun f w => ∃ v12_123 : Value, ∃ G12_123 : Value, f 0 = p0 ∧ f 1 = p1 ∧ f 2 = p2 ∧ f 9 = (i64 ((a0parts.length : Int))) ∧ f 10 = (i64 ((c27.length : Int))) ∧ f 11 = (i64 ((wI ((a0parts.length : Int) + (wI ((((UInt64.ofInt a3more) % (5 : UInt64))).toNat : Int)))))) ∧ f 12 = v12_123 ∧ f 204 = undef ∧ Ext w0 w ∧ OwD w 22 5 G12_123 v12_123 x30 ∧ Nw w0 G12_123) ?_ ?_
              · refine W_block ?_
                refine W_loop (fun s30 f w => ∃ v12_51 : Value, ∃ G12_51 : Value, f 0 = p0 ∧ f 1 = p1 ∧ f 2 = p2 ∧ f 9 = (i64 ((a0parts.length : Int))) ∧ f 10 = (i64 ((c27.length : Int))) ∧ f 11 = (i64 ((wI ((a0parts.length : Int) + (wI ((((UInt64.ofInt a3more) % (5 : UInt64))).toNat : Int)))))) ∧ f 12 = v12_51 ∧ f 66 = p0 ∧ f 67 = (i64 ((a0parts.length : Int))) ∧ f 68 = (i64 s30.2) ∧ f 204 = undef ∧ Ext w0 w ∧ OwD w 22 5 G12_51 v12_51 s30.1 ∧ Nw w0 G12_51) G30 ?_ ?_
                · exact ⟨(.slice none 0 0), (.tuple #[.slice none 0 0]), rfl, rfl, rfl, rfl, rfl, rfl, rfl, rfl, rfl, rfl, rfl, e26, oG29, nG29⟩
                · rintro s30 _ _ w31 ⟨v12_31, G12_31, s0_31, s1_31, s2_31, s9_31, s10_31, s11_31, s12_31, s66_31, s67_31, s68_31, s204_31, hE31, o0_31, n0_31⟩ H30 hr30
                  refine W_seq ?_
                  refine W_reg (by kernel_rfl) ?_
                  refine wla rfl rfl (q_ltI rfl s68_31 s67_31) ?_
                  refine wl_nil ?_
                  refine W_th ?_
                  refine W_seq ?_
                  refine W_cond _ rfl rfl (fun hb32 => ?_) (fun hb32 => ?_)
                  · replace H30 := (if_pos (of_decide_eq_true hb32)).symm.trans H30
                    refine W_skip ?_
                    refine W_th ?_
                    refine W_seq ?_
                    refine W_block ?_
                    refine W_seq ?_
                    refine W_reg (by kernel_rfl) ?_
                    obtain ⟨c33, hc33, H30⟩ := Option.bind_eq_some_iff.1 H30
                    refine wla rfl rfl (q_adr rfl T23 s66_31 s68_31 (hp0.lift (Lift.ext hE31 _)) hc33) ?_
                    refine wlq_load rfl rfl rfl T23 rfl hp0 hc33 hE31 (fun v34 ha34 => ?_)
                    refine wla rfl rfl (q_assign (v := v34) rfl rfl) ?_
                    refine wl_nil ?_
                    refine W_th ?_
                    refine W_reg (by kernel_rfl) ?_
                    refine wla rfl rfl (q_move (v := v12_31) rfl s12_31) ?_
                    refine wls rfl rfl (stp_lit (L := [G12_31]) (R := (Sc u8)) [] ([] : List UInt8) rfl T22 rfl (by exact trivial) rfl (litC u8 (oneC_u8) (us := []) (l := ([] : List UInt8)) rfl) rfl (litS u8 (us := []) (l := ([] : List UInt8)) rfl) ?_)
                    intro v35 w35 o35 n35 g35 l35
                    have x35 := grown_ext g35
                    have q36 : Nq G12_31 v35 := o0_31.nq n35
                    replace o0_31 := o0_31.ext x35
                    have n38 := Nw.ext hE31 n35
                    have e37 := hE31.trans x35
                    refine wla rfl rfl (q_move (v := v34) rfl rfl) ?_
                    obtain ⟨c39, hc39, H30⟩ := Option.bind_eq_some_iff.1 H30
                    refine wls rfl rfl (stp_append (R := (Sc u8)) (v := v35) (u := v34) (Sc.stab _) [] [G12_31] rfl T22 rfl rfl o35 (ha34.lift (Lift.ext e37 _)) (fun _ _ h => h) hc39 oc_u8 ?_)
                    intro v39 w39 o39 g39 nx39 l39
                    have q40 : Nq G12_31 v39 := o0_31.nxt q36 nx39
                    replace o0_31 := o0_31.other g39 q36
                    have e41 := e37.grown g39 n38
                    have n42 := Nw.nxt e37 n38 nx39
                    refine wls rfl rfl (stp_lit (L := [v39, G12_31]) (R := (Sc (fun x : Value => x))) [v39] [v39] rfl T23 rfl (by exact ⟨rfl, rfl, trivial⟩) rfl (litV o39) rfl (fun _ _ _ _ _ _ => rfl) ?_)
                    intro v43 w43 o43 n43 g43 l43
                    have x43 := grown_ext g43
                    have i43 : SlK (Sc (fun x : Value => x)) w43 [v39, G12_31] v43 [v39] := OwK.slk (Sc.stab _) _ o43 (fun k hk => (Old.cons (Old.cons (Old.nil _) o0_31.ltB) o39.lt) k (n43 k hk)) (fun _ h => h.2)
                    replace o39 := o39.extL (Sc.stab _) x43 (Lift.ext x43 _)
                    replace o0_31 := o0_31.ext x43
                    have e44 := e41.trans x43
                    obtain ⟨c46, hc46, H30⟩ := Option.bind_eq_some_iff.1 H30
                    refine wls rfl rfl (stp_appendD (x := v39) (u := v12_31) (q := v43) [v39] [] rfl T23 rfl rfl o0_31 i43 o39 q40.symm hc46 ?_)
                    intro Gm46 G46 v46 w46 o46 g46 nx46 hG46 l46
                    have q47 : Nq v39 Gm46 := o39.nxt q40.symm nx46
                    replace o39 := o39.other (Sc.stab _) g46 q40.symm l46
                    have e48 := e44.grown g46 n0_31
                    have n49 := Nw.nxt e44 n0_31 nx46
                    have n50 : Nw w0 G46 := fun k hk => (hG46 k hk).elim (n49 k) (n42 k)
                    refine wla rfl rfl (q_assign (v := v46) rfl rfl) ?_
                    refine wl_nil ?_
                    refine bk_n ?_
                    refine W_th ?_
                    refine W_reg (by kernel_rfl) ?_
                    refine wla rfl rfl (q_addI rfl s68_31 rfl) ?_
                    refine wla rfl rfl (q_move (v := (i64 ((wI (s30.2 + 1))))) rfl rfl) ?_
                    refine wl_nil ?_
                    obtain rfl := Option.some.inj H30
                    exact ⟨_, rfl, v46, G46, s0_31, s1_31, s2_31, s9_31, s10_31, s11_31, rfl, s66_31, s67_31, rfl, s204_31, e48, o46, n50⟩
                  · replace H30 := (if_neg (of_decide_eq_false hb32)).symm.trans H30
                    refine W_exit ?_
                    refine th_x ?_
                    obtain rfl := Option.some.inj H30
                    obtain rfl := hr30 _ rfl
                    refine th_x ?_
                    refine bk_x ?_
                    exact ⟨v12_31, G12_31, s0_31, s1_31, s2_31, s9_31, s10_31, s11_31, s12_31, s204_31, hE31, o0_31, n0_31⟩
              · rintro _ w52 ⟨v12_52, G12_52, s0_52, s1_52, s2_52, s9_52, s10_52, s11_52, s12_52, s204_52, hE52, o0_52, n0_52⟩
                refine W_th ?_
                refine W_seq ?_
                refine W_seq ?_
                refine W_reg (by kernel_rfl) ?_
                refine wla rfl rfl (q_move (v := p1) rfl s1_52) ?_
                refine wla rfl rfl (q_len rfl T22.sl rfl (hp1.lift (Lift.ext hE52 _))) ?_
                refine wla rfl rfl (q_move (v := (i64 0)) rfl rfl) ?_
                refine wl_nil ?_
                refine W_th ?_
                obtain ⟨x53, G53, H⟩ := Option.bind_eq_some_iff.1 H
                refine W_mid (fun f w => ∃ G12_122 : Value, f 0 = p0 ∧ f 9 = (i64 ((a0parts.length : Int))) ∧ f 10 = (i64 ((c27.length : Int))) ∧ f 11 = (i64 ((wI ((a0parts.length : Int) + (wI ((((UInt64.ofInt a3more) % (5 : UInt64))).toNat : Int)))))) ∧ f 12 = v12_52 ∧ f 204 = undef ∧ Ext w0 w ∧ OwD w 22 5 G12_122 v12_52 x53 ∧ Nw w0 G12_122) ?_ ?_
                · refine W_block ?_
                  refine W_loop (fun s53 f w => ∃ G12_70 : Value, f 0 = p0 ∧ f 2 = p2 ∧ f 9 = (i64 ((a0parts.length : Int))) ∧ f 10 = (i64 ((c27.length : Int))) ∧ f 11 = (i64 ((wI ((a0parts.length : Int) + (wI ((((UInt64.ofInt a3more) % (5 : UInt64))).toNat : Int)))))) ∧ f 12 = v12_52 ∧ f 79 = p1 ∧ f 80 = (i64 ((a1where.length : Int))) ∧ f 81 = (i64 s53.2) ∧ f 204 = undef ∧ Ext w0 w ∧ OwD w 22 5 G12_70 v12_52 s53.1 ∧ Nw w0 G12_70) G53 ?_ ?_
                  · exact ⟨G12_52, s0_52, s2_52, s9_52, s10_52, s11_52, s12_52, rfl, rfl, rfl, s204_52, hE52, o0_52, n0_52⟩
                  · rintro s53 _ _ w54 ⟨G12_54, s0_54, s2_54, s9_54, s10_54, s11_54, s12_54, s79_54, s80_54, s81_54, s204_54, hE54, o0_54, n0_54⟩ H53 hr53
                    refine W_seq ?_
                    refine W_reg (by kernel_rfl) ?_
                    refine wla rfl rfl (q_ltI rfl s81_54 s80_54) ?_
                    refine wl_nil ?_
                    refine W_th ?_
                    refine W_seq ?_
                    refine W_cond _ rfl rfl (fun hb55 => ?_) (fun hb55 => ?_)
                    · replace H53 := (if_pos (of_decide_eq_true hb55)).symm.trans H53
                      refine W_skip ?_
                      refine W_th ?_
                      refine W_seq ?_
                      refine W_block ?_
                      refine W_seq ?_
                      refine W_reg (by kernel_rfl) ?_
                      refine wla rfl rfl (q_move (v := (i64 s53.2)) rfl s81_54) ?_
                      obtain ⟨c56, hc56, H53⟩ := Option.bind_eq_some_iff.1 H53
                      refine wla rfl rfl (q_adr rfl T22 s79_54 s81_54 (hp1.lift (Lift.ext hE54 _)) hc56) ?_
                      refine wlq rfl rfl (q_loadS rfl T22 rfl (hp1.lift (Lift.ext hE54 _)) hc56) ?_
                      refine wla rfl rfl (q_assign (v := (i64 s53.2)) rfl rfl) ?_
                      refine wla rfl rfl (q_assign (v := (u8 c56)) rfl rfl) ?_
                      refine wl_nil ?_
                      refine W_th ?_
                      refine W_seq ?_
                      refine W_reg (by kernel_rfl) ?_
                      refine wla rfl rfl (q_move (v := (i64 s53.2)) rfl rfl) ?_
                      refine wla rfl rfl (q_move (v := p2) rfl s2_54) ?_
                      refine wla rfl rfl (q_len rfl T22.sl rfl (hp2.lift (Lift.ext hE54 _))) ?_
                      refine wla rfl rfl (q_ltI rfl rfl rfl) ?_
                      refine wlb rfl rfl (q_move (v := (.bool ((decide (s53.2 < (a2by.length : Int)))))) rfl rfl) (fun hb57 => ?_) (fun hb57 => ?_)
                      · replace H53 := (if_pos (of_decide_eq_true hb57)).symm.trans H53
                        refine wla rfl rfl (q_move (v := (i64 ((c27.length : Int)))) rfl s10_54) ?_
                        refine wla rfl rfl (q_gtI rfl rfl rfl) ?_
                        refine wla rfl rfl (q_pick_t (v := (.bool ((decide (0 < (c27.length : Int)))))) rfl rfl rfl) ?_
                        refine wl_nil ?_
                        refine W_th ?_
                        refine W_cond _ rfl rfl (fun hb58 => ?_) (fun hb58 => ?_)
                        · replace H53 := (if_pos (of_decide_eq_true hb58)).symm.trans H53
                          refine W_draw [6, 14, 18] [(0, 0), (1, 0), (2, 0), (3, 0), (4, 0), (5, 0), (6, 1), (7, 0), (8, 0), (9, 0), (10, 0), (11, 0), (12, 0), (13, 0), (14, 1), (15, 0), (16, 0), (17, 0), (18, 1), (19, 0), (20, 0), (21, 2)] mixed (by kernel_rfl) (by kernel_rfl) (by kernel_rfl) (by kernel_rfl) ?_
                          have x59 := Ext.drew w54
                          replace o0_54 := o0_54.ext x59
                          have e60 := hE54.trans x59
                          refine wsa rfl rfl rfl (q_move (v := v12_52) rfl s12_54) ?_
                          refine wsa rfl rfl rfl (q_move (v := (u8 c56)) rfl rfl) ?_
                          refine wsa rfl rfl rfl (q_cvtI8 rfl rfl rfl rfl) ?_
                          refine wsa rfl rfl rfl (q_move (v := (i64 ((a0parts.length : Int)))) rfl s9_54) ?_
                          obtain ⟨c61, hc61, H53⟩ := Option.bind_eq_some_iff.1 H53
                          refine wsa rfl rfl rfl (q_remI rfl rfl rfl hc61) ?_
                          obtain ⟨c62, hc62, H53⟩ := Option.bind_eq_some_iff.1 H53
                          refine wsa rfl rfl rfl (q_adr rfl T23 rfl rfl o0_54.rd hc62) ?_
                          refine wsq_loadD rfl rfl rfl rfl T23 rfl o0_54 hc62 (fun v63 hD63 => ?_)
                          refine wsa rfl rfl rfl (q_move (v := (u8 c56)) rfl rfl) ?_
                          refine wsa rfl rfl rfl (q_cvtI8 rfl rfl rfl rfl) ?_
                          refine wsa rfl rfl rfl (q_move (v := (i64 ((a0parts.length : Int)))) rfl s9_54) ?_
                          obtain ⟨c64, hc64, H53⟩ := Option.bind_eq_some_iff.1 H53
                          refine wsa rfl rfl rfl (q_divI rfl rfl rfl hc64) ?_
                          refine wsa rfl rfl rfl (q_move (v := (i64 ((c27.length : Int)))) rfl s10_54) ?_
                          obtain ⟨c65, hc65, H53⟩ := Option.bind_eq_some_iff.1 H53
                          refine wsa rfl rfl rfl (q_remI rfl rfl rfl hc65) ?_
                          obtain ⟨c66, hc66, H53⟩ := Option.bind_eq_some_iff.1 H53
                          refine wsa rfl rfl rfl (q_adr rfl T22 rfl rfl (OwD.rowrd o0_54 hD63 hc62) hc66) ?_
                          refine wsq rfl rfl rfl (q_loadS rfl T22 rfl (OwD.rowrd o0_54 hD63 hc62) hc66) ?_
                          refine wsa rfl rfl rfl (q_move (v := p2) rfl s2_54) ?_
                          refine wsa rfl rfl rfl (q_move (v := (i64 s53.2)) rfl rfl) ?_
                          obtain ⟨c67, hc67, H53⟩ := Option.bind_eq_some_iff.1 H53
                          refine wsa rfl rfl rfl (q_adr rfl T22 rfl rfl (hp2.lift (Lift.ext e60 _)) hc67) ?_
                          refine wsq rfl rfl rfl (q_loadS rfl T22 rfl (hp2.lift (Lift.ext e60 _)) hc67) ?_
                          refine wsa rfl rfl rfl (q_xor8 rfl rfl rfl) ?_
                          refine wsa rfl rfl rfl (q_adr rfl T22 rfl rfl (OwD.rowrd o0_54 hD63 hc62) hc66) ?_
                          refine wsn rfl (by kernel_rfl) rfl rfl (stp_storeD [] [] rfl T22 rfl rfl o0_54 hD63 hc62 hc66 ?_)
                          intro w68 o68 g68 l68
                          have e69 := e60.grown g68 n0_54
                          refine ws_nil ?_
                          refine bk_n ?_
                          refine W_th ?_
                          refine W_reg (by kernel_rfl) ?_
                          refine wla rfl rfl (q_addI rfl s81_54 rfl) ?_
                          refine wla rfl rfl (q_move (v := (i64 ((wI (s53.2 + 1))))) rfl rfl) ?_
                          refine wl_nil ?_
                          obtain rfl := Option.some.inj H53
                          exact ⟨_, rfl, G12_54, s0_54, s2_54, s9_54, s10_54, s11_54, s12_54, s79_54, s80_54, rfl, s204_54, e69, o68, n0_54⟩
                        · replace H53 := (if_neg (of_decide_eq_false hb58)).symm.trans H53
                          refine W_skip ?_
                          refine bk_n ?_
                          refine W_th ?_
                          refine W_reg (by kernel_rfl) ?_
                          refine wla rfl rfl (q_addI rfl s81_54 rfl) ?_
                          refine wla rfl rfl (q_move (v := (i64 ((wI (s53.2 + 1))))) rfl rfl) ?_
                          refine wl_nil ?_
                          obtain rfl := Option.some.inj H53
                          exact ⟨_, rfl, G12_54, s0_54, s2_54, s9_54, s10_54, s11_54, s12_54, s79_54, s80_54, rfl, s204_54, hE54, o0_54, n0_54⟩
                      · replace H53 := (if_neg (of_decide_eq_false hb57)).symm.trans H53
                        refine wlk rfl rfl ?_
                        refine wlk rfl rfl ?_
                        refine wla rfl rfl (q_pick_f (v := (.bool false)) rfl rfl rfl) ?_
                        refine wl_nil ?_
                        refine W_th ?_
                        refine W_cond false rfl rfl (fun hb => by cases hb) (fun _ => ?_)
                        refine W_skip ?_
                        refine bk_n ?_
                        refine W_th ?_
                        refine W_reg (by kernel_rfl) ?_
                        refine wla rfl rfl (q_addI rfl s81_54 rfl) ?_
                        refine wla rfl rfl (q_move (v := (i64 ((wI (s53.2 + 1))))) rfl rfl) ?_
                        refine wl_nil ?_
                        obtain rfl := Option.some.inj H53
                        exact ⟨_, rfl, G12_54, s0_54, s2_54, s9_54, s10_54, s11_54, s12_54, s79_54, s80_54, rfl, s204_54, hE54, o0_54, n0_54⟩
                    · replace H53 := (if_neg (of_decide_eq_false hb55)).symm.trans H53
                      refine W_exit ?_
                      refine th_x ?_
                      obtain rfl := Option.some.inj H53
                      obtain rfl := hr53 _ rfl
                      refine th_x ?_
                      refine bk_x ?_
                      exact ⟨G12_54, s0_54, s9_54, s10_54, s11_54, s12_54, s204_54, hE54, o0_54, n0_54⟩
                · rintro _ w71 ⟨G12_71, s0_71, s9_71, s10_71, s11_71, s12_71, s204_71, hE71, o0_71, n0_71⟩
                  refine W_th ?_
                  refine W_seq ?_
                  refine W_reg (by kernel_rfl) ?_
                  obtain ⟨r72, hr72, H⟩ := Option.bind_eq_some_iff.1 H
                  refine wls rfl rfl (stp_call (vs := []) Try.func14 rfl rfl rfl (ar0 ) (field_New_calls   r72 _ [G12_71] (Old.cons (Old.nil _) o0_71.ltB)  hr72) ?_)
                  rintro _ w72 ⟨v72, rfl, x72, i72_0⟩
                  refine ⟨_, rfl, ?_⟩
                  replace o0_71 := o0_71.ext x72
                  have e73 := hE71.trans x72
                  refine wla rfl rfl (q_assign (v := v72) rfl rfl) ?_
                  refine wl_nil ?_
                  refine W_th ?_
                  refine W_seq ?_
                  refine W_reg (by kernel_rfl) ?_
                  refine wla rfl rfl (q_move (v := v72) rfl rfl) ?_
                  refine wla rfl rfl (q_move (v := (i64 ((wI ((a0parts.length : Int) + (wI ((((UInt64.ofInt a3more) % (5 : UInt64))).toNat : Int))))))) rfl s11_71) ?_
                  refine wla rfl rfl (q_move (v := p0) rfl s0_71) ?_
                  obtain ⟨r74, hr74, H⟩ := Option.bind_eq_some_iff.1 H
                  refine wls rfl rfl (stp_call (vs := [v72, (i64 ((wI ((a0parts.length : Int) + (wI ((((UInt64.ofInt a3more) % (5 : UInt64))).toNat : Int)))))), p0]) Try.func33 rfl rfl rfl (ar3 rfl rfl rfl) (code_Encode_calls r72 (wI ((a0parts.length : Int) + (wI ((((UInt64.ofInt a3more) % (5 : UInt64))).toNat : Int)))) a0parts v72 p0 r74 _ [G12_71] (Old.cons (Old.nil _) o0_71.ltB) (i72_0.lift (Lift.sub (fun _ _ => trivial))) (hp0.lift (Lift.ext e73 _)) hr74) ?_)
                  rintro _ w74 ⟨v74_0, rfl, x74, n74_0, o74_0⟩
                  refine ⟨_, rfl, ?_⟩
                  have i74_0 : Rw w74 [G12_71] v74_0 r74.1 := OwK.slk (SlK.stab (Sc.stab _)) _ o74_0 (fun k hk => (Old.cons (Old.nil _) o0_71.ltB) k (n74_0 k hk)) (fun _ h => h.2)
                  replace i72_0 := i72_0.lift (Lift.ext x74 _)
                  replace o0_71 := o0_71.ext x74
                  have e75 := e73.trans x74
                  refine wla rfl rfl (q_move (v := (.tuple #[v74_0, (i64 r74.2)])) rfl rfl) ?_
                  refine wla rfl rfl (q_extract rfl rfl rfl) ?_
                  refine wla rfl rfl (q_extract rfl rfl rfl) ?_
                  refine wla rfl rfl (q_assign (v := v74_0) rfl rfl) ?_
                  refine wla rfl rfl (q_assign (v := (i64 r74.2)) rfl rfl) ?_
                  refine wl_nil ?_
                  refine W_th ?_
                  refine W_seq ?_
                  refine W_reg (by kernel_rfl) ?_
                  refine wla rfl rfl (q_move (v := v72) rfl rfl) ?_
                  refine wla rfl rfl (q_move (v := (i64 ((wI ((a0parts.length : Int) + (wI ((((UInt64.ofInt a3more) % (5 : UInt64))).toNat : Int))))))) rfl s11_71) ?_
                  refine wla rfl rfl (q_move (v := v12_52) rfl s12_71) ?_
                  obtain ⟨r76, hr76, H⟩ := Option.bind_eq_some_iff.1 H
                  refine wls rfl rfl (stp_call (vs := [v72, (i64 ((wI ((a0parts.length : Int) + (wI ((((UInt64.ofInt a3more) % (5 : UInt64))).toNat : Int)))))), v12_52]) Try.func33 rfl rfl rfl (ar3 rfl rfl rfl) (code_Encode_calls r72 (wI ((a0parts.length : Int) + (wI ((((UInt64.ofInt a3more) % (5 : UInt64))).toNat : Int)))) x53 v72 v12_52 r76 _ [G12_71] (Old.cons (Old.nil _) o0_71.ltB) (i72_0.lift (Lift.sub (fun _ _ => trivial))) o0_71.rd hr76) ?_)
                  rintro _ w76 ⟨v76_0, rfl, x76, n76_0, o76_0⟩
                  refine ⟨_, rfl, ?_⟩
                  have i76_0 : Rw w76 [G12_71] v76_0 r76.1 := OwK.slk (SlK.stab (Sc.stab _)) _ o76_0 (fun k hk => (Old.cons (Old.nil _) o0_71.ltB) k (n76_0 k hk)) (fun _ h => h.2)
                  replace i72_0 := i72_0.lift (Lift.ext x76 _)
                  replace i74_0 := i74_0.lift (Lift.ext x76 _)
                  replace o0_71 := o0_71.ext x76
                  have e77 := e75.trans x76
                  refine wla rfl rfl (q_move (v := (.tuple #[v76_0, (i64 r76.2)])) rfl rfl) ?_
                  refine wla rfl rfl (q_extract rfl rfl rfl) ?_
                  refine wla rfl rfl (q_extract rfl rfl rfl) ?_
                  refine wla rfl rfl (q_assign (v := v76_0) rfl rfl) ?_
                  refine wla rfl rfl (q_assign (v := (i64 r76.2)) rfl rfl) ?_
                  refine wl_nil ?_
                  refine W_th ?_
                  refine W_seq ?_
                  refine W_seq ?_
                  refine W_reg (by kernel_rfl) ?_
                  refine wla rfl rfl (q_move (v := (i64 r74.2)) rfl rfl) ?_
                  refine wla rfl rfl (q_neI rfl rfl rfl) ?_
                  refine wlb rfl rfl (q_move (v := (.bool ((!decide (r74.2 = 0))))) rfl rfl) (fun hb78 => ?_) (fun hb78 => ?_)
                  · replace H := (if_neg (ndec_t hb78)).symm.trans H
                    refine wlk rfl rfl ?_
                    refine wlk rfl rfl ?_
                    refine wla rfl rfl (q_pick_t (v := (.bool true)) rfl rfl rfl) ?_
                    refine wl_nil ?_
                    refine W_th ?_
                    refine W_cond true rfl rfl (fun _ => ?_) (fun hb => by cases hb)
                    refine W_seq ?_
                    refine W_reg (by kernel_rfl) ?_
                    refine wla rfl rfl (q_assign (v := (.bool false)) rfl rfl) ?_
                    refine wl_nil ?_
                    refine W_th ?_
                    refine W_ret ?_
                    refine th_r ?_
                    obtain rfl := Option.some.inj H
                    refine rt1 (.bool false) rfl rfl rfl s204_71 ?_
                    exact ⟨rfl, e77⟩
                  · replace H := (if_pos (ndec_f hb78)).symm.trans H
                    refine wla rfl rfl (q_move (v := (i64 r76.2)) rfl rfl) ?_
                    refine wla rfl rfl (q_neI rfl rfl rfl) ?_
                    refine wla rfl rfl (q_pick_f (v := (.bool ((!decide (r76.2 = 0))))) rfl rfl rfl) ?_
                    refine wl_nil ?_
                    refine W_th ?_
                    refine W_cond _ rfl rfl (fun hb79 => ?_) (fun hb79 => ?_)
                    · replace H := (if_neg (ndec_t hb79)).symm.trans H
                      refine W_seq ?_
                      refine W_reg (by kernel_rfl) ?_
                      refine wla rfl rfl (q_assign (v := (.bool false)) rfl rfl) ?_
                      refine wl_nil ?_
                      refine W_th ?_
                      refine W_ret ?_
                      refine th_r ?_
                      obtain rfl := Option.some.inj H
                      refine rt1 (.bool false) rfl rfl rfl s204_71 ?_
                      exact ⟨rfl, e77⟩
                    · replace H := (if_pos (ndec_f hb79)).symm.trans H
                      refine W_skip ?_
                      refine W_th ?_
                      refine W_seq ?_
                      refine W_seq ?_
                      refine W_reg (by kernel_rfl) ?_
                      refine wla rfl rfl (q_move (v := (i64 ((c27.length : Int)))) rfl s10_71) ?_
                      refine wla rfl rfl (q_move (v := (i64 0)) rfl rfl) ?_
                      refine wl_nil ?_
                      refine W_th ?_
                      obtain ⟨x80, G80, H⟩ := Option.bind_eq_some_iff.1 H
                      refine W_mid (fun f w => ∃ y80, x80 = .inl y80 ∧ f 204 = undef ∧ Ext w0 w) ?_ ?_
                      · refine W_block ?_
                        refine W_loop (fun s80 f w => f 0 = p0 ∧ f 9 = (i64 ((a0parts.length : Int))) ∧ f 11 = (i64 ((wI ((a0parts.length : Int) + (wI ((((UInt64.ofInt a3more) % (5 : UInt64))).toNat : Int)))))) ∧ f 12 = v12_52 ∧ f 18 = v74_0 ∧ f 20 = v76_0 ∧ f 137 = (i64 ((c27.length : Int))) ∧ f 138 = (i64 s80) ∧ f 204 = undef ∧ Ext w0 w ∧ OwD w 22 5 G12_71 v12_52 x53 ∧ Nw w0 G12_71 ∧ Rw w [G12_71] v74_0 r74.1 ∧ Rw w [G12_71] v76_0 r76.1) G80 ?_ ?_
                        · exact ⟨s0_71, s9_71, s11_71, s12_71, rfl, rfl, rfl, rfl, s204_71, e77, o0_71, n0_71, i74_0, i76_0⟩
                        · rintro s80 _ _ w81 ⟨s0_81, s9_81, s11_81, s12_81, s18_81, s20_81, s137_81, s138_81, s204_81, hE81, o0_81, n0_81, i0_81, i1_81⟩ H80 hr80
                          refine W_seq ?_
                          refine W_reg (by kernel_rfl) ?_
                          refine wla rfl rfl (q_ltI rfl s138_81 s137_81) ?_
                          refine wl_nil ?_
                          refine W_th ?_
                          refine W_seq ?_
                          refine W_cond _ rfl rfl (fun hb82 => ?_) (fun hb82 => ?_)
                          · replace H80 := (if_pos (of_decide_eq_true hb82)).symm.trans H80
                            refine W_skip ?_
                            refine W_th ?_
                            refine W_seq ?_
                            refine W_block ?_
                            refine W_seq ?_
                            refine W_reg (by kernel_rfl) ?_
                            refine wla rfl rfl (q_move (v := (i64 s80)) rfl s138_81) ?_
                            refine wla rfl rfl (q_assign (v := (i64 s80)) rfl rfl) ?_
                            refine wl_nil ?_
                            refine W_th ?_
                            refine W_seq ?_
                            refine W_reg (by kernel_rfl) ?_
                            refine wla rfl rfl (q_assign (v := (.bool false)) rfl rfl) ?_
                            refine wla rfl rfl (q_assign (v := (i64 0)) rfl rfl) ?_
                            refine wl_nil ?_
                            refine W_th ?_
                            refine W_seq ?_
                            refine W_seq ?_
                            refine W_reg (by kernel_rfl) ?_
                            refine wla rfl rfl (q_move (v := p0) rfl s0_81) ?_
                            refine wla rfl rfl (q_len rfl T23.sl rfl (hp0.lift (Lift.ext hE81 _))) ?_
                            refine wla rfl rfl (q_move (v := (i64 0)) rfl rfl) ?_
                            refine wl_nil ?_
                            refine W_th ?_
                            obtain ⟨x83, G83, H80⟩ := Option.bind_eq_some_iff.1 H80
                            refine W_mid (fun f w => f 0 = p0 ∧ f 9 = (i64 ((a0parts.length : Int))) ∧ f 11 = (i64 ((wI ((a0parts.length : Int) + (wI ((((UInt64.ofInt a3more) % (5 : UInt64))).toNat : Int)))))) ∧ f 12 = v12_52 ∧ f 18 = v74_0 ∧ f 20 = v76_0 ∧ f 22 = (i64 s80) ∧ f 23 = (.bool x83) ∧ f 24 = (i64 0) ∧ f 137 = (i64 ((c27.length : Int))) ∧ f 138 = (i64 s80) ∧ f 204 = undef ∧ Ext w0 w ∧ OwD w 22 5 G12_71 v12_52 x53 ∧ Nw w0 G12_71 ∧ Rw w [G12_71] v74_0 r74.1 ∧ Rw w [G12_71] v76_0 r76.1) ?_ ?_
                            · refine W_block ?_
                              refine W_loop (fun s83 f w => f 0 = p0 ∧ f 9 = (i64 ((a0parts.length : Int))) ∧ f 11 = (i64 ((wI ((a0parts.length : Int) + (wI ((((UInt64.ofInt a3more) % (5 : UInt64))).toNat : Int)))))) ∧ f 12 = v12_52 ∧ f 18 = v74_0 ∧ f 20 = v76_0 ∧ f 22 = (i64 s80) ∧ f 23 = (.bool s83.1) ∧ f 24 = (i64 0) ∧ f 137 = (i64 ((c27.length : Int))) ∧ f 138 = (i64 s80) ∧ f 142 = (i64 ((a0parts.length : Int))) ∧ f 143 = (i64 s83.2) ∧ f 204 = undef ∧ Ext w0 w ∧ OwD w 22 5 G12_71 v12_52 x53 ∧ Nw w0 G12_71 ∧ Rw w [G12_71] v74_0 r74.1 ∧ Rw w [G12_71] v76_0 r76.1) G83 ?_ ?_
                              · exact ⟨s0_81, s9_81, s11_81, s12_81, s18_81, s20_81, rfl, rfl, rfl, s137_81, s138_81, rfl, rfl, s204_81, hE81, o0_81, n0_81, i0_81, i1_81⟩
                              · rintro s83 _ _ w84 ⟨s0_84, s9_84, s11_84, s12_84, s18_84, s20_84, s22_84, s23_84, s24_84, s137_84, s138_84, s142_84, s143_84, s204_84, hE84, o0_84, n0_84, i0_84, i1_84⟩ H83 hr83
                                refine W_seq ?_
                                refine W_reg (by kernel_rfl) ?_
                                refine wla rfl rfl (q_ltI rfl s143_84 s142_84) ?_
                                refine wl_nil ?_
                                refine W_th ?_
                                refine W_seq ?_
                                refine W_cond _ rfl rfl (fun hb85 => ?_) (fun hb85 => ?_)
                                · replace H83 := (if_pos (of_decide_eq_true hb85)).symm.trans H83
                                  refine W_skip ?_
                                  refine W_th ?_
                                  refine W_seq ?_
                                  refine W_block ?_
                                  refine W_seq ?_
                                  refine W_reg (by kernel_rfl) ?_
                                  refine wla rfl rfl (q_move (v := (i64 s83.2)) rfl s143_84) ?_
                                  refine wla rfl rfl (q_assign (v := (i64 s83.2)) rfl rfl) ?_
                                  refine wl_nil ?_
                                  refine W_th ?_
                                  refine W_draw [5, 8, 12, 15] [(0, 0), (1, 0), (2, 0), (3, 0), (4, 0), (5, 1), (6, 0), (7, 0), (8, 1), (9, 0), (10, 0), (11, 0), (12, 1), (13, 0), (14, 0), (15, 1), (16, 0), (17, 0), (18, 0)] mixed (by kernel_rfl) (by kernel_rfl) (by kernel_rfl) (by kernel_rfl) ?_
                                  have x86 := Ext.drew w84
                                  replace i0_84 := i0_84.lift (Lift.ext x86 _)
                                  replace i1_84 := i1_84.lift (Lift.ext x86 _)
                                  replace o0_84 := o0_84.ext x86
                                  have e87 := hE84.trans x86
                                  refine wsa rfl rfl rfl (q_move (v := (.bool s83.1)) rfl s23_84) ?_
                                  refine wsb rfl rfl rfl (q_move (v := (.bool s83.1)) rfl rfl) (fun hb88 => ?_) (fun hb88 => ?_)
                                  · replace H83 := (if_pos hb88).symm.trans H83
                                    refine wsk rfl rfl rfl ?_
                                    refine wsk rfl rfl rfl ?_
                                    refine wsk rfl rfl rfl ?_
                                    refine wsk rfl rfl rfl ?_
                                    refine wsk rfl rfl rfl ?_
                                    refine wsk rfl rfl rfl ?_
                                    refine wsk rfl rfl rfl ?_
                                    refine wsk rfl rfl rfl ?_
                                    refine wsk rfl rfl rfl ?_
                                    refine wsk rfl rfl rfl ?_
                                    refine wsk rfl rfl rfl ?_
                                    refine wsk rfl rfl rfl ?_
                                    refine wsk rfl rfl rfl ?_
                                    refine wsk rfl rfl rfl ?_
                                    refine wsk rfl rfl rfl ?_
                                    refine wsa rfl rfl rfl (q_pick_t (v := (.bool true)) rfl rfl rfl) ?_
                                    refine wsa rfl rfl rfl (q_assign (v := (.bool true)) rfl rfl) ?_
                                    refine ws_nil ?_
                                    refine bk_n ?_
                                    refine W_th ?_
                                    refine W_reg (by kernel_rfl) ?_
                                    refine wla rfl rfl (q_addI rfl s143_84 rfl) ?_
                                    refine wla rfl rfl (q_move (v := (i64 ((wI (s83.2 + 1))))) rfl rfl) ?_
                                    refine wl_nil ?_
                                    obtain rfl := Option.some.inj H83
                                    exact ⟨_, rfl, s0_84, s9_84, s11_84, s12_84, s18_84, s20_84, s22_84, rfl, s24_84, s137_84, s138_84, s142_84, rfl, s204_84, e87, o0_84, n0_84, i0_84, i1_84⟩
                                  · replace H83 := (if_neg (ne_true_of_eq_false hb88)).symm.trans H83
                                    refine wsa rfl rfl rfl (q_move (v := p0) rfl s0_84) ?_
                                    refine wsa rfl rfl rfl (q_move (v := (i64 s83.2)) rfl rfl) ?_
                                    obtain ⟨c89, hc89, H83⟩ := Option.bind_eq_some_iff.1 H83
                                    refine wsa rfl rfl rfl (q_adr rfl T23 rfl rfl (hp0.lift (Lift.ext e87 _)) hc89) ?_
                                    refine wsq_load rfl rfl rfl rfl T23 rfl hp0 hc89 e87 (fun v90 ha90 => ?_)
                                    refine wsa rfl rfl rfl (q_move (v := (i64 s80)) rfl s22_84) ?_
                                    obtain ⟨c91, hc91, H83⟩ := Option.bind_eq_some_iff.1 H83
                                    refine wsa rfl rfl rfl (q_adr rfl T22 rfl rfl (ha90.lift (Lift.ext e87 _)) hc91) ?_
                                    refine wsq rfl rfl rfl (q_loadS rfl T22 rfl (ha90.lift (Lift.ext e87 _)) hc91) ?_
                                    refine wsa rfl rfl rfl (q_move (v := v12_52) rfl s12_84) ?_
                                    refine wsa rfl rfl rfl (q_move (v := (i64 s83.2)) rfl rfl) ?_
                                    obtain ⟨c92, hc92, H83⟩ := Option.bind_eq_some_iff.1 H83
                                    refine wsa rfl rfl rfl (q_adr rfl T23 rfl rfl o0_84.rd hc92) ?_
                                    refine wsq_loadD rfl rfl rfl rfl T23 rfl o0_84 hc92 (fun v93 hD93 => ?_)
                                    refine wsa rfl rfl rfl (q_move (v := (i64 s80)) rfl s22_84) ?_
                                    obtain ⟨c94, hc94, H83⟩ := Option.bind_eq_some_iff.1 H83
                                    refine wsa rfl rfl rfl (q_adr rfl T22 rfl rfl (OwD.rowrd o0_84 hD93 hc92) hc94) ?_
                                    refine wsq rfl rfl rfl (q_loadS rfl T22 rfl (OwD.rowrd o0_84 hD93 hc92) hc94) ?_
                                    refine wsa rfl rfl rfl (q_ne8 rfl rfl rfl) ?_
                                    refine wsa rfl rfl rfl (q_pick_f (v := (.bool ((!decide (c91 = c94))))) rfl rfl rfl) ?_
                                    refine wsa rfl rfl rfl (q_assign (v := (.bool ((!decide (c91 = c94))))) rfl rfl) ?_
                                    refine ws_nil ?_
                                    refine bk_n ?_
                                    refine W_th ?_
                                    refine W_reg (by kernel_rfl) ?_
                                    refine wla rfl rfl (q_addI rfl s143_84 rfl) ?_
                                    refine wla rfl rfl (q_move (v := (i64 ((wI (s83.2 + 1))))) rfl rfl) ?_
                                    refine wl_nil ?_
                                    obtain rfl := Option.some.inj H83
                                    exact ⟨_, rfl, s0_84, s9_84, s11_84, s12_84, s18_84, s20_84, s22_84, rfl, s24_84, s137_84, s138_84, s142_84, rfl, s204_84, e87, o0_84, n0_84, i0_84, i1_84⟩
                                · replace H83 := (if_neg (of_decide_eq_false hb85)).symm.trans H83
                                  refine W_exit ?_
                                  refine th_x ?_
                                  obtain rfl := Option.some.inj H83
                                  obtain rfl := hr83 _ rfl
                                  refine th_x ?_
                                  refine bk_x ?_
                                  exact ⟨s0_84, s9_84, s11_84, s12_84, s18_84, s20_84, s22_84, s23_84, s24_84, s137_84, s138_84, s204_84, hE84, o0_84, n0_84, i0_84, i1_84⟩
                            · rintro _ w96 ⟨s0_96, s9_96, s11_96, s12_96, s18_96, s20_96, s22_96, s23_96, s24_96, s137_96, s138_96, s204_96, hE96, o0_96, n0_96, i0_96, i1_96⟩
                              refine W_th ?_
                              refine W_seq ?_
                              refine W_seq ?_
                              refine W_reg (by kernel_rfl) ?_
                              refine wla rfl rfl (q_move (v := v74_0) rfl s18_96) ?_
                              refine wla rfl rfl (q_len rfl T23.sl rfl i0_96) ?_
                              refine wla rfl rfl (q_move (v := (i64 0)) rfl rfl) ?_
                              refine wl_nil ?_
                              refine W_th ?_
                              obtain ⟨x97, G97, H80⟩ := Option.bind_eq_some_iff.1 H80
                              refine W_mid (fun f w => f 0 = p0 ∧ f 9 = (i64 ((a0parts.length : Int))) ∧ f 11 = (i64 ((wI ((a0parts.length : Int) + (wI ((((UInt64.ofInt a3more) % (5 : UInt64))).toNat : Int)))))) ∧ f 12 = v12_52 ∧ f 18 = v74_0 ∧ f 20 = v76_0 ∧ f 23 = (.bool x83) ∧ f 24 = (i64 x97) ∧ f 137 = (i64 ((c27.length : Int))) ∧ f 138 = (i64 s80) ∧ f 204 = undef ∧ Ext w0 w ∧ OwD w 22 5 G12_71 v12_52 x53 ∧ Nw w0 G12_71 ∧ Rw w [G12_71] v74_0 r74.1 ∧ Rw w [G12_71] v76_0 r76.1) ?_ ?_
                              · refine W_block ?_
                                refine W_loop (fun s97 f w => f 0 = p0 ∧ f 9 = (i64 ((a0parts.length : Int))) ∧ f 11 = (i64 ((wI ((a0parts.length : Int) + (wI ((((UInt64.ofInt a3more) % (5 : UInt64))).toNat : Int)))))) ∧ f 12 = v12_52 ∧ f 18 = v74_0 ∧ f 20 = v76_0 ∧ f 22 = (i64 s80) ∧ f 23 = (.bool x83) ∧ f 24 = (i64 s97.1) ∧ f 137 = (i64 ((c27.length : Int))) ∧ f 138 = (i64 s80) ∧ f 166 = (i64 ((r74.1.length : Int))) ∧ f 167 = (i64 s97.2) ∧ f 204 = undef ∧ Ext w0 w ∧ OwD w 22 5 G12_71 v12_52 x53 ∧ Nw w0 G12_71 ∧ Rw w [G12_71] v74_0 r74.1 ∧ Rw w [G12_71] v76_0 r76.1) G97 ?_ ?_
                                · exact ⟨s0_96, s9_96, s11_96, s12_96, s18_96, s20_96, s22_96, s23_96, s24_96, s137_96, s138_96, rfl, rfl, s204_96, hE96, o0_96, n0_96, i0_96, i1_96⟩
                                · rintro s97 _ _ w98 ⟨s0_98, s9_98, s11_98, s12_98, s18_98, s20_98, s22_98, s23_98, s24_98, s137_98, s138_98, s166_98, s167_98, s204_98, hE98, o0_98, n0_98, i0_98, i1_98⟩ H97 hr97
                                  refine W_seq ?_
                                  refine W_reg (by kernel_rfl) ?_
                                  refine wla rfl rfl (q_ltI rfl s167_98 s166_98) ?_
                                  refine wl_nil ?_
                                  refine W_th ?_
                                  refine W_seq ?_
                                  refine W_cond _ rfl rfl (fun hb99 => ?_) (fun hb99 => ?_)
                                  · replace H97 := (if_pos (of_decide_eq_true hb99)).symm.trans H97
                                    refine W_skip ?_
                                    refine W_th ?_
                                    refine W_seq ?_
                                    refine W_block ?_
                                    refine W_seq ?_
                                    refine W_reg (by kernel_rfl) ?_
                                    refine wla rfl rfl (q_move (v := (i64 s97.2)) rfl s167_98) ?_
                                    refine wla rfl rfl (q_assign (v := (i64 s97.2)) rfl rfl) ?_
                                    refine wl_nil ?_
                                    refine W_th ?_
                                    refine W_seq ?_
                                    refine W_draw [3, 6, 10, 13] [(0, 0), (1, 0), (2, 0), (3, 1), (4, 0), (5, 0), (6, 1), (7, 0), (8, 0), (9, 0), (10, 1), (11, 0), (12, 0), (13, 1), (14, 0)] mixed (by kernel_rfl) (by kernel_rfl) (by kernel_rfl) (by kernel_rfl) ?_
                                    have x100 := Ext.drew w98
                                    replace i0_98 := i0_98.lift (Lift.ext x100 _)
                                    replace i1_98 := i1_98.lift (Lift.ext x100 _)
                                    replace o0_98 := o0_98.ext x100
                                    have e101 := hE98.trans x100
                                    refine wsa rfl rfl rfl (q_move (v := v74_0) rfl s18_98) ?_
                                    refine wsa rfl rfl rfl (q_move (v := (i64 s97.2)) rfl rfl) ?_
                                    obtain ⟨c102, hc102, H97⟩ := Option.bind_eq_some_iff.1 H97
                                    refine wsa rfl rfl rfl (q_adr rfl T23 rfl rfl i0_98 hc102) ?_
                                    refine wsq_load rfl rfl rfl rfl T23 rfl i0_98 hc102 (Ext.refl _) (fun v103 i103 => ?_)
                                    refine wsa rfl rfl rfl (q_move (v := (i64 s80)) rfl s22_98) ?_
                                    obtain ⟨c104, hc104, H97⟩ := Option.bind_eq_some_iff.1 H97
                                    refine wsa rfl rfl rfl (q_adr rfl T22 rfl rfl i103 hc104) ?_
                                    refine wsq rfl rfl rfl (q_loadS rfl T22 rfl i103 hc104) ?_
                                    refine wsa rfl rfl rfl (q_move (v := v76_0) rfl s20_98) ?_
                                    refine wsa rfl rfl rfl (q_move (v := (i64 s97.2)) rfl rfl) ?_
                                    obtain ⟨c105, hc105, H97⟩ := Option.bind_eq_some_iff.1 H97
                                    refine wsa rfl rfl rfl (q_adr rfl T23 rfl rfl i1_98 hc105) ?_
                                    refine wsq_load rfl rfl rfl rfl T23 rfl i1_98 hc105 (Ext.refl _) (fun v106 i106 => ?_)
                                    refine wsa rfl rfl rfl (q_move (v := (i64 s80)) rfl s22_98) ?_
                                    obtain ⟨c107, hc107, H97⟩ := Option.bind_eq_some_iff.1 H97
                                    refine wsa rfl rfl rfl (q_adr rfl T22 rfl rfl i106 hc107) ?_
                                    refine wsq rfl rfl rfl (q_loadS rfl T22 rfl i106 hc107) ?_
                                    refine wsa rfl rfl rfl (q_eq8 rfl rfl rfl) ?_
                                    refine ws_nil ?_
                                    refine W_th ?_
                                    refine W_cond _ rfl rfl (fun hb108 => ?_) (fun hb108 => ?_)
                                    · replace H97 := (if_pos (of_decide_eq_true hb108)).symm.trans H97
                                      refine W_reg (by kernel_rfl) ?_
                                      refine wla rfl rfl (q_move (v := (i64 s97.1)) rfl s24_98) ?_
                                      refine wla rfl rfl (q_addI rfl rfl rfl) ?_
                                      refine wla rfl rfl (q_assign (v := (i64 ((wI (s97.1 + 1))))) rfl rfl) ?_
                                      refine wl_nil ?_
                                      refine bk_n ?_
                                      refine W_th ?_
                                      refine W_reg (by kernel_rfl) ?_
                                      refine wla rfl rfl (q_addI rfl s167_98 rfl) ?_
                                      refine wla rfl rfl (q_move (v := (i64 ((wI (s97.2 + 1))))) rfl rfl) ?_
                                      refine wl_nil ?_
                                      obtain rfl := Option.some.inj H97
                                      exact ⟨_, rfl, s0_98, s9_98, s11_98, s12_98, s18_98, s20_98, s22_98, s23_98, rfl, s137_98, s138_98, s166_98, rfl, s204_98, e101, o0_98, n0_98, i0_98, i1_98⟩
                                    · replace H97 := (if_neg (of_decide_eq_false hb108)).symm.trans H97
                                      refine W_skip ?_
                                      refine bk_n ?_
                                      refine W_th ?_
                                      refine W_reg (by kernel_rfl) ?_
                                      refine wla rfl rfl (q_addI rfl s167_98 rfl) ?_
                                      refine wla rfl rfl (q_move (v := (i64 ((wI (s97.2 + 1))))) rfl rfl) ?_
                                      refine wl_nil ?_
                                      obtain rfl := Option.some.inj H97
                                      exact ⟨_, rfl, s0_98, s9_98, s11_98, s12_98, s18_98, s20_98, s22_98, s23_98, s24_98, s137_98, s138_98, s166_98, rfl, s204_98, e101, o0_98, n0_98, i0_98, i1_98⟩
                                  · replace H97 := (if_neg (of_decide_eq_false hb99)).symm.trans H97
                                    refine W_exit ?_
                                    refine th_x ?_
                                    obtain rfl := Option.some.inj H97
                                    obtain rfl := hr97 _ rfl
                                    refine th_x ?_
                                    refine bk_x ?_
                                    exact ⟨s0_98, s9_98, s11_98, s12_98, s18_98, s20_98, s23_98, s24_98, s137_98, s138_98, s204_98, hE98, o0_98, n0_98, i0_98, i1_98⟩
                              · rintro _ w110 ⟨s0_110, s9_110, s11_110, s12_110, s18_110, s20_110, s23_110, s24_110, s137_110, s138_110, s204_110, hE110, o0_110, n0_110, i0_110, i1_110⟩
                                refine W_th ?_
                                refine W_seq ?_
                                refine W_reg (by kernel_rfl) ?_
                                refine wla rfl rfl (q_move (v := (.bool x83)) rfl s23_110) ?_
                                refine wlb rfl rfl (q_move (v := (.bool x83)) rfl rfl) (fun hb111 => ?_) (fun hb111 => ?_)
                                · replace H80 := (if_pos hb111).symm.trans H80
                                  refine wla rfl rfl (q_move (v := (i64 x97)) rfl s24_110) ?_
                                  refine wla rfl rfl (q_move (v := (i64 ((a0parts.length : Int)))) rfl s9_110) ?_
                                  refine wla rfl rfl (q_geI rfl rfl rfl) ?_
                                  refine wla rfl rfl (q_pick_t (v := (.bool ((decide ((a0parts.length : Int) ≤ x97))))) rfl rfl rfl) ?_
                                  refine wlb rfl rfl (q_move (v := (.bool ((decide ((a0parts.length : Int) ≤ x97))))) rfl rfl) (fun hb112 => ?_) (fun hb112 => ?_)
                                  · replace H80 := (if_pos (of_decide_eq_true hb112)).symm.trans H80
                                    refine wlk rfl rfl ?_
                                    refine wlk rfl rfl ?_
                                    refine wlk rfl rfl ?_
                                    refine wlk rfl rfl ?_
                                    refine wlk rfl rfl ?_
                                    refine wlk rfl rfl ?_
                                    refine wlk rfl rfl ?_
                                    refine wla rfl rfl (q_pick_t (v := (.bool true)) rfl rfl rfl) ?_
                                    refine wl_nil ?_
                                    refine W_th ?_
                                    refine W_cond true rfl rfl (fun _ => ?_) (fun hb => by cases hb)
                                    refine W_seq ?_
                                    refine W_reg (by kernel_rfl) ?_
                                    refine wla rfl rfl (q_assign (v := (.bool false)) rfl rfl) ?_
                                    refine wl_nil ?_
                                    refine W_th ?_
                                    refine W_ret ?_
                                    refine bk_r ?_
                                    refine th_r ?_
                                    obtain rfl := Option.some.inj H80
                                    obtain rfl := hr80 _ rfl
                                    simp only [Sum.elim_inr] at H
                                    refine th_r ?_
                                    refine bk_r ?_
                                    refine th_r ?_
                                    refine th_r ?_
                                    obtain rfl := Option.some.inj H
                                    refine rt1 (.bool false) rfl rfl rfl s204_110 ?_
                                    exact ⟨rfl, hE110⟩
                                  · replace H80 := (if_neg (of_decide_eq_false hb112)).symm.trans H80
                                    refine wla rfl rfl (q_move (v := (.bool x83)) rfl s23_110) ?_
                                    refine wla rfl rfl (q_not rfl rfl) ?_
                                    refine wlb rfl rfl (q_move (v := (.bool ((!x83)))) rfl rfl) (fun hb113 => ?_) (fun hb113 => ?_)
                                    · replace H80 := (if_pos hb113).symm.trans H80
                                      refine wla rfl rfl (q_move (v := (i64 x97)) rfl s24_110) ?_
                                      refine wla rfl rfl (q_move (v := (i64 ((wI ((a0parts.length : Int) + (wI ((((UInt64.ofInt a3more) % (5 : UInt64))).toNat : Int))))))) rfl s11_110) ?_
                                      refine wla rfl rfl (q_neI rfl rfl rfl) ?_
                                      refine wla rfl rfl (q_pick_t (v := (.bool ((!decide (x97 = (wI ((a0parts.length : Int) + (wI ((((UInt64.ofInt a3more) % (5 : UInt64))).toNat : Int))))))))) rfl rfl rfl) ?_
                                      refine wla rfl rfl (q_pick_f (v := (.bool ((!decide (x97 = (wI ((a0parts.length : Int) + (wI ((((UInt64.ofInt a3more) % (5 : UInt64))).toNat : Int))))))))) rfl rfl rfl) ?_
                                      refine wl_nil ?_
                                      refine W_th ?_
                                      refine W_cond _ rfl rfl (fun hb114 => ?_) (fun hb114 => ?_)
                                      · replace H80 := (if_neg (ndec_t hb114)).symm.trans H80
                                        refine W_seq ?_
                                        refine W_reg (by kernel_rfl) ?_
                                        refine wla rfl rfl (q_assign (v := (.bool false)) rfl rfl) ?_
                                        refine wl_nil ?_
                                        refine W_th ?_
                                        refine W_ret ?_
                                        refine bk_r ?_
                                        refine th_r ?_
                                        obtain rfl := Option.some.inj H80
                                        obtain rfl := hr80 _ rfl
                                        simp only [Sum.elim_inr] at H
                                        refine th_r ?_
                                        refine bk_r ?_
                                        refine th_r ?_
                                        refine th_r ?_
                                        obtain rfl := Option.some.inj H
                                        refine rt1 (.bool false) rfl rfl rfl s204_110 ?_
                                        exact ⟨rfl, hE110⟩
                                      · replace H80 := (if_pos (ndec_f hb114)).symm.trans H80
                                        refine W_skip ?_
                                        refine bk_n ?_
                                        refine W_th ?_
                                        refine W_reg (by kernel_rfl) ?_
                                        refine wla rfl rfl (q_addI rfl s138_110 rfl) ?_
                                        refine wla rfl rfl (q_move (v := (i64 ((wI (s80 + 1))))) rfl rfl) ?_
                                        refine wl_nil ?_
                                        obtain rfl := Option.some.inj H80
                                        exact ⟨_, rfl, s0_110, s9_110, s11_110, s12_110, s18_110, s20_110, s137_110, rfl, s204_110, hE110, o0_110, n0_110, i0_110, i1_110⟩
                                    · replace H80 := (if_neg (ne_true_of_eq_false hb113)).symm.trans H80
                                      refine wlk rfl rfl ?_
                                      refine wlk rfl rfl ?_
                                      refine wlk rfl rfl ?_
                                      refine wla rfl rfl (q_pick_f (v := (.bool false)) rfl rfl rfl) ?_
                                      refine wla rfl rfl (q_pick_f (v := (.bool false)) rfl rfl rfl) ?_
                                      refine wl_nil ?_
                                      refine W_th ?_
                                      refine W_cond false rfl rfl (fun hb => by cases hb) (fun _ => ?_)
                                      refine W_skip ?_
                                      refine bk_n ?_
                                      refine W_th ?_
                                      refine W_reg (by kernel_rfl) ?_
                                      refine wla rfl rfl (q_addI rfl s138_110 rfl) ?_
                                      refine wla rfl rfl (q_move (v := (i64 ((wI (s80 + 1))))) rfl rfl) ?_
                                      refine wl_nil ?_
                                      obtain rfl := Option.some.inj H80
                                      exact ⟨_, rfl, s0_110, s9_110, s11_110, s12_110, s18_110, s20_110, s137_110, rfl, s204_110, hE110, o0_110, n0_110, i0_110, i1_110⟩
                                · replace H80 := (if_neg (ne_true_of_eq_false hb111)).symm.trans H80
                                  refine wlk rfl rfl ?_
                                  refine wlk rfl rfl ?_
                                  refine wlk rfl rfl ?_
                                  refine wla rfl rfl (q_pick_f (v := (.bool false)) rfl rfl rfl) ?_
                                  refine wla rfl rfl (q_move (v := (.bool false)) rfl rfl) ?_
                                  refine wla rfl rfl (q_move (v := (.bool x83)) rfl s23_110) ?_
                                  refine wla rfl rfl (q_not rfl rfl) ?_
                                  refine wlb rfl rfl (q_move (v := (.bool ((!x83)))) rfl rfl) (fun hb115 => ?_) (fun hb115 => ?_)
                                  · replace H80 := (if_pos hb115).symm.trans H80
                                    refine wla rfl rfl (q_move (v := (i64 x97)) rfl s24_110) ?_
                                    refine wla rfl rfl (q_move (v := (i64 ((wI ((a0parts.length : Int) + (wI ((((UInt64.ofInt a3more) % (5 : UInt64))).toNat : Int))))))) rfl s11_110) ?_
                                    refine wla rfl rfl (q_neI rfl rfl rfl) ?_
                                    refine wla rfl rfl (q_pick_t (v := (.bool ((!decide (x97 = (wI ((a0parts.length : Int) + (wI ((((UInt64.ofInt a3more) % (5 : UInt64))).toNat : Int))))))))) rfl rfl rfl) ?_
                                    refine wla rfl rfl (q_pick_f (v := (.bool ((!decide (x97 = (wI ((a0parts.length : Int) + (wI ((((UInt64.ofInt a3more) % (5 : UInt64))).toNat : Int))))))))) rfl rfl rfl) ?_
                                    refine wl_nil ?_
                                    refine W_th ?_
                                    refine W_cond _ rfl rfl (fun hb116 => ?_) (fun hb116 => ?_)
                                    · replace H80 := (if_neg (ndec_t hb116)).symm.trans H80
                                      refine W_seq ?_
                                      refine W_reg (by kernel_rfl) ?_
                                      refine wla rfl rfl (q_assign (v := (.bool false)) rfl rfl) ?_
                                      refine wl_nil ?_
                                      refine W_th ?_
                                      refine W_ret ?_
                                      refine bk_r ?_
                                      refine th_r ?_
                                      obtain rfl := Option.some.inj H80
                                      obtain rfl := hr80 _ rfl
                                      simp only [Sum.elim_inr] at H
                                      refine th_r ?_
                                      refine bk_r ?_
                                      refine th_r ?_
                                      refine th_r ?_
                                      obtain rfl := Option.some.inj H
                                      refine rt1 (.bool false) rfl rfl rfl s204_110 ?_
                                      exact ⟨rfl, hE110⟩
                                    · replace H80 := (if_pos (ndec_f hb116)).symm.trans H80
                                      refine W_skip ?_
                                      refine bk_n ?_
                                      refine W_th ?_
                                      refine W_reg (by kernel_rfl) ?_
                                      refine wla rfl rfl (q_addI rfl s138_110 rfl) ?_
                                      refine wla rfl rfl (q_move (v := (i64 ((wI (s80 + 1))))) rfl rfl) ?_
                                      refine wl_nil ?_
                                      obtain rfl := Option.some.inj H80
                                      exact ⟨_, rfl, s0_110, s9_110, s11_110, s12_110, s18_110, s20_110, s137_110, rfl, s204_110, hE110, o0_110, n0_110, i0_110, i1_110⟩
                                  · replace H80 := (if_neg (ne_true_of_eq_false hb115)).symm.trans H80
                                    refine wlk rfl rfl ?_
                                    refine wlk rfl rfl ?_
                                    refine wlk rfl rfl ?_
                                    refine wla rfl rfl (q_pick_f (v := (.bool false)) rfl rfl rfl) ?_
                                    refine wla rfl rfl (q_pick_f (v := (.bool false)) rfl rfl rfl) ?_
                                    refine wl_nil ?_
                                    refine W_th ?_
                                    refine W_cond false rfl rfl (fun hb => by cases hb) (fun _ => ?_)
                                    refine W_skip ?_
                                    refine bk_n ?_
                                    refine W_th ?_
                                    refine W_reg (by kernel_rfl) ?_
                                    refine wla rfl rfl (q_addI rfl s138_110 rfl) ?_
                                    refine wla rfl rfl (q_move (v := (i64 ((wI (s80 + 1))))) rfl rfl) ?_
                                    refine wl_nil ?_
                                    obtain rfl := Option.some.inj H80
                                    exact ⟨_, rfl, s0_110, s9_110, s11_110, s12_110, s18_110, s20_110, s137_110, rfl, s204_110, hE110, o0_110, n0_110, i0_110, i1_110⟩
                          · replace H80 := (if_neg (of_decide_eq_false hb82)).symm.trans H80
                            refine W_exit ?_
                            refine th_x ?_
                            obtain rfl := Option.some.inj H80
                            obtain rfl := hr80 _ rfl
                            refine th_x ?_
                            refine bk_x ?_
                            exact ⟨_, rfl, s204_81, hE81⟩
                      · rintro _ w120 ⟨y80, rfl, s204_120, hE120⟩
                        simp only [Sum.elim_inl] at H
                        refine W_th ?_
                        refine W_seq ?_
                        refine W_reg (by kernel_rfl) ?_
                        refine wla rfl rfl (q_assign (v := (.bool true)) rfl rfl) ?_
                        refine wl_nil ?_
                        refine W_th ?_
                        refine W_ret ?_
                        obtain rfl := Option.some.inj H
                        refine rt1 (.bool true) rfl rfl rfl s204_120 ?_
                        exact ⟨rfl, hE120⟩

end Gk

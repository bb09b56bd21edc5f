/- Printed by gen.py: for each Go function a pure function, and that the Go code comes to it. No condition beside the equation that says what the pure function gives. -/
import Derived.Test.YtabcmfkmddlaaaaL9a
import Derived.Test.YtabcmfkmddlaaaaGmI
set_option linter.unusedVariables false
set_option linter.unusedSimpArgs false
namespace Gk
open Go Go.Proofs

/-! largesse/largesselaw09.CodeDecodes -/
noncomputable def law09_CodeDecodes (a0parts : List (List UInt8)) (a1xs : List UInt8) (a2raw : List Int) : Option Bool :=
((law09_lives ).bind fun r1 =>
(if (!r1) = true then
((law09_lives ).bind fun r4 => some r4)
else
((law09_few a0parts).bind fun r6 =>
(if (!r6) = true then
((law09_lives ).bind fun r9 => some r9)
else
(if (a0parts.length : Int) = 0 then
((law09_lives ).bind fun r12 => some r12)
else
(if 8 < (a0parts.length : Int) then
((law09_lives ).bind fun r15 => some r15)
else
((law09_unlike a0parts).bind fun r17 =>
(if r17 = true then
((law09_lives ).bind fun r20 => some r20)
else
(if 12 < (a2raw.length : Int) then
((law09_lives ).bind fun r23 => some r23)
else
((field_New ).bind fun r25 =>
((law08_Unlike a1xs (wI ((a0parts.length : Int) + 2))).bind fun r27 =>
((iterC (fun s29 : List Int × List (List UInt8) × Int =>
(if s29.2.2 < (r27.length : Int) then
((idx r27 s29.2.2).bind fun c32 =>
((code_Piece r25 a0parts (c32.toNat : Int)).bind fun r33 =>
(if r33.2 = 0 then
((appL s29.1 (([(c32.toNat : Int)] : List Int))).bind fun c38 =>
((appL s29.2.1 (([r33.1] : List (List UInt8)))).bind fun c44 => some (.inl (c38, c44, (wI (s29.2.2 + 1))))))
else some (.inr (.inr false)))))
else some (.inr (.inl (s29.1, s29.2.1))))) (([] : List Int), ([] : List (List UInt8)), 0)).bind (Sum.elim (fun y29 =>
((iterC (fun s52 : Int =>
(if s52 < ((([0, 1, 2] : List Int)).length : Int) then
((idx (([0, 1, 2] : List Int)) s52).bind fun c55 =>
((subL y29.1 c55 ((y29.1.length : Int))).bind fun c58 =>
((subL y29.2 c55 ((y29.2.length : Int))).bind fun c59 =>
((code_Decode r25 (a0parts.length : Int) c58 c59).bind fun r60 =>
(if r60.2 = 0 then
(if (r60.1.length : Int) = (a0parts.length : Int) then
((iterC (fun s64 : Int =>
(if s64 < (r60.1.length : Int) then
((idx r60.1 s64).bind fun c69 =>
((idx a0parts s64).bind fun c71 =>
(if c69 = c71 then some (.inl (wI (s64 + 1)))
else some (.inr (.inr false)))))
else some (.inr (.inl ())))) 0).bind (Sum.elim (fun y64 => some (.inl (wI (s52 + 1)))) (fun q64 => some (.inr (.inr q64)))))
else some (.inr (.inr false)))
else some (.inr (.inr false)))))))
else some (.inr (.inl ())))) 0).bind (Sum.elim (fun y52 =>
((subL y29.1 0 ((wI ((a0parts.length : Int) - 1)))).bind fun c81 =>
((subL y29.2 0 ((wI ((a0parts.length : Int) - 1)))).bind fun c82 =>
((code_Decode r25 (a0parts.length : Int) c81 c82).bind fun r83 =>
((subL y29.2 1 ((y29.2.length : Int))).bind fun c85 =>
((code_Decode r25 (a0parts.length : Int) y29.1 c85).bind fun r86 =>
((code_Decode r25 0 y29.1 y29.2).bind fun r88 =>
(if r83.2 = 5 then
(if r86.2 = 1 then
(if r88.2 = 2 then
((iterC (fun s98 : List (List UInt8) × Int × Int =>
(if s98.2.2 < (a2raw.length : Int) then
((idx a2raw s98.2.2).bind fun c101 =>
((remI s98.2.2 ((a0parts.length : Int))).bind fun c102 =>
((idx a0parts c102).bind fun c103 =>
((appL s98.1 (([c103] : List (List UInt8)))).bind fun c107 =>
(if s98.2.2 < (a0parts.length : Int) then
(if c101 < 1 then some (.inl (c107, 2, (wI (s98.2.2 + 1))))
else
(if 255 < c101 then some (.inl (c107, 2, (wI (s98.2.2 + 1))))
else some (.inl (c107, s98.2.1, (wI (s98.2.2 + 1))))))
else some (.inl (c107, s98.2.1, (wI (s98.2.2 + 1)))))))))
else some (.inr (s98.1, s98.2.1)))) (([] : List (List UInt8)), 0, 0)).bind fun x98 =>
((iterC (fun s116 : Int × (List (Int × Bool)) × Int =>
(if s116.2.2 < (a2raw.length : Int) then
((idx a2raw s116.2.2).bind fun c119 =>
(if s116.2.2 < (a0parts.length : Int) then
(if s116.1 = 0 then
(if (mgetI s116.2.1 c119) = true then some (.inl (6, (mputI s116.2.1 c119 true), (wI (s116.2.2 + 1))))
else some (.inl (s116.1, (mputI s116.2.1 c119 true), (wI (s116.2.2 + 1)))))
else some (.inl (s116.1, (mputI s116.2.1 c119 true), (wI (s116.2.2 + 1)))))
else some (.inl (s116.1, (mputI s116.2.1 c119 true), (wI (s116.2.2 + 1))))))
else some (.inr s116.1))) (x98.2, ([] : List (Int × Bool)), 0)).bind fun x116 =>
(((if (a2raw.length : Int) < (a0parts.length : Int) then some 5
else some x116)).bind fun x133 =>
((code_Decode r25 (a0parts.length : Int) a2raw x98.1).bind fun r136 => some (decide (r136.2 = x133))))))
else some false)
else some false)
else some false)))))))) (fun q52 => some q52)))) (fun q29 => some q29))))))))))))))
set_option maxRecDepth 100000 in
set_option maxHeartbeats 8000000 in
theorem law09_CodeDecodes_calls (a0parts : List (List UInt8)) (a1xs : List UInt8) (a2raw : List Int) (p0 : Value) (p1 : Value) (p2 : Value) (r : Bool) (w0 : World) (hp0 : Rw w0 [] p0 a0parts) (hp1 : By w0 [] p1 a1xs) (hp2 : In w0 [] p2 a2raw) (H : law09_CodeDecodes a0parts a1xs a2raw = some r) :
    Calls Try.prog 10 [p0, p1, p2].toArray w0 (fun e w' => e = .returned (.bool r) ∧ Ext w0 w') := by
  have hE : Ext w0 w0 := Ext.refl w0
  unfold law09_CodeDecodes at H
  refine calls_W (n := 244) Try.func10 rfl rfl rfl ?_
  refine W_seq ?_
  refine W_reg (by kernel_rfl) ?_
  refine wla rfl rfl (q_assign (v := (.bool false)) rfl rfl) ?_
  refine wl_nil ?_
  refine W_th ?_
  refine W_seq ?_
  refine W_seq ?_
  refine W_reg (by kernel_rfl) ?_
  obtain ⟨r1, hr1, H⟩ := Option.bind_eq_some_iff.1 H
  refine wls rfl rfl (stp_call (vs := []) Try.func30 rfl rfl rfl (ar0 ) (law09_lives_calls   r1 _  hr1) ?_)
  rintro _ w1 ⟨rfl, x1⟩
  refine ⟨_, rfl, ?_⟩
  have e2 := hE.trans x1
  refine wla rfl rfl (q_not rfl rfl) ?_
  refine wlb rfl rfl (q_move (v := (.bool ((!r1)))) rfl rfl) (fun hb3 => ?_) (fun hb3 => ?_)
  · replace H := (if_pos hb3).symm.trans H
    refine wlk rfl rfl ?_
    refine wlk rfl rfl ?_
    refine wlk rfl rfl ?_
    refine wla rfl rfl (q_pick_t (v := (.bool true)) rfl rfl rfl) ?_
    refine wla rfl rfl (q_move (v := (.bool true)) rfl rfl) ?_
    refine wlk rfl rfl ?_
    refine wlk rfl rfl ?_
    refine wlk rfl rfl ?_
    refine wla rfl rfl (q_pick_t (v := (.bool true)) rfl rfl rfl) ?_
    refine wla rfl rfl (q_move (v := (.bool true)) rfl rfl) ?_
    refine wlk rfl rfl ?_
    refine wlk rfl rfl ?_
    refine wlk rfl rfl ?_
    refine wla rfl rfl (q_pick_t (v := (.bool true)) rfl rfl rfl) ?_
    refine wla rfl rfl (q_move (v := (.bool true)) rfl rfl) ?_
    refine wlk rfl rfl ?_
    refine wlk rfl rfl ?_
    refine wla rfl rfl (q_pick_t (v := (.bool true)) rfl rfl rfl) ?_
    refine wla rfl rfl (q_move (v := (.bool true)) rfl rfl) ?_
    refine wlk rfl rfl ?_
    refine wlk rfl rfl ?_
    refine wlk rfl rfl ?_
    refine wla rfl rfl (q_pick_t (v := (.bool true)) rfl rfl rfl) ?_
    refine wl_nil ?_
    refine W_th ?_
    refine W_cond true rfl rfl (fun _ => ?_) (fun hb => by cases hb)
    refine W_seq ?_
    refine W_reg (by kernel_rfl) ?_
    obtain ⟨r4, hr4, H⟩ := Option.bind_eq_some_iff.1 H
    refine wls rfl rfl (stp_call (vs := []) Try.func30 rfl rfl rfl (ar0 ) (law09_lives_calls   r4 _  hr4) ?_)
    rintro _ w4 ⟨rfl, x4⟩
    refine ⟨_, rfl, ?_⟩
    have e5 := e2.trans x4
    refine wla rfl rfl (q_assign (v := (.bool r4)) rfl rfl) ?_
    refine wl_nil ?_
    refine W_th ?_
    refine W_ret ?_
    refine th_r ?_
    obtain rfl := Option.some.inj H
    refine rt1 (.bool r4) rfl rfl rfl rfl ?_
    exact ⟨rfl, e5⟩
  · replace H := (if_neg (ne_true_of_eq_false hb3)).symm.trans H
    refine wla rfl rfl (q_move (v := p0) rfl rfl) ?_
    obtain ⟨r6, hr6, H⟩ := Option.bind_eq_some_iff.1 H
    refine wls rfl rfl (stp_call (vs := [p0]) Try.func31 rfl rfl rfl (ar1 rfl) (law09_few_calls a0parts p0 r6 _ (hp0.lift (Lift.ext e2 _)) hr6) ?_)
    rintro _ w6 ⟨rfl, x6⟩
    refine ⟨_, rfl, ?_⟩
    have e7 := e2.trans x6
    refine wla rfl rfl (q_not rfl rfl) ?_
    refine wla rfl rfl (q_pick_f (v := (.bool ((!r6)))) rfl rfl rfl) ?_
    refine wlb rfl rfl (q_move (v := (.bool ((!r6)))) rfl rfl) (fun hb8 => ?_) (fun hb8 => ?_)
    · replace H := (if_pos hb8).symm.trans H
      refine wlk rfl rfl ?_
      refine wlk rfl rfl ?_
      refine wlk rfl rfl ?_
      refine wla rfl rfl (q_pick_t (v := (.bool true)) rfl rfl rfl) ?_
      refine wla rfl rfl (q_move (v := (.bool true)) rfl rfl) ?_
      refine wlk rfl rfl ?_
      refine wlk rfl rfl ?_
      refine wlk rfl rfl ?_
      refine wla rfl rfl (q_pick_t (v := (.bool true)) rfl rfl rfl) ?_
      refine wla rfl rfl (q_move (v := (.bool true)) rfl rfl) ?_
      refine wlk rfl rfl ?_
      refine wlk rfl rfl ?_
      refine wla rfl rfl (q_pick_t (v := (.bool true)) rfl rfl rfl) ?_
      refine wla rfl rfl (q_move (v := (.bool true)) rfl rfl) ?_
      refine wlk rfl rfl ?_
      refine wlk rfl rfl ?_
      refine wlk rfl rfl ?_
      refine wla rfl rfl (q_pick_t (v := (.bool true)) rfl rfl rfl) ?_
      refine wl_nil ?_
      refine W_th ?_
      refine W_cond true rfl rfl (fun _ => ?_) (fun hb => by cases hb)
      refine W_seq ?_
      refine W_reg (by kernel_rfl) ?_
      obtain ⟨r9, hr9, H⟩ := Option.bind_eq_some_iff.1 H
      refine wls rfl rfl (stp_call (vs := []) Try.func30 rfl rfl rfl (ar0 ) (law09_lives_calls   r9 _  hr9) ?_)
      rintro _ w9 ⟨rfl, x9⟩
      refine ⟨_, rfl, ?_⟩
      have e10 := e7.trans x9
      refine wla rfl rfl (q_assign (v := (.bool r9)) rfl rfl) ?_
      refine wl_nil ?_
      refine W_th ?_
      refine W_ret ?_
      refine th_r ?_
      obtain rfl := Option.some.inj H
      refine rt1 (.bool r9) rfl rfl rfl rfl ?_
      exact ⟨rfl, e10⟩
    · replace H := (if_neg (ne_true_of_eq_false hb8)).symm.trans H
      refine wla rfl rfl (q_move (v := p0) rfl rfl) ?_
      refine wla rfl rfl (q_len rfl T23.sl rfl (hp0.lift (Lift.ext e7 _))) ?_
      refine wla rfl rfl (q_eqI rfl rfl rfl) ?_
      refine wla rfl rfl (q_pick_f (v := (.bool ((decide ((a0parts.length : Int) = 0))))) rfl rfl rfl) ?_
      refine wlb rfl rfl (q_move (v := (.bool ((decide ((a0parts.length : Int) = 0))))) rfl rfl) (fun hb11 => ?_) (fun hb11 => ?_)
      · replace H := (if_pos (of_decide_eq_true hb11)).symm.trans H
        refine wlk rfl rfl ?_
        refine wlk rfl rfl ?_
        refine wlk rfl rfl ?_
        refine wla rfl rfl (q_pick_t (v := (.bool true)) rfl rfl rfl) ?_
        refine wla rfl rfl (q_move (v := (.bool true)) rfl rfl) ?_
        refine wlk rfl rfl ?_
        refine wlk rfl rfl ?_
        refine wla rfl rfl (q_pick_t (v := (.bool true)) rfl rfl rfl) ?_
        refine wla rfl rfl (q_move (v := (.bool true)) rfl rfl) ?_
        refine wlk rfl rfl ?_
        refine wlk rfl rfl ?_
        refine wlk rfl rfl ?_
        refine wla rfl rfl (q_pick_t (v := (.bool true)) rfl rfl rfl) ?_
        refine wl_nil ?_
        refine W_th ?_
        refine W_cond true rfl rfl (fun _ => ?_) (fun hb => by cases hb)
        refine W_seq ?_
        refine W_reg (by kernel_rfl) ?_
        obtain ⟨r12, hr12, H⟩ := Option.bind_eq_some_iff.1 H
        refine wls rfl rfl (stp_call (vs := []) Try.func30 rfl rfl rfl (ar0 ) (law09_lives_calls   r12 _  hr12) ?_)
        rintro _ w12 ⟨rfl, x12⟩
        refine ⟨_, rfl, ?_⟩
        have e13 := e7.trans x12
        refine wla rfl rfl (q_assign (v := (.bool r12)) rfl rfl) ?_
        refine wl_nil ?_
        refine W_th ?_
        refine W_ret ?_
        refine th_r ?_
        obtain rfl := Option.some.inj H
        refine rt1 (.bool r12) rfl rfl rfl rfl ?_
        exact ⟨rfl, e13⟩
      · replace H := (if_neg (of_decide_eq_false hb11)).symm.trans H
        refine wla rfl rfl (q_move (v := p0) rfl rfl) ?_
        refine wla rfl rfl (q_len rfl T23.sl rfl (hp0.lift (Lift.ext e7 _))) ?_
        refine wla rfl rfl (q_gtI rfl rfl rfl) ?_
        refine wla rfl rfl (q_pick_f (v := (.bool ((decide (8 < (a0parts.length : Int)))))) rfl rfl rfl) ?_
        refine wlb rfl rfl (q_move (v := (.bool ((decide (8 < (a0parts.length : Int)))))) rfl rfl) (fun hb14 => ?_) (fun hb14 => ?_)
        · replace H := (if_pos (of_decide_eq_true hb14)).symm.trans H
          refine wlk rfl rfl ?_
          refine wlk rfl rfl ?_
          refine wla rfl rfl (q_pick_t (v := (.bool true)) rfl rfl rfl) ?_
          refine wla rfl rfl (q_move (v := (.bool true)) rfl rfl) ?_
          refine wlk rfl rfl ?_
          refine wlk rfl rfl ?_
          refine wlk rfl rfl ?_
          refine wla rfl rfl (q_pick_t (v := (.bool true)) rfl rfl rfl) ?_
          refine wl_nil ?_
          refine W_th ?_
          refine W_cond true rfl rfl (fun _ => ?_) (fun hb => by cases hb)
          refine W_seq ?_
          refine W_reg (by kernel_rfl) ?_
          obtain ⟨r15, hr15, H⟩ := Option.bind_eq_some_iff.1 H
          refine wls rfl rfl (stp_call (vs := []) Try.func30 rfl rfl rfl (ar0 ) (law09_lives_calls   r15 _  hr15) ?_)
          rintro _ w15 ⟨rfl, x15⟩
          refine ⟨_, rfl, ?_⟩
          have e16 := e7.trans x15
          refine wla rfl rfl (q_assign (v := (.bool r15)) rfl rfl) ?_
          refine wl_nil ?_
          refine W_th ?_
          refine W_ret ?_
          refine th_r ?_
          obtain rfl := Option.some.inj H
          refine rt1 (.bool r15) rfl rfl rfl rfl ?_
          exact ⟨rfl, e16⟩
        · replace H := (if_neg (of_decide_eq_false hb14)).symm.trans H
          refine wla rfl rfl (q_move (v := p0) rfl rfl) ?_
          obtain ⟨r17, hr17, H⟩ := Option.bind_eq_some_iff.1 H
          refine wls rfl rfl (stp_call (vs := [p0]) Try.func32 rfl rfl rfl (ar1 rfl) (law09_unlike_calls a0parts p0 r17 _ (hp0.lift (Lift.ext e7 _)) hr17) ?_)
          rintro _ w17 ⟨rfl, x17⟩
          refine ⟨_, rfl, ?_⟩
          have e18 := e7.trans x17
          refine wla rfl rfl (q_pick_f (v := (.bool r17)) rfl rfl rfl) ?_
          refine wlb rfl rfl (q_move (v := (.bool r17)) rfl rfl) (fun hb19 => ?_) (fun hb19 => ?_)
          · replace H := (if_pos hb19).symm.trans H
            refine wlk rfl rfl ?_
            refine wlk rfl rfl ?_
            refine wlk rfl rfl ?_
            refine wla rfl rfl (q_pick_t (v := (.bool true)) rfl rfl rfl) ?_
            refine wl_nil ?_
            refine W_th ?_
            refine W_cond true rfl rfl (fun _ => ?_) (fun hb => by cases hb)
            refine W_seq ?_
            refine W_reg (by kernel_rfl) ?_
            obtain ⟨r20, hr20, H⟩ := Option.bind_eq_some_iff.1 H
            refine wls rfl rfl (stp_call (vs := []) Try.func30 rfl rfl rfl (ar0 ) (law09_lives_calls   r20 _  hr20) ?_)
            rintro _ w20 ⟨rfl, x20⟩
            refine ⟨_, rfl, ?_⟩
            have e21 := e18.trans x20
            refine wla rfl rfl (q_assign (v := (.bool r20)) rfl rfl) ?_
            refine wl_nil ?_
            refine W_th ?_
            refine W_ret ?_
            refine th_r ?_
            obtain rfl := Option.some.inj H
            refine rt1 (.bool r20) rfl rfl rfl rfl ?_
            exact ⟨rfl, e21⟩
          · replace H := (if_neg (ne_true_of_eq_false hb19)).symm.trans H
            refine wla rfl rfl (q_move (v := p2) rfl rfl) ?_
            refine wla rfl rfl (q_len rfl T58.sl rfl (hp2.lift (Lift.ext e18 _))) ?_
            refine wla rfl rfl (q_gtI rfl rfl rfl) ?_
            refine wla rfl rfl (q_pick_f (v := (.bool ((decide (12 < (a2raw.length : Int)))))) rfl rfl rfl) ?_
            refine wl_nil ?_
            refine W_th ?_
            refine W_cond _ rfl rfl (fun hb22 => ?_) (fun hb22 => ?_)
            · replace H := (if_pos (of_decide_eq_true hb22)).symm.trans H
              refine W_seq ?_
              refine W_reg (by kernel_rfl) ?_
              obtain ⟨r23, hr23, H⟩ := Option.bind_eq_some_iff.1 H
              refine wls rfl rfl (stp_call (vs := []) Try.func30 rfl rfl rfl (ar0 ) (law09_lives_calls   r23 _  hr23) ?_)
              rintro _ w23 ⟨rfl, x23⟩
              refine ⟨_, rfl, ?_⟩
              have e24 := e18.trans x23
              refine wla rfl rfl (q_assign (v := (.bool r23)) rfl rfl) ?_
              refine wl_nil ?_
              refine W_th ?_
              refine W_ret ?_
              refine th_r ?_
              obtain rfl := Option.some.inj H
              refine rt1 (.bool r23) rfl rfl rfl rfl ?_
              exact ⟨rfl, e24⟩
            · replace H := (if_neg (of_decide_eq_false hb22)).symm.trans H
              refine W_skip ?_
              refine W_th ?_
              refine W_seq ?_
              refine W_reg (by kernel_rfl) ?_
              obtain ⟨r25, hr25, H⟩ := Option.bind_eq_some_iff.1 H
              refine wls rfl rfl (stp_call (vs := []) Try.func14 rfl rfl rfl (ar0 ) (field_New_calls   r25 _ [] (Old.nil _)  hr25) ?_)
              rintro _ w25 ⟨v25, rfl, x25, i25_0⟩
              refine ⟨_, rfl, ?_⟩
              have e26 := e18.trans x25
              refine wla rfl rfl (q_assign (v := v25) rfl rfl) ?_
              refine wl_nil ?_
              refine W_th ?_
              refine W_seq ?_
              refine W_reg (by kernel_rfl) ?_
              refine wla rfl rfl (q_move (v := p0) rfl rfl) ?_
              refine wla rfl rfl (q_len rfl T23.sl rfl (hp0.lift (Lift.ext e26 _))) ?_
              refine wla rfl rfl (q_assign (v := (i64 ((a0parts.length : Int)))) rfl rfl) ?_
              refine wl_nil ?_
              refine W_th ?_
              refine W_seq ?_
              refine W_reg (by kernel_rfl) ?_
              refine wla rfl rfl (q_assign (v := (.slice none 0 0)) rfl rfl) ?_
              refine wl_nil ?_
              refine W_th ?_
              refine W_seq ?_
              refine W_reg (by kernel_rfl) ?_
              refine wla rfl rfl (q_assign (v := (.slice none 0 0)) rfl rfl) ?_
              refine wl_nil ?_
              refine W_th ?_
              refine W_seq ?_
              refine W_seq ?_
              refine W_reg (by kernel_rfl) ?_
              refine wla rfl rfl (q_move (v := p1) rfl rfl) ?_
              refine wla rfl rfl (q_move (v := (i64 ((a0parts.length : Int)))) rfl rfl) ?_
              refine wla rfl rfl (q_addI rfl rfl rfl) ?_
              obtain ⟨r27, hr27, H⟩ := Option.bind_eq_some_iff.1 H
              refine wls rfl rfl (stp_call (vs := [p1, (i64 ((wI ((a0parts.length : Int) + 2))))]) Try.func23 rfl rfl rfl (ar2 rfl rfl) (law08_Unlike_calls a1xs (wI ((a0parts.length : Int) + 2)) p1 r27 _ (hp1.lift (Lift.ext e26 _)) hr27) ?_)
              rintro _ w27 ⟨v27, rfl, x27, n27_0, o27_0⟩
              refine ⟨_, rfl, ?_⟩
              have i27_0 : By w27 [] v27 r27 := OwK.slk (Sc.stab _) _ (OwK.scal o27_0 (v27 :: [])) (fun k hk => (Old.nil _) k (n27_0 k hk)) (fun _ h => h.2)
              replace i25_0 := i25_0.lift (Lift.ext x27 _)
              have e28 := e26.trans x27
              refine wla rfl rfl (q_len rfl T22.sl rfl i27_0) ?_
              refine wla rfl rfl (q_move (v := (i64 0)) rfl rfl) ?_
              refine wl_nil ?_
              refine W_th ?_
              obtain ⟨x29, G29, H⟩ := Option.bind_eq_some_iff.1 H
              refine W_mid (fun f w => ∃ y29, x29 = .inl y29 ∧ ∃ v9_142 : Value, ∃ v10_142 : Value, f 0 = p0 ∧ f 2 = p2 ∧ f 7 = v25 ∧ f 8 = (i64 ((a0parts.length : Int))) ∧ f 9 = v9_142 ∧ f 10 = v10_142 ∧ f 244 = undef ∧ Ext w0 w ∧ OwK (Sc i64) w [v9_142, v10_142] 3 v9_142 y29.1 ∧ Nw w0 v9_142 ∧ OwK By w [v9_142, v10_142] 22 v10_142 y29.2 ∧ Nw w0 v10_142 ∧ Nq v9_142 v10_142 ∧ Fd w [v9_142, v10_142] v25 r25) ?_ ?_
              · refine W_block ?_
                refine W_loop (fun s29 f w => ∃ v9_48 : Value, ∃ v10_48 : Value, f 0 = p0 ∧ f 2 = p2 ∧ f 7 = v25 ∧ f 8 = (i64 ((a0parts.length : Int))) ∧ f 9 = v9_48 ∧ f 10 = v10_48 ∧ f 68 = v27 ∧ f 69 = (i64 ((r27.length : Int))) ∧ f 70 = (i64 s29.2.2) ∧ f 244 = undef ∧ Ext w0 w ∧ OwK (Sc i64) w [v9_48, v10_48] 3 v9_48 s29.1 ∧ Nw w0 v9_48 ∧ OwK By w [v9_48, v10_48] 22 v10_48 s29.2.1 ∧ Nw w0 v10_48 ∧ Nq v9_48 v10_48 ∧ Fd w [v9_48, v10_48] v25 r25 ∧ By w [v9_48, v10_48] v27 r27) G29 ?_ ?_
                · exact ⟨(.slice none 0 0), (.slice none 0 0), rfl, rfl, rfl, rfl, rfl, rfl, rfl, rfl, rfl, rfl, e28, (OwK.nil _ _ _ _), (Nw.nil _), (OwK.nil _ _ _ _), (Nw.nil _), (Nq.nil _), (i25_0.lift (Lift.sub (fun _ h => ⟨nh_nil, nh_nil, trivial⟩))), (i27_0.lift (Lift.sub (fun _ h => ⟨nh_nil, nh_nil, trivial⟩)))⟩
                · rintro s29 _ _ w30 ⟨v9_30, v10_30, s0_30, s2_30, s7_30, s8_30, s9_30, s10_30, s68_30, s69_30, s70_30, s244_30, hE30, o0_30, n0_30, o1_30, n1_30, q0_1_30, i0_30, i1_30⟩ H29 hr29
                  refine W_seq ?_
                  refine W_reg (by kernel_rfl) ?_
                  refine wla rfl rfl (q_ltI rfl s70_30 s69_30) ?_
                  refine wl_nil ?_
                  refine W_th ?_
                  refine W_seq ?_
                  refine W_cond _ rfl rfl (fun hb31 => ?_) (fun hb31 => ?_)
                  · replace H29 := (if_pos (of_decide_eq_true hb31)).symm.trans H29
                    refine W_skip ?_
                    refine W_th ?_
                    refine W_seq ?_
                    refine W_block ?_
                    refine W_seq ?_
                    refine W_reg (by kernel_rfl) ?_
                    obtain ⟨c32, hc32, H29⟩ := Option.bind_eq_some_iff.1 H29
                    refine wla rfl rfl (q_adr rfl T22 s68_30 s70_30 i1_30 hc32) ?_
                    refine wlq rfl rfl (q_loadS rfl T22 rfl i1_30 hc32) ?_
                    refine wla rfl rfl (q_assign (v := (u8 c32)) rfl rfl) ?_
                    refine wl_nil ?_
                    refine W_th ?_
                    refine W_seq ?_
                    refine W_reg (by kernel_rfl) ?_
                    refine wla rfl rfl (q_move (v := v25) rfl s7_30) ?_
                    refine wla rfl rfl (q_move (v := p0) rfl s0_30) ?_
                    refine wla rfl rfl (q_move (v := (u8 c32)) rfl rfl) ?_
                    refine wla rfl rfl (q_cvtI8 rfl rfl rfl rfl) ?_
                    obtain ⟨r33, hr33, H29⟩ := Option.bind_eq_some_iff.1 H29
                    refine wls rfl rfl (stp_call (vs := [v25, p0, (i64 ((c32.toNat : Int)))]) Try.func34 rfl rfl rfl (ar3 rfl rfl rfl) (code_Piece_calls r25 a0parts (c32.toNat : Int) v25 p0 r33 _ (i0_30.lift (Lift.sub (fun _ _ => trivial))) (hp0.lift (Lift.ext hE30 _)) hr33) ?_)
                    rintro _ w33 ⟨v33_0, rfl, x33, n33_0, o33_0⟩
                    refine ⟨_, rfl, ?_⟩
                    have i33_0 : By w33 [v9_30, v10_30] v33_0 r33.1 := OwK.slk (Sc.stab _) _ (OwK.scal o33_0 (v33_0 :: [v9_30, v10_30])) (fun k hk => (Old.cons (Old.cons (Old.nil _) o1_30.lt) o0_30.lt) k (n33_0 k hk)) (fun _ h => h.2)
                    replace i0_30 := i0_30.lift (Lift.ext x33 _)
                    replace i1_30 := i1_30.lift (Lift.ext x33 _)
                    replace o0_30 := o0_30.extL (Sc.stab _) x33 (Lift.ext x33 _)
                    replace o1_30 := o1_30.extL (SlK.stab (Sc.stab _)) x33 (Lift.ext x33 _)
                    have e34 := hE30.trans x33
                    refine wla rfl rfl (q_move (v := (.tuple #[v33_0, (i64 r33.2)])) rfl rfl) ?_
                    refine wla rfl rfl (q_extract rfl rfl rfl) ?_
                    refine wla rfl rfl (q_extract rfl rfl rfl) ?_
                    refine wla rfl rfl (q_assign (v := v33_0) rfl rfl) ?_
                    refine wla rfl rfl (q_assign (v := (i64 r33.2)) rfl rfl) ?_
                    refine wl_nil ?_
                    refine W_th ?_
                    refine W_seq ?_
                    refine W_seq ?_
                    refine W_reg (by kernel_rfl) ?_
                    refine wla rfl rfl (q_move (v := (i64 r33.2)) rfl rfl) ?_
                    refine wla rfl rfl (q_neI rfl rfl rfl) ?_
                    refine wl_nil ?_
                    refine W_th ?_
                    refine W_cond _ rfl rfl (fun hb35 => ?_) (fun hb35 => ?_)
                    · replace H29 := (if_neg (ndec_t hb35)).symm.trans H29
                      refine W_seq ?_
                      refine W_reg (by kernel_rfl) ?_
                      refine wla rfl rfl (q_assign (v := (.bool false)) rfl rfl) ?_
                      refine wl_nil ?_
                      refine W_th ?_
                      refine W_ret ?_
                      refine th_r ?_
                      refine bk_r ?_
                      refine th_r ?_
                      obtain rfl := Option.some.inj H29
                      obtain rfl := hr29 _ rfl
                      simp only [Sum.elim_inr] at H
                      refine th_r ?_
                      refine bk_r ?_
                      refine th_r ?_
                      refine th_r ?_
                      obtain rfl := Option.some.inj H
                      refine rt1 (.bool false) rfl rfl rfl s244_30 ?_
                      exact ⟨rfl, e34⟩
                    · replace H29 := (if_pos (ndec_f hb35)).symm.trans H29
                      refine W_skip ?_
                      refine W_th ?_
                      refine W_reg (by kernel_rfl) ?_
                      refine wla rfl rfl (q_move (v := v9_30) rfl s9_30) ?_
                      refine wla rfl rfl (q_move (v := (u8 c32)) rfl rfl) ?_
                      refine wla rfl rfl (q_cvtI8 rfl rfl rfl rfl) ?_
                      refine wls rfl rfl (stp_lit (L := [v9_30, v10_30]) (R := (Sc i64)) [(i64 ((c32.toNat : Int)))] ([(c32.toNat : Int)] : List Int) rfl T58 rfl (by exact ⟨rfl, rfl, trivial⟩) rfl (litC i64 (oneC_i64) (us := [(i64 ((c32.toNat : Int)))]) (l := ([(c32.toNat : Int)] : List Int)) rfl) rfl (litS i64 (us := [(i64 ((c32.toNat : Int)))]) (l := ([(c32.toNat : Int)] : List Int)) rfl) ?_)
                      intro v36 w36 o36 n36 g36 l36
                      have x36 := grown_ext g36
                      have i36 : In w36 [v9_30, v10_30] v36 (([(c32.toNat : Int)] : List Int)) := OwK.slk (Sc.stab _) _ o36 (fun k hk => (Old.cons (Old.cons (Old.nil _) o1_30.lt) o0_30.lt) k (n36 k hk)) (fun _ h => h.2)
                      replace i0_30 := i0_30.lift (Lift.ext x36 _)
                      replace i1_30 := i1_30.lift (Lift.ext x36 _)
                      replace i33_0 := i33_0.lift (Lift.ext x36 _)
                      replace o0_30 := o0_30.extL (Sc.stab _) x36 (Lift.ext x36 _)
                      replace o1_30 := o1_30.extL (SlK.stab (Sc.stab _)) x36 (Lift.ext x36 _)
                      have e37 := e34.trans x36
                      obtain ⟨c38, hc38, H29⟩ := Option.bind_eq_some_iff.1 H29
                      refine wls rfl rfl (stp_append (R := (Sc i64)) (v := v9_30) (u := v36) (Sc.stab _) [] [v10_30] rfl T58 rfl rfl o0_30 i36 (fun _ _ h => h) hc38 oc_i64 ?_)
                      intro v38 w38 o38 g38 nx38 l38
                      replace i0_30 := i0_30.lift l38
                      replace i1_30 := i1_30.lift l38
                      replace i33_0 := i33_0.lift l38
                      replace i36 := i36.lift l38
                      have q39 : Nq v10_30 v38 := o1_30.nxt q0_1_30.symm nx38
                      replace o1_30 := o1_30.other (SlK.stab (Sc.stab _)) g38 q0_1_30.symm l38
                      have e40 := e37.grown g38 n0_30
                      have n41 := Nw.nxt e37 n0_30 nx38
                      refine wla rfl rfl (q_move (v := v10_30) rfl s10_30) ?_
                      refine wla rfl rfl (q_move (v := v33_0) rfl rfl) ?_
                      refine wls rfl rfl (stp_lit (L := [v38, v10_30]) (R := By) [v33_0] ([r33.1] : List (List UInt8)) rfl T23 rfl (by exact ⟨rfl, rfl, trivial⟩) rfl (LitR.cells (R := By) (w := w38) (L := [v38, v10_30]) (l := ([r33.1] : List (List UInt8))) (LitR.cons i33_0 LitR.nil) (fun u x h => cells_sl u x h)) rfl (LitR.all (R := By) (w := w38) (L := [v38, v10_30]) (l := ([r33.1] : List (List UInt8))) (SlK.stab (Sc.stab _)) (LitR.cons i33_0 LitR.nil)) ?_)
                      intro v42 w42 o42 n42 g42 l42
                      have x42 := grown_ext g42
                      have i42 : Rw w42 [v38, v10_30] v42 (([r33.1] : List (List UInt8))) := OwK.slk (SlK.stab (Sc.stab _)) _ o42 (fun k hk => (Old.cons (Old.cons (Old.nil _) o1_30.lt) o38.lt) k (n42 k hk)) (fun _ h => h.2)
                      replace i0_30 := i0_30.lift (Lift.ext x42 _)
                      replace i1_30 := i1_30.lift (Lift.ext x42 _)
                      replace i33_0 := i33_0.lift (Lift.ext x42 _)
                      replace i36 := i36.lift (Lift.ext x42 _)
                      replace o38 := o38.extL (Sc.stab _) x42 (Lift.ext x42 _)
                      replace o1_30 := o1_30.extL (SlK.stab (Sc.stab _)) x42 (Lift.ext x42 _)
                      have e43 := e40.trans x42
                      obtain ⟨c44, hc44, H29⟩ := Option.bind_eq_some_iff.1 H29
                      refine wls rfl rfl (stp_append (R := By) (v := v10_30) (u := v42) (SlK.stab (Sc.stab _)) [v38] [] rfl T23 rfl rfl o1_30 i42 (fun _ _ h => h) hc44 oc_sl ?_)
                      intro v44 w44 o44 g44 nx44 l44
                      replace i0_30 := i0_30.lift l44
                      replace i1_30 := i1_30.lift l44
                      replace i33_0 := i33_0.lift l44
                      replace i36 := i36.lift l44
                      replace i42 := i42.lift l44
                      have q45 : Nq v38 v44 := o38.nxt q39.symm nx44
                      replace o38 := o38.other (Sc.stab _) g44 q39.symm l44
                      have e46 := e43.grown g44 n1_30
                      have n47 := Nw.nxt e43 n1_30 nx44
                      refine wla rfl rfl (q_assign (v := v38) rfl rfl) ?_
                      refine wla rfl rfl (q_assign (v := v44) rfl rfl) ?_
                      refine wl_nil ?_
                      refine bk_n ?_
                      refine W_th ?_
                      refine W_reg (by kernel_rfl) ?_
                      refine wla rfl rfl (q_addI rfl s70_30 rfl) ?_
                      refine wla rfl rfl (q_move (v := (i64 ((wI (s29.2.2 + 1))))) rfl rfl) ?_
                      refine wl_nil ?_
                      obtain rfl := Option.some.inj H29
                      exact ⟨_, rfl, v38, v44, s0_30, s2_30, s7_30, s8_30, rfl, rfl, s68_30, s69_30, rfl, s244_30, e46, o38, n41, o44, n47, q45, i0_30, i1_30⟩
                  · replace H29 := (if_neg (of_decide_eq_false hb31)).symm.trans H29
                    refine W_exit ?_
                    refine th_x ?_
                    obtain rfl := Option.some.inj H29
                    obtain rfl := hr29 _ rfl
                    refine th_x ?_
                    refine bk_x ?_
                    exact ⟨_, rfl, v9_30, v10_30, s0_30, s2_30, s7_30, s8_30, s9_30, s10_30, s244_30, hE30, o0_30, n0_30, o1_30, n1_30, q0_1_30, i0_30⟩
              · rintro _ w49 ⟨y29, rfl, v9_49, v10_49, s0_49, s2_49, s7_49, s8_49, s9_49, s10_49, s244_49, hE49, o0_49, n0_49, o1_49, n1_49, q0_1_49, i0_49⟩
                simp only [Sum.elim_inl] at H
                refine W_th ?_
                refine W_seq ?_
                refine W_seq ?_
                refine W_reg (by kernel_rfl) ?_
                refine wls rfl rfl (stp_lit (L := [v9_49, v10_49]) (R := (Sc i64)) [(i64 0), (i64 1), (i64 2)] ([0, 1, 2] : List Int) rfl T58 rfl (by exact ⟨rfl, rfl, rfl, rfl, rfl, rfl, trivial⟩) rfl (litC i64 (oneC_i64) (us := [(i64 0), (i64 1), (i64 2)]) (l := ([0, 1, 2] : List Int)) rfl) rfl (litS i64 (us := [(i64 0), (i64 1), (i64 2)]) (l := ([0, 1, 2] : List Int)) rfl) ?_)
                intro v50 w50 o50 n50 g50 l50
                have x50 := grown_ext g50
                have i50 : In w50 [v9_49, v10_49] v50 (([0, 1, 2] : List Int)) := OwK.slk (Sc.stab _) _ o50 (fun k hk => (Old.cons (Old.cons (Old.nil _) o1_49.lt) o0_49.lt) k (n50 k hk)) (fun _ h => h.2)
                replace i0_49 := i0_49.lift (Lift.ext x50 _)
                replace o0_49 := o0_49.extL (Sc.stab _) x50 (Lift.ext x50 _)
                replace o1_49 := o1_49.extL (SlK.stab (Sc.stab _)) x50 (Lift.ext x50 _)
                have e51 := hE49.trans x50
                refine wla rfl rfl (q_len rfl T58.sl rfl i50) ?_
                refine wla rfl rfl (q_move (v := (i64 0)) rfl rfl) ?_
                refine wl_nil ?_
                refine W_th ?_
                obtain ⟨x52, G52, H⟩ := Option.bind_eq_some_iff.1 H
                refine W_mid (fun f w => ∃ y52, x52 = .inl y52 ∧ f 0 = p0 ∧ f 2 = p2 ∧ f 7 = v25 ∧ f 8 = (i64 ((a0parts.length : Int))) ∧ f 9 = v9_49 ∧ f 10 = v10_49 ∧ f 244 = undef ∧ Ext w0 w ∧ OwK (Sc i64) w [v9_49, v10_49] 3 v9_49 y29.1 ∧ Nw w0 v9_49 ∧ OwK By w [v9_49, v10_49] 22 v10_49 y29.2 ∧ Nw w0 v10_49 ∧ Nq v9_49 v10_49 ∧ Fd w [v9_49, v10_49] v25 r25) ?_ ?_
                · refine W_block ?_
                  refine W_loop (fun s52 f w => f 0 = p0 ∧ f 2 = p2 ∧ f 7 = v25 ∧ f 8 = (i64 ((a0parts.length : Int))) ∧ f 9 = v9_49 ∧ f 10 = v10_49 ∧ f 94 = v50 ∧ f 95 = (i64 (((([0, 1, 2] : List Int)).length : Int))) ∧ f 96 = (i64 s52) ∧ f 244 = undef ∧ Ext w0 w ∧ OwK (Sc i64) w [v9_49, v10_49] 3 v9_49 y29.1 ∧ Nw w0 v9_49 ∧ OwK By w [v9_49, v10_49] 22 v10_49 y29.2 ∧ Nw w0 v10_49 ∧ Nq v9_49 v10_49 ∧ Fd w [v9_49, v10_49] v25 r25 ∧ In w [v9_49, v10_49] v50 (([0, 1, 2] : List Int))) G52 ?_ ?_
                  · exact ⟨s0_49, s2_49, s7_49, s8_49, s9_49, s10_49, rfl, rfl, rfl, s244_49, e51, o0_49, n0_49, o1_49, n1_49, q0_1_49, i0_49, i50⟩
                  · rintro s52 _ _ w53 ⟨s0_53, s2_53, s7_53, s8_53, s9_53, s10_53, s94_53, s95_53, s96_53, s244_53, hE53, o0_53, n0_53, o1_53, n1_53, q0_1_53, i0_53, i1_53⟩ H52 hr52
                    refine W_seq ?_
                    refine W_reg (by kernel_rfl) ?_
                    refine wla rfl rfl (q_ltI rfl s96_53 s95_53) ?_
                    refine wl_nil ?_
                    refine W_th ?_
                    refine W_seq ?_
                    refine W_cond _ rfl rfl (fun hb54 => ?_) (fun hb54 => ?_)
                    · replace H52 := (if_pos (of_decide_eq_true hb54)).symm.trans H52
                      refine W_skip ?_
                      refine W_th ?_
                      refine W_seq ?_
                      refine W_block ?_
                      refine W_seq ?_
                      refine W_reg (by kernel_rfl) ?_
                      obtain ⟨c55, hc55, H52⟩ := Option.bind_eq_some_iff.1 H52
                      refine wla rfl rfl (q_adr rfl T58 s94_53 s96_53 i1_53 hc55) ?_
                      refine wlq rfl rfl (q_loadS rfl T58 rfl i1_53 hc55) ?_
                      refine wla rfl rfl (q_assign (v := (i64 c55)) rfl rfl) ?_
                      refine wl_nil ?_
                      refine W_th ?_
                      refine W_seq ?_
                      refine W_draw [] [(0, 0), (1, 0), (2, 0), (3, 0), (4, 0), (5, 0), (6, 0), (7, 0), (8, 2), (9, 0), (10, 0), (11, 0), (12, 0), (13, 0)] mixed (by kernel_rfl) (by kernel_rfl) (by kernel_rfl) (by kernel_rfl) ?_
                      have x56 := Ext.drew w53
                      replace i0_53 := i0_53.lift (Lift.ext x56 _)
                      replace i1_53 := i1_53.lift (Lift.ext x56 _)
                      replace o0_53 := o0_53.extL (Sc.stab _) x56 (Lift.ext x56 _)
                      replace o1_53 := o1_53.extL (SlK.stab (Sc.stab _)) x56 (Lift.ext x56 _)
                      have e57 := hE53.trans x56
                      refine wsa rfl rfl rfl (q_move (v := v25) rfl s7_53) ?_
                      refine wsa rfl rfl rfl (q_move (v := (i64 ((a0parts.length : Int)))) rfl s8_53) ?_
                      refine wsa rfl rfl rfl (q_move (v := v9_49) rfl s9_53) ?_
                      refine wsa rfl rfl rfl (q_move (v := (i64 c55)) rfl rfl) ?_
                      obtain ⟨c58, hc58, H52⟩ := Option.bind_eq_some_iff.1 H52
                      refine wsa rfl rfl rfl (q_slice (a := c55) (b := (y29.1.length : Int)) rfl T58 rfl (o0_53.rd (Sc.stab _)) rfl rfl hc58) ?_
                      refine wsa rfl rfl rfl (q_move (v := v10_49) rfl s10_53) ?_
                      refine wsa rfl rfl rfl (q_move (v := (i64 c55)) rfl rfl) ?_
                      obtain ⟨c59, hc59, H52⟩ := Option.bind_eq_some_iff.1 H52
                      refine wsa rfl rfl rfl (q_slice (a := c55) (b := (y29.2.length : Int)) rfl T23 rfl (o1_53.rd (SlK.stab (Sc.stab _))) rfl rfl hc59) ?_
                      obtain ⟨r60, hr60, H52⟩ := Option.bind_eq_some_iff.1 H52
                      refine wsc rfl (by kernel_rfl) rfl rfl (stp_call (vs := [v25, (i64 ((a0parts.length : Int))), (subV v9_49 (c55 : Int).toNat ((y29.1.length : Int) : Int).toNat), (subV v10_49 (c55 : Int).toNat ((y29.2.length : Int) : Int).toNat)]) Try.func36 rfl rfl rfl (ar4 rfl rfl rfl rfl) (code_Decode_calls r25 (a0parts.length : Int) c58 c59 v25 (subV v9_49 (c55 : Int).toNat ((y29.1.length : Int) : Int).toNat) (subV v10_49 (c55 : Int).toNat ((y29.2.length : Int) : Int).toNat) r60 _ [v9_49, v10_49] (Old.cons (Old.cons (Old.nil _) o1_53.lt) o0_53.lt) (i0_53.lift (Lift.sub (fun _ _ => trivial))) (SlK.cut (L := []) (o0_53.rd (Sc.stab _)) hc58) (SlK.cut (L := []) (o1_53.rd (SlK.stab (Sc.stab _))) hc59) hr60) ?_)
                      rintro _ w60 ⟨v60_0, rfl, x60, n60_0, o60_0⟩
                      refine ⟨_, rfl, ?_⟩
                      have i60_0 : Rw w60 [v9_49, v10_49] v60_0 r60.1 := OwK.slk (SlK.stab (Sc.stab _)) _ o60_0 (fun k hk => (Old.cons (Old.cons (Old.nil _) o1_53.lt) o0_53.lt) k (n60_0 k hk)) (fun _ h => h.2)
                      replace i0_53 := i0_53.lift (Lift.ext x60 _)
                      replace i1_53 := i1_53.lift (Lift.ext x60 _)
                      replace o0_53 := o0_53.extL (Sc.stab _) x60 (Lift.ext x60 _)
                      replace o1_53 := o1_53.extL (SlK.stab (Sc.stab _)) x60 (Lift.ext x60 _)
                      have e61 := e57.trans x60
                      refine wsa rfl rfl rfl (q_move (v := (.tuple #[v60_0, (i64 r60.2)])) rfl rfl) ?_
                      refine wsa rfl rfl rfl (q_extract rfl rfl rfl) ?_
                      refine wsa rfl rfl rfl (q_extract rfl rfl rfl) ?_
                      refine wsa rfl rfl rfl (q_assign (v := v60_0) rfl rfl) ?_
                      refine wsa rfl rfl rfl (q_assign (v := (i64 r60.2)) rfl rfl) ?_
                      refine ws_nil ?_
                      refine W_th ?_
                      refine W_seq ?_
                      refine W_seq ?_
                      refine W_reg (by kernel_rfl) ?_
                      refine wla rfl rfl (q_move (v := (i64 r60.2)) rfl rfl) ?_
                      refine wla rfl rfl (q_neI rfl rfl rfl) ?_
                      refine wlb rfl rfl (q_move (v := (.bool ((!decide (r60.2 = 0))))) rfl rfl) (fun hb62 => ?_) (fun hb62 => ?_)
                      · replace H52 := (if_neg (ndec_t hb62)).symm.trans H52
                        refine wlk rfl rfl ?_
                        refine wlk rfl rfl ?_
                        refine wlk rfl rfl ?_
                        refine wlk rfl rfl ?_
                        refine wla rfl rfl (q_pick_t (v := (.bool true)) rfl rfl rfl) ?_
                        refine wl_nil ?_
                        refine W_th ?_
                        refine W_cond true rfl rfl (fun _ => ?_) (fun hb => by cases hb)
                        refine W_seq ?_
                        refine W_reg (by kernel_rfl) ?_
                        refine wla rfl rfl (q_assign (v := (.bool false)) rfl rfl) ?_
                        refine wl_nil ?_
                        refine W_th ?_
                        refine W_ret ?_
                        refine th_r ?_
                        refine bk_r ?_
                        refine th_r ?_
                        obtain rfl := Option.some.inj H52
                        obtain rfl := hr52 _ rfl
                        simp only [Sum.elim_inr] at H
                        refine th_r ?_
                        refine bk_r ?_
                        refine th_r ?_
                        refine th_r ?_
                        obtain rfl := Option.some.inj H
                        refine rt1 (.bool false) rfl rfl rfl s244_53 ?_
                        exact ⟨rfl, e61⟩
                      · replace H52 := (if_pos (ndec_f hb62)).symm.trans H52
                        refine wla rfl rfl (q_move (v := v60_0) rfl rfl) ?_
                        refine wla rfl rfl (q_len rfl T23.sl rfl i60_0) ?_
                        refine wla rfl rfl (q_move (v := (i64 ((a0parts.length : Int)))) rfl s8_53) ?_
                        refine wla rfl rfl (q_neI rfl rfl rfl) ?_
                        refine wla rfl rfl (q_pick_f (v := (.bool ((!decide ((r60.1.length : Int) = (a0parts.length : Int)))))) rfl rfl rfl) ?_
                        refine wl_nil ?_
                        refine W_th ?_
                        refine W_cond _ rfl rfl (fun hb63 => ?_) (fun hb63 => ?_)
                        · replace H52 := (if_neg (ndec_t hb63)).symm.trans H52
                          refine W_seq ?_
                          refine W_reg (by kernel_rfl) ?_
                          refine wla rfl rfl (q_assign (v := (.bool false)) rfl rfl) ?_
                          refine wl_nil ?_
                          refine W_th ?_
                          refine W_ret ?_
                          refine th_r ?_
                          refine bk_r ?_
                          refine th_r ?_
                          obtain rfl := Option.some.inj H52
                          obtain rfl := hr52 _ rfl
                          simp only [Sum.elim_inr] at H
                          refine th_r ?_
                          refine bk_r ?_
                          refine th_r ?_
                          refine th_r ?_
                          obtain rfl := Option.some.inj H
                          refine rt1 (.bool false) rfl rfl rfl s244_53 ?_
                          exact ⟨rfl, e61⟩
                        · replace H52 := (if_pos (ndec_f hb63)).symm.trans H52
                          refine W_skip ?_
                          refine W_th ?_
                          refine W_seq ?_
                          refine W_reg (by kernel_rfl) ?_
                          refine wla rfl rfl (q_move (v := v60_0) rfl rfl) ?_
                          refine wla rfl rfl (q_len rfl T23.sl rfl i60_0) ?_
                          refine wla rfl rfl (q_move (v := (i64 0)) rfl rfl) ?_
                          refine wl_nil ?_
                          refine W_th ?_
                          obtain ⟨x64, G64, H52⟩ := Option.bind_eq_some_iff.1 H52
                          refine W_mid (fun f w => ∃ y64, x64 = .inl y64 ∧ f 0 = p0 ∧ f 2 = p2 ∧ f 7 = v25 ∧ f 8 = (i64 ((a0parts.length : Int))) ∧ f 9 = v9_49 ∧ f 10 = v10_49 ∧ f 94 = v50 ∧ f 95 = (i64 (((([0, 1, 2] : List Int)).length : Int))) ∧ f 96 = (i64 s52) ∧ f 244 = undef ∧ Ext w0 w ∧ OwK (Sc i64) w [v9_49, v10_49] 3 v9_49 y29.1 ∧ Nw w0 v9_49 ∧ OwK By w [v9_49, v10_49] 22 v10_49 y29.2 ∧ Nw w0 v10_49 ∧ Nq v9_49 v10_49 ∧ Fd w [v9_49, v10_49] v25 r25 ∧ In w [v9_49, v10_49] v50 (([0, 1, 2] : List Int))) ?_ ?_
                          · refine W_block ?_
                            refine W_loop (fun s64 f w => f 0 = p0 ∧ f 2 = p2 ∧ f 7 = v25 ∧ f 8 = (i64 ((a0parts.length : Int))) ∧ f 9 = v9_49 ∧ f 10 = v10_49 ∧ f 17 = v60_0 ∧ f 94 = v50 ∧ f 95 = (i64 (((([0, 1, 2] : List Int)).length : Int))) ∧ f 96 = (i64 s52) ∧ f 121 = (i64 ((r60.1.length : Int))) ∧ f 122 = (i64 s64) ∧ f 244 = undef ∧ Ext w0 w ∧ OwK (Sc i64) w [v9_49, v10_49] 3 v9_49 y29.1 ∧ Nw w0 v9_49 ∧ OwK By w [v9_49, v10_49] 22 v10_49 y29.2 ∧ Nw w0 v10_49 ∧ Nq v9_49 v10_49 ∧ Fd w [v9_49, v10_49] v25 r25 ∧ Rw w [v9_49, v10_49] v60_0 r60.1 ∧ In w [v9_49, v10_49] v50 (([0, 1, 2] : List Int))) G64 ?_ ?_
                            · exact ⟨s0_53, s2_53, s7_53, s8_53, s9_53, s10_53, rfl, s94_53, s95_53, s96_53, rfl, rfl, s244_53, e61, o0_53, n0_53, o1_53, n1_53, q0_1_53, i0_53, i60_0, i1_53⟩
                            · rintro s64 _ _ w65 ⟨s0_65, s2_65, s7_65, s8_65, s9_65, s10_65, s17_65, s94_65, s95_65, s96_65, s121_65, s122_65, s244_65, hE65, o0_65, n0_65, o1_65, n1_65, q0_1_65, i0_65, i1_65, i2_65⟩ H64 hr64
                              refine W_seq ?_
                              refine W_reg (by kernel_rfl) ?_
                              refine wla rfl rfl (q_ltI rfl s122_65 s121_65) ?_
                              refine wl_nil ?_
                              refine W_th ?_
                              refine W_seq ?_
                              refine W_cond _ rfl rfl (fun hb66 => ?_) (fun hb66 => ?_)
                              · replace H64 := (if_pos (of_decide_eq_true hb66)).symm.trans H64
                                refine W_skip ?_
                                refine W_th ?_
                                refine W_seq ?_
                                refine W_block ?_
                                refine W_seq ?_
                                refine W_reg (by kernel_rfl) ?_
                                refine wla rfl rfl (q_move (v := (i64 s64)) rfl s122_65) ?_
                                refine wla rfl rfl (q_assign (v := (i64 s64)) rfl rfl) ?_
                                refine wl_nil ?_
                                refine W_th ?_
                                refine W_seq ?_
                                refine W_draw [3, 4, 8, 9] [(0, 0), (1, 0), (2, 0), (3, 1), (4, 1), (5, 0), (6, 0), (7, 0), (8, 1), (9, 1), (10, 0)] mixed (by kernel_rfl) (by kernel_rfl) (by kernel_rfl) (by kernel_rfl) ?_
                                have x67 := Ext.drew w65
                                replace i0_65 := i0_65.lift (Lift.ext x67 _)
                                replace i1_65 := i1_65.lift (Lift.ext x67 _)
                                replace i2_65 := i2_65.lift (Lift.ext x67 _)
                                replace o0_65 := o0_65.extL (Sc.stab _) x67 (Lift.ext x67 _)
                                replace o1_65 := o1_65.extL (SlK.stab (Sc.stab _)) x67 (Lift.ext x67 _)
                                have e68 := hE65.trans x67
                                refine wsa rfl rfl rfl (q_move (v := v60_0) rfl s17_65) ?_
                                refine wsa rfl rfl rfl (q_move (v := (i64 s64)) rfl rfl) ?_
                                obtain ⟨c69, hc69, H64⟩ := Option.bind_eq_some_iff.1 H64
                                refine wsa rfl rfl rfl (q_adr rfl T23 rfl rfl i1_65 hc69) ?_
                                refine wsq_load rfl rfl rfl rfl T23 rfl i1_65 hc69 (Ext.refl _) (fun v70 i70 => ?_)
                                refine wsq rfl rfl rfl (q_str rfl T22 rfl rfl rfl i70) ?_
                                refine wsa rfl rfl rfl (q_move (v := p0) rfl s0_65) ?_
                                refine wsa rfl rfl rfl (q_move (v := (i64 s64)) rfl rfl) ?_
                                obtain ⟨c71, hc71, H64⟩ := Option.bind_eq_some_iff.1 H64
                                refine wsa rfl rfl rfl (q_adr rfl T23 rfl rfl (hp0.lift (Lift.ext e68 _)) hc71) ?_
                                refine wsq_load rfl rfl rfl rfl T23 rfl hp0 hc71 e68 (fun v72 ha72 => ?_)
                                refine wsq rfl rfl rfl (q_str rfl T22 rfl rfl rfl (ha72.lift (Lift.ext e68 _))) ?_
                                refine wsa rfl rfl rfl (q_neS rfl rfl rfl) ?_
                                refine ws_nil ?_
                                refine W_th ?_
                                refine W_cond _ rfl rfl (fun hb73 => ?_) (fun hb73 => ?_)
                                · replace H64 := (if_neg (ndec_t hb73)).symm.trans H64
                                  refine W_seq ?_
                                  refine W_reg (by kernel_rfl) ?_
                                  refine wla rfl rfl (q_assign (v := (.bool false)) rfl rfl) ?_
                                  refine wl_nil ?_
                                  refine W_th ?_
                                  refine W_ret ?_
                                  refine bk_r ?_
                                  refine th_r ?_
                                  obtain rfl := Option.some.inj H64
                                  obtain rfl := hr64 _ rfl
                                  simp only [Sum.elim_inr] at H52
                                  refine th_r ?_
                                  refine bk_r ?_
                                  refine th_r ?_
                                  refine bk_r ?_
                                  refine th_r ?_
                                  obtain rfl := Option.some.inj H52
                                  obtain rfl := hr52 _ rfl
                                  simp only [Sum.elim_inr] at H
                                  refine th_r ?_
                                  refine bk_r ?_
                                  refine th_r ?_
                                  refine th_r ?_
                                  obtain rfl := Option.some.inj H
                                  refine rt1 (.bool false) rfl rfl rfl s244_65 ?_
                                  exact ⟨rfl, e68⟩
                                · replace H64 := (if_pos (ndec_f hb73)).symm.trans H64
                                  refine W_skip ?_
                                  refine bk_n ?_
                                  refine W_th ?_
                                  refine W_reg (by kernel_rfl) ?_
                                  refine wla rfl rfl (q_addI rfl s122_65 rfl) ?_
                                  refine wla rfl rfl (q_move (v := (i64 ((wI (s64 + 1))))) rfl rfl) ?_
                                  refine wl_nil ?_
                                  obtain rfl := Option.some.inj H64
                                  exact ⟨_, rfl, s0_65, s2_65, s7_65, s8_65, s9_65, s10_65, s17_65, s94_65, s95_65, s96_65, s121_65, rfl, s244_65, e68, o0_65, n0_65, o1_65, n1_65, q0_1_65, i0_65, i1_65, i2_65⟩
                              · replace H64 := (if_neg (of_decide_eq_false hb66)).symm.trans H64
                                refine W_exit ?_
                                refine th_x ?_
                                obtain rfl := Option.some.inj H64
                                obtain rfl := hr64 _ rfl
                                refine th_x ?_
                                refine bk_x ?_
                                exact ⟨_, rfl, s0_65, s2_65, s7_65, s8_65, s9_65, s10_65, s94_65, s95_65, s96_65, s244_65, hE65, o0_65, n0_65, o1_65, n1_65, q0_1_65, i0_65, i2_65⟩
                          · rintro _ w75 ⟨y64, rfl, s0_75, s2_75, s7_75, s8_75, s9_75, s10_75, s94_75, s95_75, s96_75, s244_75, hE75, o0_75, n0_75, o1_75, n1_75, q0_1_75, i0_75, i1_75⟩
                            simp only [Sum.elim_inl] at H52
                            refine bk_n ?_
                            refine W_th ?_
                            refine W_reg (by kernel_rfl) ?_
                            refine wla rfl rfl (q_addI rfl s96_75 rfl) ?_
                            refine wla rfl rfl (q_move (v := (i64 ((wI (s52 + 1))))) rfl rfl) ?_
                            refine wl_nil ?_
                            obtain rfl := Option.some.inj H52
                            exact ⟨_, rfl, s0_75, s2_75, s7_75, s8_75, s9_75, s10_75, s94_75, s95_75, rfl, s244_75, hE75, o0_75, n0_75, o1_75, n1_75, q0_1_75, i0_75, i1_75⟩
                    · replace H52 := (if_neg (of_decide_eq_false hb54)).symm.trans H52
                      refine W_exit ?_
                      refine th_x ?_
                      obtain rfl := Option.some.inj H52
                      obtain rfl := hr52 _ rfl
                      refine th_x ?_
                      refine bk_x ?_
                      exact ⟨_, rfl, s0_53, s2_53, s7_53, s8_53, s9_53, s10_53, s244_53, hE53, o0_53, n0_53, o1_53, n1_53, q0_1_53, i0_53⟩
                · rintro _ w78 ⟨y52, rfl, s0_78, s2_78, s7_78, s8_78, s9_78, s10_78, s244_78, hE78, o0_78, n0_78, o1_78, n1_78, q0_1_78, i0_78⟩
                  simp only [Sum.elim_inl] at H
                  refine W_th ?_
                  refine W_seq ?_
                  refine W_draw [] [(0, 0), (1, 0), (2, 0), (3, 0), (4, 0), (5, 0), (6, 0), (7, 0), (8, 0), (9, 0), (10, 2), (11, 0), (12, 0), (13, 0), (14, 0), (15, 0)] mixed (by kernel_rfl) (by kernel_rfl) (by kernel_rfl) (by kernel_rfl) ?_
                  have x79 := Ext.drew w78
                  replace i0_78 := i0_78.lift (Lift.ext x79 _)
                  replace o0_78 := o0_78.extL (Sc.stab _) x79 (Lift.ext x79 _)
                  replace o1_78 := o1_78.extL (SlK.stab (Sc.stab _)) x79 (Lift.ext x79 _)
                  have e80 := hE78.trans x79
                  refine wsa rfl rfl rfl (q_move (v := v25) rfl s7_78) ?_
                  refine wsa rfl rfl rfl (q_move (v := (i64 ((a0parts.length : Int)))) rfl s8_78) ?_
                  refine wsa rfl rfl rfl (q_move (v := v9_49) rfl s9_78) ?_
                  refine wsa rfl rfl rfl (q_move (v := (i64 ((a0parts.length : Int)))) rfl s8_78) ?_
                  refine wsa rfl rfl rfl (q_subI rfl rfl rfl) ?_
                  obtain ⟨c81, hc81, H⟩ := Option.bind_eq_some_iff.1 H
                  refine wsa rfl rfl rfl (q_slice (a := 0) (b := (wI ((a0parts.length : Int) - 1))) rfl T58 rfl (o0_78.rd (Sc.stab _)) rfl rfl hc81) ?_
                  refine wsa rfl rfl rfl (q_move (v := v10_49) rfl s10_78) ?_
                  refine wsa rfl rfl rfl (q_move (v := (i64 ((a0parts.length : Int)))) rfl s8_78) ?_
                  refine wsa rfl rfl rfl (q_subI rfl rfl rfl) ?_
                  obtain ⟨c82, hc82, H⟩ := Option.bind_eq_some_iff.1 H
                  refine wsa rfl rfl rfl (q_slice (a := 0) (b := (wI ((a0parts.length : Int) - 1))) rfl T23 rfl (o1_78.rd (SlK.stab (Sc.stab _))) rfl rfl hc82) ?_
                  obtain ⟨r83, hr83, H⟩ := Option.bind_eq_some_iff.1 H
                  refine wsc rfl (by kernel_rfl) rfl rfl (stp_call (vs := [v25, (i64 ((a0parts.length : Int))), (subV v9_49 (0 : Int).toNat ((wI ((a0parts.length : Int) - 1)) : Int).toNat), (subV v10_49 (0 : Int).toNat ((wI ((a0parts.length : Int) - 1)) : Int).toNat)]) Try.func36 rfl rfl rfl (ar4 rfl rfl rfl rfl) (code_Decode_calls r25 (a0parts.length : Int) c81 c82 v25 (subV v9_49 (0 : Int).toNat ((wI ((a0parts.length : Int) - 1)) : Int).toNat) (subV v10_49 (0 : Int).toNat ((wI ((a0parts.length : Int) - 1)) : Int).toNat) r83 _ [v9_49, v10_49] (Old.cons (Old.cons (Old.nil _) o1_78.lt) o0_78.lt) (i0_78.lift (Lift.sub (fun _ _ => trivial))) (SlK.cut (L := []) (o0_78.rd (Sc.stab _)) hc81) (SlK.cut (L := []) (o1_78.rd (SlK.stab (Sc.stab _))) hc82) hr83) ?_)
                  rintro _ w83 ⟨v83_0, rfl, x83, n83_0, o83_0⟩
                  refine ⟨_, rfl, ?_⟩
                  have i83_0 : Rw w83 [v9_49, v10_49] v83_0 r83.1 := OwK.slk (SlK.stab (Sc.stab _)) _ o83_0 (fun k hk => (Old.cons (Old.cons (Old.nil _) o1_78.lt) o0_78.lt) k (n83_0 k hk)) (fun _ h => h.2)
                  replace i0_78 := i0_78.lift (Lift.ext x83 _)
                  replace o0_78 := o0_78.extL (Sc.stab _) x83 (Lift.ext x83 _)
                  replace o1_78 := o1_78.extL (SlK.stab (Sc.stab _)) x83 (Lift.ext x83 _)
                  have e84 := e80.trans x83
                  refine wsa rfl rfl rfl (q_move (v := (.tuple #[v83_0, (i64 r83.2)])) rfl rfl) ?_
                  refine wsa rfl rfl rfl (q_extract rfl rfl rfl) ?_
                  refine wsa rfl rfl rfl (q_extract rfl rfl rfl) ?_
                  refine wsa rfl rfl rfl (q_assign (v := v83_0) rfl rfl) ?_
                  refine wsa rfl rfl rfl (q_assign (v := (i64 r83.2)) rfl rfl) ?_
                  refine ws_nil ?_
                  refine W_th ?_
                  refine W_seq ?_
                  refine W_reg (by kernel_rfl) ?_
                  refine wla rfl rfl (q_move (v := v25) rfl s7_78) ?_
                  refine wla rfl rfl (q_move (v := (i64 ((a0parts.length : Int)))) rfl s8_78) ?_
                  refine wla rfl rfl (q_move (v := v9_49) rfl s9_78) ?_
                  refine wla rfl rfl (q_move (v := v10_49) rfl s10_78) ?_
                  obtain ⟨c85, hc85, H⟩ := Option.bind_eq_some_iff.1 H
                  refine wla rfl rfl (q_slice (a := 1) (b := (y29.2.length : Int)) rfl T23 rfl (o1_78.rd (SlK.stab (Sc.stab _))) rfl rfl hc85) ?_
                  obtain ⟨r86, hr86, H⟩ := Option.bind_eq_some_iff.1 H
                  refine wls rfl rfl (stp_call (vs := [v25, (i64 ((a0parts.length : Int))), v9_49, (subV v10_49 (1 : Int).toNat ((y29.2.length : Int) : Int).toNat)]) Try.func36 rfl rfl rfl (ar4 rfl rfl rfl rfl) (code_Decode_calls r25 (a0parts.length : Int) y29.1 c85 v25 v9_49 (subV v10_49 (1 : Int).toNat ((y29.2.length : Int) : Int).toNat) r86 _ [v9_49, v10_49] (Old.cons (Old.cons (Old.nil _) o1_78.lt) o0_78.lt) (i0_78.lift (Lift.sub (fun _ _ => trivial))) (o0_78.rd (Sc.stab _)) (SlK.cut (L := []) (o1_78.rd (SlK.stab (Sc.stab _))) hc85) hr86) ?_)
                  rintro _ w86 ⟨v86_0, rfl, x86, n86_0, o86_0⟩
                  refine ⟨_, rfl, ?_⟩
                  have i86_0 : Rw w86 [v9_49, v10_49] v86_0 r86.1 := OwK.slk (SlK.stab (Sc.stab _)) _ o86_0 (fun k hk => (Old.cons (Old.cons (Old.nil _) o1_78.lt) o0_78.lt) k (n86_0 k hk)) (fun _ h => h.2)
                  replace i0_78 := i0_78.lift (Lift.ext x86 _)
                  replace i83_0 := i83_0.lift (Lift.ext x86 _)
                  replace o0_78 := o0_78.extL (Sc.stab _) x86 (Lift.ext x86 _)
                  replace o1_78 := o1_78.extL (SlK.stab (Sc.stab _)) x86 (Lift.ext x86 _)
                  have e87 := e84.trans x86
                  refine wla rfl rfl (q_move (v := (.tuple #[v86_0, (i64 r86.2)])) rfl rfl) ?_
                  refine wla rfl rfl (q_extract rfl rfl rfl) ?_
                  refine wla rfl rfl (q_extract rfl rfl rfl) ?_
                  refine wla rfl rfl (q_assign (v := v86_0) rfl rfl) ?_
                  refine wla rfl rfl (q_assign (v := (i64 r86.2)) rfl rfl) ?_
                  refine wl_nil ?_
                  refine W_th ?_
                  refine W_seq ?_
                  refine W_reg (by kernel_rfl) ?_
                  refine wla rfl rfl (q_move (v := v25) rfl s7_78) ?_
                  refine wla rfl rfl (q_move (v := v9_49) rfl s9_78) ?_
                  refine wla rfl rfl (q_move (v := v10_49) rfl s10_78) ?_
                  obtain ⟨r88, hr88, H⟩ := Option.bind_eq_some_iff.1 H
                  refine wls rfl rfl (stp_call (vs := [v25, (i64 0), v9_49, v10_49]) Try.func36 rfl rfl rfl (ar4 rfl rfl rfl rfl) (code_Decode_calls r25 0 y29.1 y29.2 v25 v9_49 v10_49 r88 _ [v9_49, v10_49] (Old.cons (Old.cons (Old.nil _) o1_78.lt) o0_78.lt) (i0_78.lift (Lift.sub (fun _ _ => trivial))) (o0_78.rd (Sc.stab _)) (o1_78.rd (SlK.stab (Sc.stab _))) hr88) ?_)
                  rintro _ w88 ⟨v88_0, rfl, x88, n88_0, o88_0⟩
                  refine ⟨_, rfl, ?_⟩
                  have i88_0 : Rw w88 [v9_49, v10_49] v88_0 r88.1 := OwK.slk (SlK.stab (Sc.stab _)) _ o88_0 (fun k hk => (Old.cons (Old.cons (Old.nil _) o1_78.lt) o0_78.lt) k (n88_0 k hk)) (fun _ h => h.2)
                  replace i0_78 := i0_78.lift (Lift.ext x88 _)
                  replace i83_0 := i83_0.lift (Lift.ext x88 _)
                  replace i86_0 := i86_0.lift (Lift.ext x88 _)
                  replace o0_78 := o0_78.extL (Sc.stab _) x88 (Lift.ext x88 _)
                  replace o1_78 := o1_78.extL (SlK.stab (Sc.stab _)) x88 (Lift.ext x88 _)
                  have e89 := e87.trans x88
                  refine wla rfl rfl (q_move (v := (.tuple #[v88_0, (i64 r88.2)])) rfl rfl) ?_
                  refine wla rfl rfl (q_extract rfl rfl rfl) ?_
                  refine wla rfl rfl (q_extract rfl rfl rfl) ?_
                  refine wla rfl rfl (q_assign (v := v88_0) rfl rfl) ?_
                  refine wla rfl rfl (q_assign (v := (i64 r88.2)) rfl rfl) ?_
                  refine wl_nil ?_
                  refine W_th ?_
                  refine W_seq ?_
                  refine W_seq ?_
                  refine W_reg (by kernel_rfl) ?_
                  refine wla rfl rfl (q_move (v := (i64 r83.2)) rfl rfl) ?_
                  refine wla rfl rfl (q_neI rfl rfl rfl) ?_
                  refine wlb rfl rfl (q_move (v := (.bool ((!decide (r83.2 = 5))))) rfl rfl) (fun hb90 => ?_) (fun hb90 => ?_)
                  · replace H := (if_neg (ndec_t hb90)).symm.trans H
                    refine wlk rfl rfl ?_
                    refine wlk rfl rfl ?_
                    refine wla rfl rfl (q_pick_t (v := (.bool true)) rfl rfl rfl) ?_
                    refine wla rfl rfl (q_move (v := (.bool true)) rfl rfl) ?_
                    refine wlk rfl rfl ?_
                    refine wlk rfl rfl ?_
                    refine wla rfl rfl (q_pick_t (v := (.bool true)) rfl rfl rfl) ?_
                    refine wl_nil ?_
                    refine W_th ?_
                    refine W_cond true rfl rfl (fun _ => ?_) (fun hb => by cases hb)
                    refine W_seq ?_
                    refine W_reg (by kernel_rfl) ?_
                    refine wla rfl rfl (q_assign (v := (.bool false)) rfl rfl) ?_
                    refine wl_nil ?_
                    refine W_th ?_
                    refine W_ret ?_
                    refine th_r ?_
                    obtain rfl := Option.some.inj H
                    refine rt1 (.bool false) rfl rfl rfl s244_78 ?_
                    exact ⟨rfl, e89⟩
                  · replace H := (if_pos (ndec_f hb90)).symm.trans H
                    refine wla rfl rfl (q_move (v := (i64 r86.2)) rfl rfl) ?_
                    refine wla rfl rfl (q_neI rfl rfl rfl) ?_
                    refine wla rfl rfl (q_pick_f (v := (.bool ((!decide (r86.2 = 1))))) rfl rfl rfl) ?_
                    refine wlb rfl rfl (q_move (v := (.bool ((!decide (r86.2 = 1))))) rfl rfl) (fun hb91 => ?_) (fun hb91 => ?_)
                    · replace H := (if_neg (ndec_t hb91)).symm.trans H
                      refine wlk rfl rfl ?_
                      refine wlk rfl rfl ?_
                      refine wla rfl rfl (q_pick_t (v := (.bool true)) rfl rfl rfl) ?_
                      refine wl_nil ?_
                      refine W_th ?_
                      refine W_cond true rfl rfl (fun _ => ?_) (fun hb => by cases hb)
                      refine W_seq ?_
                      refine W_reg (by kernel_rfl) ?_
                      refine wla rfl rfl (q_assign (v := (.bool false)) rfl rfl) ?_
                      refine wl_nil ?_
                      refine W_th ?_
                      refine W_ret ?_
                      refine th_r ?_
                      obtain rfl := Option.some.inj H
                      refine rt1 (.bool false) rfl rfl rfl s244_78 ?_
                      exact ⟨rfl, e89⟩
                    · replace H := (if_pos (ndec_f hb91)).symm.trans H
                      refine wla rfl rfl (q_move (v := (i64 r88.2)) rfl rfl) ?_
                      refine wla rfl rfl (q_neI rfl rfl rfl) ?_
                      refine wla rfl rfl (q_pick_f (v := (.bool ((!decide (r88.2 = 2))))) rfl rfl rfl) ?_
                      refine wl_nil ?_
                      refine W_th ?_
                      refine W_cond _ rfl rfl (fun hb92 => ?_) (fun hb92 => ?_)
                      · replace H := (if_neg (ndec_t hb92)).symm.trans H
                        refine W_seq ?_
                        refine W_reg (by kernel_rfl) ?_
                        refine wla rfl rfl (q_assign (v := (.bool false)) rfl rfl) ?_
                        refine wl_nil ?_
                        refine W_th ?_
                        refine W_ret ?_
                        refine th_r ?_
                        obtain rfl := Option.some.inj H
                        refine rt1 (.bool false) rfl rfl rfl s244_78 ?_
                        exact ⟨rfl, e89⟩
                      · replace H := (if_pos (ndec_f hb92)).symm.trans H
                        refine W_skip ?_
                        refine W_th ?_
                        refine W_seq ?_
                        refine W_reg (by kernel_rfl) ?_
                        refine wla rfl rfl (q_assign (v := (.slice none 0 0)) rfl rfl) ?_
                        refine wl_nil ?_
                        refine W_th ?_
                        refine W_seq ?_
                        refine W_reg (by kernel_rfl) ?_
                        refine wla rfl rfl (q_assign (v := (i64 0)) rfl rfl) ?_
                        refine wl_nil ?_
                        refine W_th ?_
                        refine W_seq ?_
                        refine W_reg (by kernel_rfl) ?_
                        refine wls rfl rfl (stp_makeMapI [v9_49, v10_49] rfl ?_)
                        intro g93 w93 o93 n93 g93r l93
                        have x93 := grown_ext g93r
                        have q94 : Nq v9_49 (mp g93) := o0_78.nq n93
                        have q95 : Nq v10_49 (mp g93) := o1_78.nq n93
                        replace i0_78 := i0_78.lift (Lift.call _ x93 n93)
                        replace i83_0 := i83_0.lift (Lift.call _ x93 n93)
                        replace i86_0 := i86_0.lift (Lift.call _ x93 n93)
                        replace i88_0 := i88_0.lift (Lift.call _ x93 n93)
                        replace o0_78 := o0_78.extL (Sc.stab _) x93 (Lift.call _ x93 n93)
                        replace o1_78 := o1_78.extL (SlK.stab (Sc.stab _)) x93 (Lift.call _ x93 n93)
                        have n97 := Nw.ext e89 n93
                        have e96 := e89.trans x93
                        refine wla rfl rfl (q_assign (v := (mp g93)) rfl rfl) ?_
                        refine wl_nil ?_
                        refine W_th ?_
                        refine W_seq ?_
                        refine W_seq ?_
                        refine W_reg (by kernel_rfl) ?_
                        refine wla rfl rfl (q_move (v := p2) rfl s2_78) ?_
                        refine wla rfl rfl (q_len rfl T58.sl rfl (hp2.lift (Lift.ext e96 _))) ?_
                        refine wla rfl rfl (q_move (v := (i64 0)) rfl rfl) ?_
                        refine wl_nil ?_
                        refine W_th ?_
                        obtain ⟨x98, G98, H⟩ := Option.bind_eq_some_iff.1 H
                        refine W_mid (fun f w => ∃ v26_140 : Value, f 2 = p2 ∧ f 7 = v25 ∧ f 8 = (i64 ((a0parts.length : Int))) ∧ f 26 = v26_140 ∧ f 27 = (i64 x98.2) ∧ f 28 = (mp g93) ∧ f 244 = undef ∧ Ext w0 w ∧ OwK By w [v26_140, (mp g93)] 22 v26_140 x98.1 ∧ Nw w0 v26_140 ∧ MpI w g93 (([] : List (Int × Bool))) ∧ Nw w0 (mp g93) ∧ Nq v26_140 (mp g93) ∧ Fd w [v26_140, (mp g93)] v25 r25) ?_ ?_
                        · refine W_block ?_
                          refine W_loop (fun s98 f w => ∃ v26_114 : Value, f 0 = p0 ∧ f 2 = p2 ∧ f 7 = v25 ∧ f 8 = (i64 ((a0parts.length : Int))) ∧ f 26 = v26_114 ∧ f 27 = (i64 s98.2.1) ∧ f 28 = (mp g93) ∧ f 179 = p2 ∧ f 180 = (i64 ((a2raw.length : Int))) ∧ f 181 = (i64 s98.2.2) ∧ f 244 = undef ∧ Ext w0 w ∧ OwK By w [v26_114, (mp g93)] 22 v26_114 s98.1 ∧ Nw w0 v26_114 ∧ MpI w g93 (([] : List (Int × Bool))) ∧ Nw w0 (mp g93) ∧ Nq v26_114 (mp g93) ∧ Fd w [v26_114, (mp g93)] v25 r25) G98 ?_ ?_
                          · exact ⟨(.slice none 0 0), s0_78, s2_78, s7_78, s8_78, rfl, rfl, rfl, rfl, rfl, rfl, s244_78, e96, (OwK.nil _ _ _ _), (Nw.nil _), o93, n97, (Nq.nil _), (i0_78.lift (Lift.sub (fun _ h => ⟨nh_nil, h.1, trivial⟩)))⟩
                          · rintro s98 _ _ w99 ⟨v26_99, s0_99, s2_99, s7_99, s8_99, s26_99, s27_99, s28_99, s179_99, s180_99, s181_99, s244_99, hE99, o0_99, n0_99, o1_99, n1_99, q0_1_99, i0_99⟩ H98 hr98
                            refine W_seq ?_
                            refine W_reg (by kernel_rfl) ?_
                            refine wla rfl rfl (q_ltI rfl s181_99 s180_99) ?_
                            refine wl_nil ?_
                            refine W_th ?_
                            refine W_seq ?_
                            refine W_cond _ rfl rfl (fun hb100 => ?_) (fun hb100 => ?_)
                            · replace H98 := (if_pos (of_decide_eq_true hb100)).symm.trans H98
                              refine W_skip ?_
                              refine W_th ?_
                              refine W_seq ?_
                              refine W_block ?_
                              refine W_seq ?_
                              refine W_reg (by kernel_rfl) ?_
                              refine wla rfl rfl (q_move (v := (i64 s98.2.2)) rfl s181_99) ?_
                              obtain ⟨c101, hc101, H98⟩ := Option.bind_eq_some_iff.1 H98
                              refine wla rfl rfl (q_adr rfl T58 s179_99 s181_99 (hp2.lift (Lift.ext hE99 _)) hc101) ?_
                              refine wlq rfl rfl (q_loadS rfl T58 rfl (hp2.lift (Lift.ext hE99 _)) hc101) ?_
                              refine wla rfl rfl (q_assign (v := (i64 s98.2.2)) rfl rfl) ?_
                              refine wla rfl rfl (q_assign (v := (i64 c101)) rfl rfl) ?_
                              refine wl_nil ?_
                              refine W_th ?_
                              refine W_seq ?_
                              refine W_reg (by kernel_rfl) ?_
                              refine wla rfl rfl (q_move (v := v26_99) rfl s26_99) ?_
                              refine wla rfl rfl (q_move (v := p0) rfl s0_99) ?_
                              refine wla rfl rfl (q_move (v := (i64 s98.2.2)) rfl rfl) ?_
                              refine wla rfl rfl (q_move (v := (i64 ((a0parts.length : Int)))) rfl s8_99) ?_
                              obtain ⟨c102, hc102, H98⟩ := Option.bind_eq_some_iff.1 H98
                              refine wla rfl rfl (q_remI rfl rfl rfl hc102) ?_
                              obtain ⟨c103, hc103, H98⟩ := Option.bind_eq_some_iff.1 H98
                              refine wla rfl rfl (q_adr rfl T23 rfl rfl (hp0.lift (Lift.ext hE99 _)) hc103) ?_
                              refine wlq_load rfl rfl rfl T23 rfl hp0 hc103 hE99 (fun v104 ha104 => ?_)
                              refine wls rfl rfl (stp_lit (L := [v26_99, (mp g93)]) (R := By) [v104] ([c103] : List (List UInt8)) rfl T23 rfl (by exact ⟨rfl, rfl, trivial⟩) rfl (LitR.cells (R := By) (w := w99) (L := [v26_99, (mp g93)]) (l := ([c103] : List (List UInt8))) (LitR.cons (ha104.lift (Lift.arg hE99 (nv_cons n0_99 (nv_cons n1_99 nv_nil)))) LitR.nil) (fun u x h => cells_sl u x h)) rfl (LitR.all (R := By) (w := w99) (L := [v26_99, (mp g93)]) (l := ([c103] : List (List UInt8))) (SlK.stab (Sc.stab _)) (LitR.cons (ha104.lift (Lift.arg hE99 (nv_cons n0_99 (nv_cons n1_99 nv_nil)))) LitR.nil)) ?_)
                              intro v105 w105 o105 n105 g105 l105
                              have x105 := grown_ext g105
                              have i105 : Rw w105 [v26_99, (mp g93)] v105 (([c103] : List (List UInt8))) := OwK.slk (SlK.stab (Sc.stab _)) _ o105 (fun k hk => (Old.cons (Old.cons (Old.nil _) o1_99.ltB) o0_99.lt) k (n105 k hk)) (fun _ h => h.2)
                              replace i0_99 := i0_99.lift (Lift.ext x105 _)
                              replace o0_99 := o0_99.extL (SlK.stab (Sc.stab _)) x105 (Lift.ext x105 _)
                              replace o1_99 := o1_99.ext x105
                              have e106 := hE99.trans x105
                              obtain ⟨c107, hc107, H98⟩ := Option.bind_eq_some_iff.1 H98
                              refine wls rfl rfl (stp_append (R := By) (v := v26_99) (u := v105) (SlK.stab (Sc.stab _)) [] [(mp g93)] rfl T23 rfl rfl o0_99 i105 (fun _ _ h => h) hc107 oc_sl ?_)
                              intro v107 w107 o107 g107 nx107 l107
                              replace i0_99 := i0_99.lift l107
                              replace i105 := i105.lift l107
                              have q108 : Nq (mp g93) v107 := o1_99.nxt q0_1_99.symm nx107
                              replace o1_99 := o1_99.other g107 q0_1_99.symm
                              have e109 := e106.grown g107 n0_99
                              have n110 := Nw.nxt e106 n0_99 nx107
                              refine wla rfl rfl (q_assign (v := v107) rfl rfl) ?_
                              refine wl_nil ?_
                              refine W_th ?_
                              refine W_seq ?_
                              refine W_reg (by kernel_rfl) ?_
                              refine wla rfl rfl (q_move (v := (i64 s98.2.2)) rfl rfl) ?_
                              refine wla rfl rfl (q_move (v := (i64 ((a0parts.length : Int)))) rfl s8_99) ?_
                              refine wla rfl rfl (q_ltI rfl rfl rfl) ?_
                              refine wlb rfl rfl (q_move (v := (.bool ((decide (s98.2.2 < (a0parts.length : Int)))))) rfl rfl) (fun hb111 => ?_) (fun hb111 => ?_)
                              · replace H98 := (if_pos (of_decide_eq_true hb111)).symm.trans H98
                                refine wla rfl rfl (q_move (v := (i64 c101)) rfl rfl) ?_
                                refine wla rfl rfl (q_ltI rfl rfl rfl) ?_
                                refine wlb rfl rfl (q_move (v := (.bool ((decide (c101 < 1))))) rfl rfl) (fun hb112 => ?_) (fun hb112 => ?_)
                                · replace H98 := (if_pos (of_decide_eq_true hb112)).symm.trans H98
                                  refine wlk rfl rfl ?_
                                  refine wlk rfl rfl ?_
                                  refine wla rfl rfl (q_pick_t (v := (.bool true)) rfl rfl rfl) ?_
                                  refine wla rfl rfl (q_pick_t (v := (.bool true)) rfl rfl rfl) ?_
                                  refine wl_nil ?_
                                  refine W_th ?_
                                  refine W_cond true rfl rfl (fun _ => ?_) (fun hb => by cases hb)
                                  refine W_reg (by kernel_rfl) ?_
                                  refine wla rfl rfl (q_assign (v := (i64 2)) rfl rfl) ?_
                                  refine wl_nil ?_
                                  refine bk_n ?_
                                  refine W_th ?_
                                  refine W_reg (by kernel_rfl) ?_
                                  refine wla rfl rfl (q_addI rfl s181_99 rfl) ?_
                                  refine wla rfl rfl (q_move (v := (i64 ((wI (s98.2.2 + 1))))) rfl rfl) ?_
                                  refine wl_nil ?_
                                  obtain rfl := Option.some.inj H98
                                  exact ⟨_, rfl, v107, s0_99, s2_99, s7_99, s8_99, rfl, rfl, s28_99, s179_99, s180_99, rfl, s244_99, e109, o107, n110, o1_99, n1_99, q108.symm, i0_99⟩
                                · replace H98 := (if_neg (of_decide_eq_false hb112)).symm.trans H98
                                  refine wla rfl rfl (q_move (v := (i64 c101)) rfl rfl) ?_
                                  refine wla rfl rfl (q_gtI rfl rfl rfl) ?_
                                  refine wla rfl rfl (q_pick_f (v := (.bool ((decide (255 < c101))))) rfl rfl rfl) ?_
                                  refine wla rfl rfl (q_pick_t (v := (.bool ((decide (255 < c101))))) rfl rfl rfl) ?_
                                  refine wl_nil ?_
                                  refine W_th ?_
                                  refine W_cond _ rfl rfl (fun hb113 => ?_) (fun hb113 => ?_)
                                  · replace H98 := (if_pos (of_decide_eq_true hb113)).symm.trans H98
                                    refine W_reg (by kernel_rfl) ?_
                                    refine wla rfl rfl (q_assign (v := (i64 2)) rfl rfl) ?_
                                    refine wl_nil ?_
                                    refine bk_n ?_
                                    refine W_th ?_
                                    refine W_reg (by kernel_rfl) ?_
                                    refine wla rfl rfl (q_addI rfl s181_99 rfl) ?_
                                    refine wla rfl rfl (q_move (v := (i64 ((wI (s98.2.2 + 1))))) rfl rfl) ?_
                                    refine wl_nil ?_
                                    obtain rfl := Option.some.inj H98
                                    exact ⟨_, rfl, v107, s0_99, s2_99, s7_99, s8_99, rfl, rfl, s28_99, s179_99, s180_99, rfl, s244_99, e109, o107, n110, o1_99, n1_99, q108.symm, i0_99⟩
                                  · replace H98 := (if_neg (of_decide_eq_false hb113)).symm.trans H98
                                    refine W_skip ?_
                                    refine bk_n ?_
                                    refine W_th ?_
                                    refine W_reg (by kernel_rfl) ?_
                                    refine wla rfl rfl (q_addI rfl s181_99 rfl) ?_
                                    refine wla rfl rfl (q_move (v := (i64 ((wI (s98.2.2 + 1))))) rfl rfl) ?_
                                    refine wl_nil ?_
                                    obtain rfl := Option.some.inj H98
                                    exact ⟨_, rfl, v107, s0_99, s2_99, s7_99, s8_99, rfl, s27_99, s28_99, s179_99, s180_99, rfl, s244_99, e109, o107, n110, o1_99, n1_99, q108.symm, i0_99⟩
                              · replace H98 := (if_neg (of_decide_eq_false hb111)).symm.trans H98
                                refine wlk rfl rfl ?_
                                refine wlk rfl rfl ?_
                                refine wlk rfl rfl ?_
                                refine wlk rfl rfl ?_
                                refine wlk rfl rfl ?_
                                refine wlk rfl rfl ?_
                                refine wla rfl rfl (q_pick_f (v := (.bool false)) rfl rfl rfl) ?_
                                refine wl_nil ?_
                                refine W_th ?_
                                refine W_cond false rfl rfl (fun hb => by cases hb) (fun _ => ?_)
                                refine W_skip ?_
                                refine bk_n ?_
                                refine W_th ?_
                                refine W_reg (by kernel_rfl) ?_
                                refine wla rfl rfl (q_addI rfl s181_99 rfl) ?_
                                refine wla rfl rfl (q_move (v := (i64 ((wI (s98.2.2 + 1))))) rfl rfl) ?_
                                refine wl_nil ?_
                                obtain rfl := Option.some.inj H98
                                exact ⟨_, rfl, v107, s0_99, s2_99, s7_99, s8_99, rfl, s27_99, s28_99, s179_99, s180_99, rfl, s244_99, e109, o107, n110, o1_99, n1_99, q108.symm, i0_99⟩
                            · replace H98 := (if_neg (of_decide_eq_false hb100)).symm.trans H98
                              refine W_exit ?_
                              refine th_x ?_
                              obtain rfl := Option.some.inj H98
                              obtain rfl := hr98 _ rfl
                              refine th_x ?_
                              refine bk_x ?_
                              exact ⟨v26_99, s2_99, s7_99, s8_99, s26_99, s27_99, s28_99, s244_99, hE99, o0_99, n0_99, o1_99, n1_99, q0_1_99, i0_99⟩
                        · rintro _ w115 ⟨v26_115, s2_115, s7_115, s8_115, s26_115, s27_115, s28_115, s244_115, hE115, o0_115, n0_115, o1_115, n1_115, q0_1_115, i0_115⟩
                          refine W_th ?_
                          refine W_seq ?_
                          refine W_seq ?_
                          refine W_reg (by kernel_rfl) ?_
                          refine wla rfl rfl (q_move (v := p2) rfl s2_115) ?_
                          refine wla rfl rfl (q_len rfl T58.sl rfl (hp2.lift (Lift.ext hE115 _))) ?_
                          refine wla rfl rfl (q_move (v := (i64 0)) rfl rfl) ?_
                          refine wl_nil ?_
                          refine W_th ?_
                          obtain ⟨x116, G116, H⟩ := Option.bind_eq_some_iff.1 H
                          refine W_mid (fun f w => f 2 = p2 ∧ f 7 = v25 ∧ f 8 = (i64 ((a0parts.length : Int))) ∧ f 26 = v26_115 ∧ f 27 = (i64 x116) ∧ f 244 = undef ∧ Ext w0 w ∧ OwK By w [v26_115] 22 v26_115 x98.1 ∧ Nw w0 v26_115 ∧ Fd w [v26_115] v25 r25) ?_ ?_
                          · refine W_block ?_
                            refine W_loop (fun s116 f w => f 2 = p2 ∧ f 7 = v25 ∧ f 8 = (i64 ((a0parts.length : Int))) ∧ f 26 = v26_115 ∧ f 27 = (i64 s116.1) ∧ f 28 = (mp g93) ∧ f 207 = p2 ∧ f 208 = (i64 ((a2raw.length : Int))) ∧ f 209 = (i64 s116.2.2) ∧ f 244 = undef ∧ Ext w0 w ∧ OwK By w [v26_115, (mp g93)] 22 v26_115 x98.1 ∧ Nw w0 v26_115 ∧ MpI w g93 s116.2.1 ∧ Nw w0 (mp g93) ∧ Nq v26_115 (mp g93) ∧ Fd w [v26_115, (mp g93)] v25 r25) G116 ?_ ?_
                            · exact ⟨s2_115, s7_115, s8_115, s26_115, s27_115, s28_115, rfl, rfl, rfl, s244_115, hE115, o0_115, n0_115, o1_115, n1_115, q0_1_115, i0_115⟩
                            · rintro s116 _ _ w117 ⟨s2_117, s7_117, s8_117, s26_117, s27_117, s28_117, s207_117, s208_117, s209_117, s244_117, hE117, o0_117, n0_117, o1_117, n1_117, q0_1_117, i0_117⟩ H116 hr116
                              refine W_seq ?_
                              refine W_reg (by kernel_rfl) ?_
                              refine wla rfl rfl (q_ltI rfl s209_117 s208_117) ?_
                              refine wl_nil ?_
                              refine W_th ?_
                              refine W_seq ?_
                              refine W_cond _ rfl rfl (fun hb118 => ?_) (fun hb118 => ?_)
                              · replace H116 := (if_pos (of_decide_eq_true hb118)).symm.trans H116
                                refine W_skip ?_
                                refine W_th ?_
                                refine W_seq ?_
                                refine W_block ?_
                                refine W_seq ?_
                                refine W_reg (by kernel_rfl) ?_
                                refine wla rfl rfl (q_move (v := (i64 s116.2.2)) rfl s209_117) ?_
                                obtain ⟨c119, hc119, H116⟩ := Option.bind_eq_some_iff.1 H116
                                refine wla rfl rfl (q_adr rfl T58 s207_117 s209_117 (hp2.lift (Lift.ext hE117 _)) hc119) ?_
                                refine wlq rfl rfl (q_loadS rfl T58 rfl (hp2.lift (Lift.ext hE117 _)) hc119) ?_
                                refine wla rfl rfl (q_assign (v := (i64 s116.2.2)) rfl rfl) ?_
                                refine wla rfl rfl (q_assign (v := (i64 c119)) rfl rfl) ?_
                                refine wl_nil ?_
                                refine W_th ?_
                                refine W_seq ?_
                                refine W_seq ?_
                                refine W_reg (by kernel_rfl) ?_
                                refine wla rfl rfl (q_move (v := (i64 s116.2.2)) rfl rfl) ?_
                                refine wla rfl rfl (q_move (v := (i64 ((a0parts.length : Int)))) rfl s8_117) ?_
                                refine wla rfl rfl (q_ltI rfl rfl rfl) ?_
                                refine wlb rfl rfl (q_move (v := (.bool ((decide (s116.2.2 < (a0parts.length : Int)))))) rfl rfl) (fun hb120 => ?_) (fun hb120 => ?_)
                                · replace H116 := (if_pos (of_decide_eq_true hb120)).symm.trans H116
                                  refine wla rfl rfl (q_move (v := (i64 s116.1)) rfl s27_117) ?_
                                  refine wla rfl rfl (q_eqI rfl rfl rfl) ?_
                                  refine wla rfl rfl (q_pick_t (v := (.bool ((decide (s116.1 = 0))))) rfl rfl rfl) ?_
                                  refine wlb rfl rfl (q_move (v := (.bool ((decide (s116.1 = 0))))) rfl rfl) (fun hb121 => ?_) (fun hb121 => ?_)
                                  · replace H116 := (if_pos (of_decide_eq_true hb121)).symm.trans H116
                                    refine wla rfl rfl (q_move (v := (mp g93)) rfl s28_117) ?_
                                    refine wla rfl rfl (q_move (v := (i64 c119)) rfl rfl) ?_
                                    refine wlq rfl rfl (q_lookupI rfl Try.underlying60 Try.underlying3 Try.zeroValue4 rfl rfl o1_117) ?_
                                    refine wla rfl rfl (q_pick_t (v := (.bool ((mgetI s116.2.1 c119)))) rfl rfl rfl) ?_
                                    refine wl_nil ?_
                                    refine W_th ?_
                                    refine W_cond _ rfl rfl (fun hb122 => ?_) (fun hb122 => ?_)
                                    · replace H116 := (if_pos hb122).symm.trans H116
                                      refine W_reg (by kernel_rfl) ?_
                                      refine wla rfl rfl (q_assign (v := (i64 6)) rfl rfl) ?_
                                      refine wl_nil ?_
                                      refine W_th ?_
                                      refine W_reg (by kernel_rfl) ?_
                                      refine wla rfl rfl (q_move (v := (mp g93)) rfl s28_117) ?_
                                      refine wla rfl rfl (q_move (v := (i64 c119)) rfl rfl) ?_
                                      refine wln rfl rfl (stp_mapUpdateI [v26_115] [] (.inl rfl) Try.underlying60 Try.underlying3 rfl rfl rfl o1_117 ?_)
                                      intro w123 o123 g123 l123
                                      replace i0_117 := i0_117.lift l123
                                      replace o0_117 := o0_117.other (SlK.stab (Sc.stab _)) g123 q0_1_117 l123
                                      have e124 := hE117.grown g123 n1_117
                                      refine wl_nil ?_
                                      refine bk_n ?_
                                      refine W_th ?_
                                      refine W_reg (by kernel_rfl) ?_
                                      refine wla rfl rfl (q_addI rfl s209_117 rfl) ?_
                                      refine wla rfl rfl (q_move (v := (i64 ((wI (s116.2.2 + 1))))) rfl rfl) ?_
                                      refine wl_nil ?_
                                      obtain rfl := Option.some.inj H116
                                      exact ⟨_, rfl, s2_117, s7_117, s8_117, s26_117, rfl, s28_117, s207_117, s208_117, rfl, s244_117, e124, o0_117, n0_117, o123, n1_117, q0_1_117, i0_117⟩
                                    · replace H116 := (if_neg (ne_true_of_eq_false hb122)).symm.trans H116
                                      refine W_skip ?_
                                      refine W_th ?_
                                      refine W_reg (by kernel_rfl) ?_
                                      refine wla rfl rfl (q_move (v := (mp g93)) rfl s28_117) ?_
                                      refine wla rfl rfl (q_move (v := (i64 c119)) rfl rfl) ?_
                                      refine wln rfl rfl (stp_mapUpdateI [v26_115] [] (.inl rfl) Try.underlying60 Try.underlying3 rfl rfl rfl o1_117 ?_)
                                      intro w125 o125 g125 l125
                                      replace i0_117 := i0_117.lift l125
                                      replace o0_117 := o0_117.other (SlK.stab (Sc.stab _)) g125 q0_1_117 l125
                                      have e126 := hE117.grown g125 n1_117
                                      refine wl_nil ?_
                                      refine bk_n ?_
                                      refine W_th ?_
                                      refine W_reg (by kernel_rfl) ?_
                                      refine wla rfl rfl (q_addI rfl s209_117 rfl) ?_
                                      refine wla rfl rfl (q_move (v := (i64 ((wI (s116.2.2 + 1))))) rfl rfl) ?_
                                      refine wl_nil ?_
                                      obtain rfl := Option.some.inj H116
                                      exact ⟨_, rfl, s2_117, s7_117, s8_117, s26_117, s27_117, s28_117, s207_117, s208_117, rfl, s244_117, e126, o0_117, n0_117, o125, n1_117, q0_1_117, i0_117⟩
                                  · replace H116 := (if_neg (of_decide_eq_false hb121)).symm.trans H116
                                    refine wlk rfl rfl ?_
                                    refine wlk rfl rfl ?_
                                    refine wlk rfl rfl ?_
                                    refine wla rfl rfl (q_pick_f (v := (.bool false)) rfl rfl rfl) ?_
                                    refine wl_nil ?_
                                    refine W_th ?_
                                    refine W_cond false rfl rfl (fun hb => by cases hb) (fun _ => ?_)
                                    refine W_skip ?_
                                    refine W_th ?_
                                    refine W_reg (by kernel_rfl) ?_
                                    refine wla rfl rfl (q_move (v := (mp g93)) rfl s28_117) ?_
                                    refine wla rfl rfl (q_move (v := (i64 c119)) rfl rfl) ?_
                                    refine wln rfl rfl (stp_mapUpdateI [v26_115] [] (.inl rfl) Try.underlying60 Try.underlying3 rfl rfl rfl o1_117 ?_)
                                    intro w127 o127 g127 l127
                                    replace i0_117 := i0_117.lift l127
                                    replace o0_117 := o0_117.other (SlK.stab (Sc.stab _)) g127 q0_1_117 l127
                                    have e128 := hE117.grown g127 n1_117
                                    refine wl_nil ?_
                                    refine bk_n ?_
                                    refine W_th ?_
                                    refine W_reg (by kernel_rfl) ?_
                                    refine wla rfl rfl (q_addI rfl s209_117 rfl) ?_
                                    refine wla rfl rfl (q_move (v := (i64 ((wI (s116.2.2 + 1))))) rfl rfl) ?_
                                    refine wl_nil ?_
                                    obtain rfl := Option.some.inj H116
                                    exact ⟨_, rfl, s2_117, s7_117, s8_117, s26_117, s27_117, s28_117, s207_117, s208_117, rfl, s244_117, e128, o0_117, n0_117, o127, n1_117, q0_1_117, i0_117⟩
                                · replace H116 := (if_neg (of_decide_eq_false hb120)).symm.trans H116
                                  refine wlk rfl rfl ?_
                                  refine wlk rfl rfl ?_
                                  refine wla rfl rfl (q_pick_f (v := (.bool false)) rfl rfl rfl) ?_
                                  refine wla rfl rfl (q_move (v := (.bool false)) rfl rfl) ?_
                                  refine wlk rfl rfl ?_
                                  refine wlk rfl rfl ?_
                                  refine wlk rfl rfl ?_
                                  refine wla rfl rfl (q_pick_f (v := (.bool false)) rfl rfl rfl) ?_
                                  refine wl_nil ?_
                                  refine W_th ?_
                                  refine W_cond false rfl rfl (fun hb => by cases hb) (fun _ => ?_)
                                  refine W_skip ?_
                                  refine W_th ?_
                                  refine W_reg (by kernel_rfl) ?_
                                  refine wla rfl rfl (q_move (v := (mp g93)) rfl s28_117) ?_
                                  refine wla rfl rfl (q_move (v := (i64 c119)) rfl rfl) ?_
                                  refine wln rfl rfl (stp_mapUpdateI [v26_115] [] (.inl rfl) Try.underlying60 Try.underlying3 rfl rfl rfl o1_117 ?_)
                                  intro w129 o129 g129 l129
                                  replace i0_117 := i0_117.lift l129
                                  replace o0_117 := o0_117.other (SlK.stab (Sc.stab _)) g129 q0_1_117 l129
                                  have e130 := hE117.grown g129 n1_117
                                  refine wl_nil ?_
                                  refine bk_n ?_
                                  refine W_th ?_
                                  refine W_reg (by kernel_rfl) ?_
                                  refine wla rfl rfl (q_addI rfl s209_117 rfl) ?_
                                  refine wla rfl rfl (q_move (v := (i64 ((wI (s116.2.2 + 1))))) rfl rfl) ?_
                                  refine wl_nil ?_
                                  obtain rfl := Option.some.inj H116
                                  exact ⟨_, rfl, s2_117, s7_117, s8_117, s26_117, s27_117, s28_117, s207_117, s208_117, rfl, s244_117, e130, o0_117, n0_117, o129, n1_117, q0_1_117, i0_117⟩
                              · replace H116 := (if_neg (of_decide_eq_false hb118)).symm.trans H116
                                refine W_exit ?_
                                refine th_x ?_
                                obtain rfl := Option.some.inj H116
                                obtain rfl := hr116 _ rfl
                                refine th_x ?_
                                refine bk_x ?_
                                exact ⟨s2_117, s7_117, s8_117, s26_117, s27_117, s244_117, hE117, (o0_117.weak (SlK.stab (Sc.stab _)) (fun _ h => ⟨h.1, trivial⟩)), n0_117, (i0_117.lift (Lift.sub (fun _ h => ⟨h.1, trivial⟩)))⟩
                          · rintro _ w132 ⟨s2_132, s7_132, s8_132, s26_132, s27_132, s244_132, hE132, o0_132, n0_132, i0_132⟩
                            refine W_th ?_
                            refine W_seq ?_
                            obtain ⟨x133, H133, H⟩ := Option.bind_eq_some_iff.1 H
                            refine W_mid (fun f w => f 2 = p2 ∧ f 7 = v25 ∧ f 8 = (i64 ((a0parts.length : Int))) ∧ f 26 = v26_115 ∧ f 27 = (i64 x133) ∧ f 244 = undef ∧ Ext w0 w ∧ OwK By w [v26_115] 22 v26_115 x98.1 ∧ Nw w0 v26_115 ∧ Fd w [v26_115] v25 r25) ?_ ?_
                            · refine W_seq ?_
                              refine W_reg (by kernel_rfl) ?_
                              refine wla rfl rfl (q_move (v := p2) rfl s2_132) ?_
                              refine wla rfl rfl (q_len rfl T58.sl rfl (hp2.lift (Lift.ext hE132 _))) ?_
                              refine wla rfl rfl (q_move (v := (i64 ((a0parts.length : Int)))) rfl s8_132) ?_
                              refine wla rfl rfl (q_ltI rfl rfl rfl) ?_
                              refine wl_nil ?_
                              refine W_th ?_
                              refine W_cond _ rfl rfl (fun hb134 => ?_) (fun hb134 => ?_)
                              · replace H133 := (if_pos (of_decide_eq_true hb134)).symm.trans H133
                                refine W_reg (by kernel_rfl) ?_
                                refine wla rfl rfl (q_assign (v := (i64 5)) rfl rfl) ?_
                                refine wl_nil ?_
                                obtain rfl := Option.some.inj H133
                                exact ⟨s2_132, s7_132, s8_132, s26_132, rfl, s244_132, hE132, o0_132, n0_132, i0_132⟩
                              · replace H133 := (if_neg (of_decide_eq_false hb134)).symm.trans H133
                                refine W_skip ?_
                                obtain rfl := Option.some.inj H133
                                exact ⟨s2_132, s7_132, s8_132, s26_132, s27_132, s244_132, hE132, o0_132, n0_132, i0_132⟩
                            · rintro _ w135 ⟨s2_135, s7_135, s8_135, s26_135, s27_135, s244_135, hE135, o0_135, n0_135, i0_135⟩
                              refine W_th ?_
                              refine W_seq ?_
                              refine W_reg (by kernel_rfl) ?_
                              refine wla rfl rfl (q_move (v := v25) rfl s7_135) ?_
                              refine wla rfl rfl (q_move (v := (i64 ((a0parts.length : Int)))) rfl s8_135) ?_
                              refine wla rfl rfl (q_move (v := p2) rfl s2_135) ?_
                              refine wla rfl rfl (q_move (v := v26_115) rfl s26_135) ?_
                              obtain ⟨r136, hr136, H⟩ := Option.bind_eq_some_iff.1 H
                              refine wls rfl rfl (stp_call (vs := [v25, (i64 ((a0parts.length : Int))), p2, v26_115]) Try.func36 rfl rfl rfl (ar4 rfl rfl rfl rfl) (code_Decode_calls r25 (a0parts.length : Int) a2raw x98.1 v25 p2 v26_115 r136 _ [v26_115] (Old.cons (Old.nil _) o0_135.lt) (i0_135.lift (Lift.sub (fun _ _ => trivial))) (hp2.lift (Lift.ext hE135 _)) (o0_135.rd (SlK.stab (Sc.stab _))) hr136) ?_)
                              rintro _ w136 ⟨v136_0, rfl, x136, n136_0, o136_0⟩
                              refine ⟨_, rfl, ?_⟩
                              have i136_0 : Rw w136 [v26_115] v136_0 r136.1 := OwK.slk (SlK.stab (Sc.stab _)) _ o136_0 (fun k hk => (Old.cons (Old.nil _) o0_135.lt) k (n136_0 k hk)) (fun _ h => h.2)
                              replace i0_135 := i0_135.lift (Lift.ext x136 _)
                              replace o0_135 := o0_135.extL (SlK.stab (Sc.stab _)) x136 (Lift.ext x136 _)
                              have e137 := hE135.trans x136
                              refine wla rfl rfl (q_move (v := (.tuple #[v136_0, (i64 r136.2)])) rfl rfl) ?_
                              refine wla rfl rfl (q_extract rfl rfl rfl) ?_
                              refine wla rfl rfl (q_extract rfl rfl rfl) ?_
                              refine wla rfl rfl (q_assign (v := v136_0) rfl rfl) ?_
                              refine wla rfl rfl (q_assign (v := (i64 r136.2)) rfl rfl) ?_
                              refine wl_nil ?_
                              refine W_th ?_
                              refine W_seq ?_
                              refine W_reg (by kernel_rfl) ?_
                              refine wla rfl rfl (q_move (v := (i64 r136.2)) rfl rfl) ?_
                              refine wla rfl rfl (q_move (v := (i64 x133)) rfl s27_135) ?_
                              refine wla rfl rfl (q_eqI rfl rfl rfl) ?_
                              refine wla rfl rfl (q_assign (v := (.bool ((decide (r136.2 = x133))))) rfl rfl) ?_
                              refine wl_nil ?_
                              refine W_th ?_
                              refine W_ret ?_
                              obtain rfl := Option.some.inj H
                              refine rt1 (.bool ((decide (r136.2 = x133)))) rfl rfl rfl s244_135 ?_
                              exact ⟨rfl, e137⟩

end Gk

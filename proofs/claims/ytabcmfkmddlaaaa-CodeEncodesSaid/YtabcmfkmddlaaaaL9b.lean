/- Printed by gen.py: for each Go function a pure function, and that the Go code comes to it. No condition beside the equation that says what the pure function gives. -/
import Derived.Test.YtabcmfkmddlaaaaL9a
set_option linter.unusedVariables false
set_option linter.unusedSimpArgs false
namespace Gk
open Go Go.Proofs

/-! largesse/largesselaw09.CodeEncodes -/
noncomputable def law09_CodeEncodes (a0n : Int) (a1parts : List (List UInt8)) (a2x : Int) : Option Bool :=
((law09_lives ).bind fun r1 =>
(if (!r1) = true then
((law09_lives ).bind fun r4 => some r4)
else
((law09_few a1parts).bind fun r6 =>
(if (!r6) = true then
((law09_lives ).bind fun r9 => some r9)
else
(if 20 < a0n then
(if a0n ≤ 255 then
((law09_lives ).bind fun r13 => some r13)
else
((field_New ).bind fun r15 =>
((code_Encode r15 a0n a1parts).bind fun r17 =>
((code_Piece r15 a1parts a2x).bind fun r19 =>
(((if (a1parts.length : Int) = 0 then some 2
else
(if a0n < (a1parts.length : Int) then some 2
else
(if 255 < a0n then some 2
else
((law09_unlike a1parts).bind fun r25 =>
(if r25 = true then some 3
else some 0)))))).bind fun x21 =>
(if r17.2 = x21 then
(if x21 = 0 then
((iterC (fun s83 : Int =>
(if s83 < (r17.1.length : Int) then
((idx r17.1 s83).bind fun c88 =>
((ref09_Piece a1parts (wI (s83 + 1))).bind fun r90 =>
(if c88 = r90 then some (.inl (wI (s83 + 1)))
else some (.inr (.inr false)))))
else some (.inr (.inl ())))) 0).bind (Sum.elim (fun y83 =>
((code_Encode false a0n a1parts).bind fun r95 =>
((code_Piece false a1parts a2x).bind fun r97 =>
(if r95.2 = 1 then
(if r97.2 = 1 then
(if x21 = 0 then
(if (r17.1.length : Int) = a0n then
(if (a1parts.length : Int) = 0 then
(if r19.2 = 2 then some (decide ((r19.1.length : Int) = 0))
else some false)
else
(if a2x < 1 then
(if r19.2 = 2 then some (decide ((r19.1.length : Int) = 0))
else some false)
else
(if 255 < a2x then
(if r19.2 = 2 then some (decide ((r19.1.length : Int) = 0))
else some false)
else
((law09_unlike a1parts).bind fun r109 =>
(if r109 = true then
(if r19.2 = 3 then some (decide ((r19.1.length : Int) = 0))
else some false)
else
(if r19.2 = 0 then
((ref09_Piece a1parts a2x).bind fun r116 => some (decide (r19.1 = r116)))
else some false))))))
else some false)
else
(if (a1parts.length : Int) = 0 then
(if r19.2 = 2 then some (decide ((r19.1.length : Int) = 0))
else some false)
else
(if a2x < 1 then
(if r19.2 = 2 then some (decide ((r19.1.length : Int) = 0))
else some false)
else
(if 255 < a2x then
(if r19.2 = 2 then some (decide ((r19.1.length : Int) = 0))
else some false)
else
((law09_unlike a1parts).bind fun r124 =>
(if r124 = true then
(if r19.2 = 3 then some (decide ((r19.1.length : Int) = 0))
else some false)
else
(if r19.2 = 0 then
((ref09_Piece a1parts a2x).bind fun r131 => some (decide (r19.1 = r131)))
else some false)))))))
else some false)
else some false)))) (fun q83 => some q83)))
else
(if (r17.1.length : Int) = 0 then
((iterC (fun s32 : Int =>
(if s32 < (r17.1.length : Int) then
((idx r17.1 s32).bind fun c37 =>
((ref09_Piece a1parts (wI (s32 + 1))).bind fun r39 =>
(if c37 = r39 then some (.inl (wI (s32 + 1)))
else some (.inr (.inr false)))))
else some (.inr (.inl ())))) 0).bind (Sum.elim (fun y32 =>
((code_Encode false a0n a1parts).bind fun r44 =>
((code_Piece false a1parts a2x).bind fun r46 =>
(if r44.2 = 1 then
(if r46.2 = 1 then
(if x21 = 0 then
(if (r17.1.length : Int) = a0n then
(if (a1parts.length : Int) = 0 then
(if r19.2 = 2 then some (decide ((r19.1.length : Int) = 0))
else some false)
else
(if a2x < 1 then
(if r19.2 = 2 then some (decide ((r19.1.length : Int) = 0))
else some false)
else
(if 255 < a2x then
(if r19.2 = 2 then some (decide ((r19.1.length : Int) = 0))
else some false)
else
((law09_unlike a1parts).bind fun r58 =>
(if r58 = true then
(if r19.2 = 3 then some (decide ((r19.1.length : Int) = 0))
else some false)
else
(if r19.2 = 0 then
((ref09_Piece a1parts a2x).bind fun r65 => some (decide (r19.1 = r65)))
else some false))))))
else some false)
else
(if (a1parts.length : Int) = 0 then
(if r19.2 = 2 then some (decide ((r19.1.length : Int) = 0))
else some false)
else
(if a2x < 1 then
(if r19.2 = 2 then some (decide ((r19.1.length : Int) = 0))
else some false)
else
(if 255 < a2x then
(if r19.2 = 2 then some (decide ((r19.1.length : Int) = 0))
else some false)
else
((law09_unlike a1parts).bind fun r73 =>
(if r73 = true then
(if r19.2 = 3 then some (decide ((r19.1.length : Int) = 0))
else some false)
else
(if r19.2 = 0 then
((ref09_Piece a1parts a2x).bind fun r80 => some (decide (r19.1 = r80)))
else some false)))))))
else some false)
else some false)))) (fun q32 => some q32)))
else some false))
else some false))))))
else
((field_New ).bind fun r135 =>
((code_Encode r135 a0n a1parts).bind fun r137 =>
((code_Piece r135 a1parts a2x).bind fun r139 =>
(((if (a1parts.length : Int) = 0 then some 2
else
(if a0n < (a1parts.length : Int) then some 2
else
(if 255 < a0n then some 2
else
((law09_unlike a1parts).bind fun r145 =>
(if r145 = true then some 3
else some 0)))))).bind fun x141 =>
(if r137.2 = x141 then
(if x141 = 0 then
((iterC (fun s203 : Int =>
(if s203 < (r137.1.length : Int) then
((idx r137.1 s203).bind fun c208 =>
((ref09_Piece a1parts (wI (s203 + 1))).bind fun r210 =>
(if c208 = r210 then some (.inl (wI (s203 + 1)))
else some (.inr (.inr false)))))
else some (.inr (.inl ())))) 0).bind (Sum.elim (fun y203 =>
((code_Encode false a0n a1parts).bind fun r215 =>
((code_Piece false a1parts a2x).bind fun r217 =>
(if r215.2 = 1 then
(if r217.2 = 1 then
(if x141 = 0 then
(if (r137.1.length : Int) = a0n then
(if (a1parts.length : Int) = 0 then
(if r139.2 = 2 then some (decide ((r139.1.length : Int) = 0))
else some false)
else
(if a2x < 1 then
(if r139.2 = 2 then some (decide ((r139.1.length : Int) = 0))
else some false)
else
(if 255 < a2x then
(if r139.2 = 2 then some (decide ((r139.1.length : Int) = 0))
else some false)
else
((law09_unlike a1parts).bind fun r229 =>
(if r229 = true then
(if r139.2 = 3 then some (decide ((r139.1.length : Int) = 0))
else some false)
else
(if r139.2 = 0 then
((ref09_Piece a1parts a2x).bind fun r236 => some (decide (r139.1 = r236)))
else some false))))))
else some false)
else
(if (a1parts.length : Int) = 0 then
(if r139.2 = 2 then some (decide ((r139.1.length : Int) = 0))
else some false)
else
(if a2x < 1 then
(if r139.2 = 2 then some (decide ((r139.1.length : Int) = 0))
else some false)
else
(if 255 < a2x then
(if r139.2 = 2 then some (decide ((r139.1.length : Int) = 0))
else some false)
else
((law09_unlike a1parts).bind fun r244 =>
(if r244 = true then
(if r139.2 = 3 then some (decide ((r139.1.length : Int) = 0))
else some false)
else
(if r139.2 = 0 then
((ref09_Piece a1parts a2x).bind fun r251 => some (decide (r139.1 = r251)))
else some false)))))))
else some false)
else some false)))) (fun q203 => some q203)))
else
(if (r137.1.length : Int) = 0 then
((iterC (fun s152 : Int =>
(if s152 < (r137.1.length : Int) then
((idx r137.1 s152).bind fun c157 =>
((ref09_Piece a1parts (wI (s152 + 1))).bind fun r159 =>
(if c157 = r159 then some (.inl (wI (s152 + 1)))
else some (.inr (.inr false)))))
else some (.inr (.inl ())))) 0).bind (Sum.elim (fun y152 =>
((code_Encode false a0n a1parts).bind fun r164 =>
((code_Piece false a1parts a2x).bind fun r166 =>
(if r164.2 = 1 then
(if r166.2 = 1 then
(if x141 = 0 then
(if (r137.1.length : Int) = a0n then
(if (a1parts.length : Int) = 0 then
(if r139.2 = 2 then some (decide ((r139.1.length : Int) = 0))
else some false)
else
(if a2x < 1 then
(if r139.2 = 2 then some (decide ((r139.1.length : Int) = 0))
else some false)
else
(if 255 < a2x then
(if r139.2 = 2 then some (decide ((r139.1.length : Int) = 0))
else some false)
else
((law09_unlike a1parts).bind fun r178 =>
(if r178 = true then
(if r139.2 = 3 then some (decide ((r139.1.length : Int) = 0))
else some false)
else
(if r139.2 = 0 then
((ref09_Piece a1parts a2x).bind fun r185 => some (decide (r139.1 = r185)))
else some false))))))
else some false)
else
(if (a1parts.length : Int) = 0 then
(if r139.2 = 2 then some (decide ((r139.1.length : Int) = 0))
else some false)
else
(if a2x < 1 then
(if r139.2 = 2 then some (decide ((r139.1.length : Int) = 0))
else some false)
else
(if 255 < a2x then
(if r139.2 = 2 then some (decide ((r139.1.length : Int) = 0))
else some false)
else
((law09_unlike a1parts).bind fun r193 =>
(if r193 = true then
(if r139.2 = 3 then some (decide ((r139.1.length : Int) = 0))
else some false)
else
(if r139.2 = 0 then
((ref09_Piece a1parts a2x).bind fun r200 => some (decide (r139.1 = r200)))
else some false)))))))
else some false)
else some false)))) (fun q152 => some q152)))
else some false))
else some false))))))))))
set_option maxRecDepth 100000 in
set_option maxHeartbeats 8000000 in
theorem law09_CodeEncodes_calls (a0n : Int) (a1parts : List (List UInt8)) (a2x : Int) (p1 : Value) (r : Bool) (w0 : World) (hp1 : Rw w0 [] p1 a1parts) (H : law09_CodeEncodes a0n a1parts a2x = some r) :
    Calls Try.prog 9 [(i64 a0n), p1, (i64 a2x)].toArray w0 (fun e w' => e = .returned (.bool r) ∧ Ext w0 w') := by
  have hE : Ext w0 w0 := Ext.refl w0
  unfold law09_CodeEncodes at H
  refine calls_W (n := 163) Try.func9 rfl rfl rfl ?_
  refine W_seq ?_
  refine W_reg (by kernel_rfl) ?_
  refine wla rfl rfl (q_assign (v := (.bool false)) rfl rfl) ?_
  refine wl_nil ?_
  refine W_th ?_
  refine W_seq ?_
  refine W_seq ?_
  refine W_reg (by kernel_rfl) ?_
  obtain ⟨r1, hr1, H⟩ := Option.bind_eq_some_iff.1 H
  refine wls rfl rfl (stp_call (vs := []) Try.func30 rfl rfl rfl (ar0 ) (law09_lives_calls   r1 _  hr1) ?_)
  rintro _ w1 ⟨rfl, x1⟩
  refine ⟨_, rfl, ?_⟩
  have e2 := hE.trans x1
  refine wla rfl rfl (q_not rfl rfl) ?_
  refine wlb rfl rfl (q_move (v := (.bool ((!r1)))) rfl rfl) (fun hb3 => ?_) (fun hb3 => ?_)
  · replace H := (if_pos hb3).symm.trans H
    refine wlk rfl rfl ?_
    refine wlk rfl rfl ?_
    refine wlk rfl rfl ?_
    refine wla rfl rfl (q_pick_t (v := (.bool true)) rfl rfl rfl) ?_
    refine wla rfl rfl (q_move (v := (.bool true)) rfl rfl) ?_
    refine wlk rfl rfl ?_
    refine wlk rfl rfl ?_
    refine wlk rfl rfl ?_
    refine wlk rfl rfl ?_
    refine wlk rfl rfl ?_
    refine wlk rfl rfl ?_
    refine wla rfl rfl (q_pick_t (v := (.bool true)) rfl rfl rfl) ?_
    refine wl_nil ?_
    refine W_th ?_
    refine W_cond true rfl rfl (fun _ => ?_) (fun hb => by cases hb)
    refine W_seq ?_
    refine W_reg (by kernel_rfl) ?_
    obtain ⟨r4, hr4, H⟩ := Option.bind_eq_some_iff.1 H
    refine wls rfl rfl (stp_call (vs := []) Try.func30 rfl rfl rfl (ar0 ) (law09_lives_calls   r4 _  hr4) ?_)
    rintro _ w4 ⟨rfl, x4⟩
    refine ⟨_, rfl, ?_⟩
    have e5 := e2.trans x4
    refine wla rfl rfl (q_assign (v := (.bool r4)) rfl rfl) ?_
    refine wl_nil ?_
    refine W_th ?_
    refine W_ret ?_
    refine th_r ?_
    obtain rfl := Option.some.inj H
    refine rt1 (.bool r4) rfl rfl rfl rfl ?_
    exact ⟨rfl, e5⟩
  · replace H := (if_neg (ne_true_of_eq_false hb3)).symm.trans H
    refine wla rfl rfl (q_move (v := p1) rfl rfl) ?_
    obtain ⟨r6, hr6, H⟩ := Option.bind_eq_some_iff.1 H
    refine wls rfl rfl (stp_call (vs := [p1]) Try.func31 rfl rfl rfl (ar1 rfl) (law09_few_calls a1parts p1 r6 _ (hp1.lift (Lift.ext e2 _)) hr6) ?_)
    rintro _ w6 ⟨rfl, x6⟩
    refine ⟨_, rfl, ?_⟩
    have e7 := e2.trans x6
    refine wla rfl rfl (q_not rfl rfl) ?_
    refine wla rfl rfl (q_pick_f (v := (.bool ((!r6)))) rfl rfl rfl) ?_
    refine wlb rfl rfl (q_move (v := (.bool ((!r6)))) rfl rfl) (fun hb8 => ?_) (fun hb8 => ?_)
    · replace H := (if_pos hb8).symm.trans H
      refine wlk rfl rfl ?_
      refine wlk rfl rfl ?_
      refine wlk rfl rfl ?_
      refine wlk rfl rfl ?_
      refine wlk rfl rfl ?_
      refine wlk rfl rfl ?_
      refine wla rfl rfl (q_pick_t (v := (.bool true)) rfl rfl rfl) ?_
      refine wl_nil ?_
      refine W_th ?_
      refine W_cond true rfl rfl (fun _ => ?_) (fun hb => by cases hb)
      refine W_seq ?_
      refine W_reg (by kernel_rfl) ?_
      obtain ⟨r9, hr9, H⟩ := Option.bind_eq_some_iff.1 H
      refine wls rfl rfl (stp_call (vs := []) Try.func30 rfl rfl rfl (ar0 ) (law09_lives_calls   r9 _  hr9) ?_)
      rintro _ w9 ⟨rfl, x9⟩
      refine ⟨_, rfl, ?_⟩
      have e10 := e7.trans x9
      refine wla rfl rfl (q_assign (v := (.bool r9)) rfl rfl) ?_
      refine wl_nil ?_
      refine W_th ?_
      refine W_ret ?_
      refine th_r ?_
      obtain rfl := Option.some.inj H
      refine rt1 (.bool r9) rfl rfl rfl rfl ?_
      exact ⟨rfl, e10⟩
    · replace H := (if_neg (ne_true_of_eq_false hb8)).symm.trans H
      refine wla rfl rfl (q_move (v := (i64 a0n)) rfl rfl) ?_
      refine wla rfl rfl (q_gtI rfl rfl rfl) ?_
      refine wlb rfl rfl (q_move (v := (.bool ((decide (20 < a0n))))) rfl rfl) (fun hb11 => ?_) (fun hb11 => ?_)
      · replace H := (if_pos (of_decide_eq_true hb11)).symm.trans H
        refine wla rfl rfl (q_move (v := (i64 a0n)) rfl rfl) ?_
        refine wla rfl rfl (q_leI rfl rfl rfl) ?_
        refine wla rfl rfl (q_pick_t (v := (.bool ((decide (a0n ≤ 255))))) rfl rfl rfl) ?_
        refine wla rfl rfl (q_pick_f (v := (.bool ((decide (a0n ≤ 255))))) rfl rfl rfl) ?_
        refine wl_nil ?_
        refine W_th ?_
        refine W_cond _ rfl rfl (fun hb12 => ?_) (fun hb12 => ?_)
        · replace H := (if_pos (of_decide_eq_true hb12)).symm.trans H
          refine W_seq ?_
          refine W_reg (by kernel_rfl) ?_
          obtain ⟨r13, hr13, H⟩ := Option.bind_eq_some_iff.1 H
          refine wls rfl rfl (stp_call (vs := []) Try.func30 rfl rfl rfl (ar0 ) (law09_lives_calls   r13 _  hr13) ?_)
          rintro _ w13 ⟨rfl, x13⟩
          refine ⟨_, rfl, ?_⟩
          have e14 := e7.trans x13
          refine wla rfl rfl (q_assign (v := (.bool r13)) rfl rfl) ?_
          refine wl_nil ?_
          refine W_th ?_
          refine W_ret ?_
          refine th_r ?_
          obtain rfl := Option.some.inj H
          refine rt1 (.bool r13) rfl rfl rfl rfl ?_
          exact ⟨rfl, e14⟩
        · replace H := (if_neg (of_decide_eq_false hb12)).symm.trans H
          refine W_skip ?_
          refine W_th ?_
          refine W_seq ?_
          refine W_reg (by kernel_rfl) ?_
          obtain ⟨r15, hr15, H⟩ := Option.bind_eq_some_iff.1 H
          refine wls rfl rfl (stp_call (vs := []) Try.func14 rfl rfl rfl (ar0 ) (field_New_calls   r15 _ [] (Old.nil _)  hr15) ?_)
          rintro _ w15 ⟨v15, rfl, x15, i15_0⟩
          refine ⟨_, rfl, ?_⟩
          have e16 := e7.trans x15
          refine wla rfl rfl (q_assign (v := v15) rfl rfl) ?_
          refine wl_nil ?_
          refine W_th ?_
          refine W_seq ?_
          refine W_reg (by kernel_rfl) ?_
          refine wla rfl rfl (q_move (v := v15) rfl rfl) ?_
          refine wla rfl rfl (q_move (v := (i64 a0n)) rfl rfl) ?_
          refine wla rfl rfl (q_move (v := p1) rfl rfl) ?_
          obtain ⟨r17, hr17, H⟩ := Option.bind_eq_some_iff.1 H
          refine wls rfl rfl (stp_call (vs := [v15, (i64 a0n), p1]) Try.func33 rfl rfl rfl (ar3 rfl rfl rfl) (code_Encode_calls r15 a0n a1parts v15 p1 r17 _ [] (Old.nil _) (i15_0.lift (Lift.sub (fun _ _ => trivial))) (hp1.lift (Lift.ext e16 _)) hr17) ?_)
          rintro _ w17 ⟨v17_0, rfl, x17, n17_0, o17_0⟩
          refine ⟨_, rfl, ?_⟩
          have i17_0 : Rw w17 [] v17_0 r17.1 := OwK.slk (SlK.stab (Sc.stab _)) _ o17_0 (fun k hk => (Old.nil _) k (n17_0 k hk)) (fun _ h => h.2)
          replace i15_0 := i15_0.lift (Lift.ext x17 _)
          have e18 := e16.trans x17
          refine wla rfl rfl (q_move (v := (.tuple #[v17_0, (i64 r17.2)])) rfl rfl) ?_
          refine wla rfl rfl (q_extract rfl rfl rfl) ?_
          refine wla rfl rfl (q_extract rfl rfl rfl) ?_
          refine wla rfl rfl (q_assign (v := v17_0) rfl rfl) ?_
          refine wla rfl rfl (q_assign (v := (i64 r17.2)) rfl rfl) ?_
          refine wl_nil ?_
          refine W_th ?_
          refine W_seq ?_
          refine W_reg (by kernel_rfl) ?_
          refine wla rfl rfl (q_move (v := v15) rfl rfl) ?_
          refine wla rfl rfl (q_move (v := p1) rfl rfl) ?_
          refine wla rfl rfl (q_move (v := (i64 a2x)) rfl rfl) ?_
          obtain ⟨r19, hr19, H⟩ := Option.bind_eq_some_iff.1 H
          refine wls rfl rfl (stp_call (vs := [v15, p1, (i64 a2x)]) Try.func34 rfl rfl rfl (ar3 rfl rfl rfl) (code_Piece_calls r15 a1parts a2x v15 p1 r19 _ (i15_0.lift (Lift.sub (fun _ _ => trivial))) (hp1.lift (Lift.ext e18 _)) hr19) ?_)
          rintro _ w19 ⟨v19_0, rfl, x19, n19_0, o19_0⟩
          refine ⟨_, rfl, ?_⟩
          have i19_0 : By w19 [] v19_0 r19.1 := OwK.slk (Sc.stab _) _ (OwK.scal o19_0 (v19_0 :: [])) (fun k hk => (Old.nil _) k (n19_0 k hk)) (fun _ h => h.2)
          replace i15_0 := i15_0.lift (Lift.ext x19 _)
          replace i17_0 := i17_0.lift (Lift.ext x19 _)
          have e20 := e18.trans x19
          refine wla rfl rfl (q_move (v := (.tuple #[v19_0, (i64 r19.2)])) rfl rfl) ?_
          refine wla rfl rfl (q_extract rfl rfl rfl) ?_
          refine wla rfl rfl (q_extract rfl rfl rfl) ?_
          refine wla rfl rfl (q_assign (v := v19_0) rfl rfl) ?_
          refine wla rfl rfl (q_assign (v := (i64 r19.2)) rfl rfl) ?_
          refine wl_nil ?_
          refine W_th ?_
          refine W_seq ?_
          refine W_reg (by kernel_rfl) ?_
          refine wla rfl rfl (q_assign (v := (i64 0)) rfl rfl) ?_
          refine wl_nil ?_
          refine W_th ?_
          refine W_seq ?_
          obtain ⟨x21, H21, H⟩ := Option.bind_eq_some_iff.1 H
          refine W_mid (fun f w => f 0 = (i64 a0n) ∧ f 1 = p1 ∧ f 2 = (i64 a2x) ∧ f 8 = v17_0 ∧ f 9 = (i64 r17.2) ∧ f 10 = v19_0 ∧ f 11 = (i64 r19.2) ∧ f 12 = (i64 x21) ∧ f 163 = undef ∧ Ext w0 w ∧ Rw w [] v17_0 r17.1 ∧ By w [] v19_0 r19.1) ?_ ?_
          · refine W_block ?_
            refine W_seq ?_
            refine W_reg (by kernel_rfl) ?_
            refine wla rfl rfl (q_move (v := p1) rfl rfl) ?_
            refine wla rfl rfl (q_len rfl T23.sl rfl (hp1.lift (Lift.ext e20 _))) ?_
            refine wla rfl rfl (q_eqI rfl rfl rfl) ?_
            refine wlb rfl rfl (q_move (v := (.bool ((decide ((a1parts.length : Int) = 0))))) rfl rfl) (fun hb22 => ?_) (fun hb22 => ?_)
            · replace H21 := (if_pos (of_decide_eq_true hb22)).symm.trans H21
              refine wlk rfl rfl ?_
              refine wlk rfl rfl ?_
              refine wlk rfl rfl ?_
              refine wlk rfl rfl ?_
              refine wla rfl rfl (q_pick_t (v := (.bool true)) rfl rfl rfl) ?_
              refine wla rfl rfl (q_move (v := (.bool true)) rfl rfl) ?_
              refine wlk rfl rfl ?_
              refine wlk rfl rfl ?_
              refine wla rfl rfl (q_pick_t (v := (.bool true)) rfl rfl rfl) ?_
              refine wla rfl rfl (q_assign (v := (.bool true)) rfl rfl) ?_
              refine wl_nil ?_
              refine W_th ?_
              refine W_cond true rfl rfl (fun _ => ?_) (fun hb => by cases hb)
              refine W_reg (by kernel_rfl) ?_
              refine wla rfl rfl (q_assign (v := (i64 2)) rfl rfl) ?_
              refine wl_nil ?_
              refine bk_n ?_
              obtain rfl := Option.some.inj H21
              exact ⟨rfl, rfl, rfl, rfl, rfl, rfl, rfl, rfl, rfl, e20, i17_0, i19_0⟩
            · replace H21 := (if_neg (of_decide_eq_false hb22)).symm.trans H21
              refine wla rfl rfl (q_move (v := p1) rfl rfl) ?_
              refine wla rfl rfl (q_len rfl T23.sl rfl (hp1.lift (Lift.ext e20 _))) ?_
              refine wla rfl rfl (q_move (v := (i64 a0n)) rfl rfl) ?_
              refine wla rfl rfl (q_gtI rfl rfl rfl) ?_
              refine wla rfl rfl (q_pick_f (v := (.bool ((decide (a0n < (a1parts.length : Int)))))) rfl rfl rfl) ?_
              refine wlb rfl rfl (q_move (v := (.bool ((decide (a0n < (a1parts.length : Int)))))) rfl rfl) (fun hb23 => ?_) (fun hb23 => ?_)
              · replace H21 := (if_pos (of_decide_eq_true hb23)).symm.trans H21
                refine wlk rfl rfl ?_
                refine wlk rfl rfl ?_
                refine wla rfl rfl (q_pick_t (v := (.bool true)) rfl rfl rfl) ?_
                refine wla rfl rfl (q_assign (v := (.bool true)) rfl rfl) ?_
                refine wl_nil ?_
                refine W_th ?_
                refine W_cond true rfl rfl (fun _ => ?_) (fun hb => by cases hb)
                refine W_reg (by kernel_rfl) ?_
                refine wla rfl rfl (q_assign (v := (i64 2)) rfl rfl) ?_
                refine wl_nil ?_
                refine bk_n ?_
                obtain rfl := Option.some.inj H21
                exact ⟨rfl, rfl, rfl, rfl, rfl, rfl, rfl, rfl, rfl, e20, i17_0, i19_0⟩
              · replace H21 := (if_neg (of_decide_eq_false hb23)).symm.trans H21
                refine wla rfl rfl (q_move (v := (i64 a0n)) rfl rfl) ?_
                refine wla rfl rfl (q_gtI rfl rfl rfl) ?_
                refine wla rfl rfl (q_pick_f (v := (.bool ((decide (255 < a0n))))) rfl rfl rfl) ?_
                refine wla rfl rfl (q_assign (v := (.bool ((decide (255 < a0n))))) rfl rfl) ?_
                refine wl_nil ?_
                refine W_th ?_
                refine W_cond _ rfl rfl (fun hb24 => ?_) (fun hb24 => ?_)
                · replace H21 := (if_pos (of_decide_eq_true hb24)).symm.trans H21
                  refine W_reg (by kernel_rfl) ?_
                  refine wla rfl rfl (q_assign (v := (i64 2)) rfl rfl) ?_
                  refine wl_nil ?_
                  refine bk_n ?_
                  obtain rfl := Option.some.inj H21
                  exact ⟨rfl, rfl, rfl, rfl, rfl, rfl, rfl, rfl, rfl, e20, i17_0, i19_0⟩
                · replace H21 := (if_neg (of_decide_eq_false hb24)).symm.trans H21
                  refine W_seq ?_
                  refine W_reg (by kernel_rfl) ?_
                  refine wla rfl rfl (q_move (v := p1) rfl rfl) ?_
                  obtain ⟨r25, hr25, H21⟩ := Option.bind_eq_some_iff.1 H21
                  refine wls rfl rfl (stp_call (vs := [p1]) Try.func32 rfl rfl rfl (ar1 rfl) (law09_unlike_calls a1parts p1 r25 _ (hp1.lift (Lift.ext e20 _)) hr25) ?_)
                  rintro _ w25 ⟨rfl, x25⟩
                  refine ⟨_, rfl, ?_⟩
                  replace i15_0 := i15_0.lift (Lift.ext x25 _)
                  replace i17_0 := i17_0.lift (Lift.ext x25 _)
                  replace i19_0 := i19_0.lift (Lift.ext x25 _)
                  have e26 := e20.trans x25
                  refine wla rfl rfl (q_assign (v := (.bool r25)) rfl rfl) ?_
                  refine wl_nil ?_
                  refine W_th ?_
                  refine W_cond _ rfl rfl (fun hb27 => ?_) (fun hb27 => ?_)
                  · replace H21 := (if_pos hb27).symm.trans H21
                    refine W_reg (by kernel_rfl) ?_
                    refine wla rfl rfl (q_assign (v := (i64 3)) rfl rfl) ?_
                    refine wl_nil ?_
                    refine bk_n ?_
                    obtain rfl := Option.some.inj H21
                    exact ⟨rfl, rfl, rfl, rfl, rfl, rfl, rfl, rfl, rfl, e26, i17_0, i19_0⟩
                  · replace H21 := (if_neg (ne_true_of_eq_false hb27)).symm.trans H21
                    refine W_skip ?_
                    refine bk_n ?_
                    obtain rfl := Option.some.inj H21
                    exact ⟨rfl, rfl, rfl, rfl, rfl, rfl, rfl, rfl, rfl, e26, i17_0, i19_0⟩
          · rintro _ w28 ⟨s0_28, s1_28, s2_28, s8_28, s9_28, s10_28, s11_28, s12_28, s163_28, hE28, i0_28, i1_28⟩
            refine W_th ?_
            refine W_seq ?_
            refine W_seq ?_
            refine W_reg (by kernel_rfl) ?_
            refine wla rfl rfl (q_move (v := (i64 r17.2)) rfl s9_28) ?_
            refine wla rfl rfl (q_move (v := (i64 x21)) rfl s12_28) ?_
            refine wla rfl rfl (q_neI rfl rfl rfl) ?_
            refine wlb rfl rfl (q_move (v := (.bool ((!decide (r17.2 = x21))))) rfl rfl) (fun hb29 => ?_) (fun hb29 => ?_)
            · replace H := (if_neg (ndec_t hb29)).symm.trans H
              refine wlk rfl rfl ?_
              refine wlk rfl rfl ?_
              refine wlk rfl rfl ?_
              refine wlk rfl rfl ?_
              refine wlk rfl rfl ?_
              refine wlk rfl rfl ?_
              refine wlk rfl rfl ?_
              refine wla rfl rfl (q_pick_t (v := (.bool true)) rfl rfl rfl) ?_
              refine wl_nil ?_
              refine W_th ?_
              refine W_cond true rfl rfl (fun _ => ?_) (fun hb => by cases hb)
              refine W_seq ?_
              refine W_reg (by kernel_rfl) ?_
              refine wla rfl rfl (q_assign (v := (.bool false)) rfl rfl) ?_
              refine wl_nil ?_
              refine W_th ?_
              refine W_ret ?_
              refine th_r ?_
              obtain rfl := Option.some.inj H
              refine rt1 (.bool false) rfl rfl rfl s163_28 ?_
              exact ⟨rfl, hE28⟩
            · replace H := (if_pos (ndec_f hb29)).symm.trans H
              refine wla rfl rfl (q_move (v := (i64 x21)) rfl s12_28) ?_
              refine wla rfl rfl (q_neI rfl rfl rfl) ?_
              refine wlb rfl rfl (q_move (v := (.bool ((!decide (x21 = 0))))) rfl rfl) (fun hb30 => ?_) (fun hb30 => ?_)
              · replace H := (if_neg (ndec_t hb30)).symm.trans H
                refine wla rfl rfl (q_move (v := v17_0) rfl s8_28) ?_
                refine wla rfl rfl (q_len rfl T23.sl rfl i0_28) ?_
                refine wla rfl rfl (q_neI rfl rfl rfl) ?_
                refine wla rfl rfl (q_pick_t (v := (.bool ((!decide ((r17.1.length : Int) = 0))))) rfl rfl rfl) ?_
                refine wla rfl rfl (q_pick_f (v := (.bool ((!decide ((r17.1.length : Int) = 0))))) rfl rfl rfl) ?_
                refine wl_nil ?_
                refine W_th ?_
                refine W_cond _ rfl rfl (fun hb31 => ?_) (fun hb31 => ?_)
                · replace H := (if_neg (ndec_t hb31)).symm.trans H
                  refine W_seq ?_
                  refine W_reg (by kernel_rfl) ?_
                  refine wla rfl rfl (q_assign (v := (.bool false)) rfl rfl) ?_
                  refine wl_nil ?_
                  refine W_th ?_
                  refine W_ret ?_
                  refine th_r ?_
                  obtain rfl := Option.some.inj H
                  refine rt1 (.bool false) rfl rfl rfl s163_28 ?_
                  exact ⟨rfl, hE28⟩
                · replace H := (if_pos (ndec_f hb31)).symm.trans H
                  refine W_skip ?_
                  refine W_th ?_
                  refine W_seq ?_
                  refine W_seq ?_
                  refine W_reg (by kernel_rfl) ?_
                  refine wla rfl rfl (q_move (v := v17_0) rfl s8_28) ?_
                  refine wla rfl rfl (q_len rfl T23.sl rfl i0_28) ?_
                  refine wla rfl rfl (q_move (v := (i64 0)) rfl rfl) ?_
                  refine wl_nil ?_
                  refine W_th ?_
                  obtain ⟨x32, G32, H⟩ := Option.bind_eq_some_iff.1 H
                  refine W_mid (fun f w => ∃ y32, x32 = .inl y32 ∧ f 0 = (i64 a0n) ∧ f 1 = p1 ∧ f 2 = (i64 a2x) ∧ f 8 = v17_0 ∧ f 10 = v19_0 ∧ f 11 = (i64 r19.2) ∧ f 12 = (i64 x21) ∧ f 163 = undef ∧ Ext w0 w ∧ Rw w [] v17_0 r17.1 ∧ By w [] v19_0 r19.1) ?_ ?_
                  · refine W_block ?_
                    refine W_loop (fun s32 f w => f 0 = (i64 a0n) ∧ f 1 = p1 ∧ f 2 = (i64 a2x) ∧ f 8 = v17_0 ∧ f 10 = v19_0 ∧ f 11 = (i64 r19.2) ∧ f 12 = (i64 x21) ∧ f 79 = (i64 ((r17.1.length : Int))) ∧ f 80 = (i64 s32) ∧ f 163 = undef ∧ Ext w0 w ∧ Rw w [] v17_0 r17.1 ∧ By w [] v19_0 r19.1) G32 ?_ ?_
                    · exact ⟨s0_28, s1_28, s2_28, s8_28, s10_28, s11_28, s12_28, rfl, rfl, s163_28, hE28, i0_28, i1_28⟩
                    · rintro s32 _ _ w33 ⟨s0_33, s1_33, s2_33, s8_33, s10_33, s11_33, s12_33, s79_33, s80_33, s163_33, hE33, i0_33, i1_33⟩ H32 hr32
                      refine W_seq ?_
                      refine W_reg (by kernel_rfl) ?_
                      refine wla rfl rfl (q_ltI rfl s80_33 s79_33) ?_
                      refine wl_nil ?_
                      refine W_th ?_
                      refine W_seq ?_
                      refine W_cond _ rfl rfl (fun hb34 => ?_) (fun hb34 => ?_)
                      · replace H32 := (if_pos (of_decide_eq_true hb34)).symm.trans H32
                        refine W_skip ?_
                        refine W_th ?_
                        refine W_seq ?_
                        refine W_block ?_
                        refine W_seq ?_
                        refine W_reg (by kernel_rfl) ?_
                        refine wla rfl rfl (q_move (v := (i64 s32)) rfl s80_33) ?_
                        refine wla rfl rfl (q_assign (v := (i64 s32)) rfl rfl) ?_
                        refine wl_nil ?_
                        refine W_th ?_
                        refine W_seq ?_
                        refine W_draw [3, 4, 9] [(0, 0), (1, 0), (2, 0), (3, 1), (4, 1), (5, 0), (6, 0), (7, 0), (8, 2), (9, 1), (10, 0)] mixed (by kernel_rfl) (by kernel_rfl) (by kernel_rfl) (by kernel_rfl) ?_
                        have x35 := Ext.drew w33
                        replace i0_33 := i0_33.lift (Lift.ext x35 _)
                        replace i1_33 := i1_33.lift (Lift.ext x35 _)
                        have e36 := hE33.trans x35
                        refine wsa rfl rfl rfl (q_move (v := v17_0) rfl s8_33) ?_
                        refine wsa rfl rfl rfl (q_move (v := (i64 s32)) rfl rfl) ?_
                        obtain ⟨c37, hc37, H32⟩ := Option.bind_eq_some_iff.1 H32
                        refine wsa rfl rfl rfl (q_adr rfl T23 rfl rfl i0_33 hc37) ?_
                        refine wsq_load rfl rfl rfl rfl T23 rfl i0_33 hc37 (Ext.refl _) (fun v38 i38 => ?_)
                        refine wsq rfl rfl rfl (q_str rfl T22 rfl rfl rfl i38) ?_
                        refine wsa rfl rfl rfl (q_move (v := p1) rfl s1_33) ?_
                        refine wsa rfl rfl rfl (q_move (v := (i64 s32)) rfl rfl) ?_
                        refine wsa rfl rfl rfl (q_addI rfl rfl rfl) ?_
                        obtain ⟨r39, hr39, H32⟩ := Option.bind_eq_some_iff.1 H32
                        refine wss rfl rfl rfl (stp_call (vs := [p1, (i64 ((wI (s32 + 1))))]) Try.func35 rfl rfl rfl (ar2 rfl rfl) (ref09_Piece_calls a1parts (wI (s32 + 1)) p1 r39 _ (hp1.lift (Lift.ext e36 _)) hr39) ?_)
                        rintro _ w39 ⟨v39, rfl, x39, n39_0, o39_0⟩
                        refine ⟨_, rfl, x39, ?_⟩
                        have i39_0 : By w39 [] v39 r39 := OwK.slk (Sc.stab _) _ (OwK.scal o39_0 (v39 :: [])) (fun k hk => (Old.nil _) k (n39_0 k hk)) (fun _ h => h.2)
                        replace i0_33 := i0_33.lift (Lift.ext x39 _)
                        replace i1_33 := i1_33.lift (Lift.ext x39 _)
                        replace i38 := i38.lift (Lift.ext x39 _)
                        have e40 := e36.trans x39
                        refine wsq rfl rfl rfl (q_str rfl T22 rfl rfl rfl i39_0) ?_
                        refine wsa rfl rfl rfl (q_neS rfl rfl rfl) ?_
                        refine ws_nil ?_
                        refine W_th ?_
                        refine W_cond _ rfl rfl (fun hb41 => ?_) (fun hb41 => ?_)
                        · replace H32 := (if_neg (ndec_t hb41)).symm.trans H32
                          refine W_seq ?_
                          refine W_reg (by kernel_rfl) ?_
                          refine wla rfl rfl (q_assign (v := (.bool false)) rfl rfl) ?_
                          refine wl_nil ?_
                          refine W_th ?_
                          refine W_ret ?_
                          refine bk_r ?_
                          refine th_r ?_
                          obtain rfl := Option.some.inj H32
                          obtain rfl := hr32 _ rfl
                          simp only [Sum.elim_inr] at H
                          refine th_r ?_
                          refine bk_r ?_
                          refine th_r ?_
                          refine th_r ?_
                          obtain rfl := Option.some.inj H
                          refine rt1 (.bool false) rfl rfl rfl s163_33 ?_
                          exact ⟨rfl, e40⟩
                        · replace H32 := (if_pos (ndec_f hb41)).symm.trans H32
                          refine W_skip ?_
                          refine bk_n ?_
                          refine W_th ?_
                          refine W_reg (by kernel_rfl) ?_
                          refine wla rfl rfl (q_addI rfl s80_33 rfl) ?_
                          refine wla rfl rfl (q_move (v := (i64 ((wI (s32 + 1))))) rfl rfl) ?_
                          refine wl_nil ?_
                          obtain rfl := Option.some.inj H32
                          exact ⟨_, rfl, s0_33, s1_33, s2_33, s8_33, s10_33, s11_33, s12_33, s79_33, rfl, s163_33, e40, i0_33, i1_33⟩
                      · replace H32 := (if_neg (of_decide_eq_false hb34)).symm.trans H32
                        refine W_exit ?_
                        refine th_x ?_
                        obtain rfl := Option.some.inj H32
                        obtain rfl := hr32 _ rfl
                        refine th_x ?_
                        refine bk_x ?_
                        exact ⟨_, rfl, s0_33, s1_33, s2_33, s8_33, s10_33, s11_33, s12_33, s163_33, hE33, i0_33, i1_33⟩
                  · rintro _ w43 ⟨y32, rfl, s0_43, s1_43, s2_43, s8_43, s10_43, s11_43, s12_43, s163_43, hE43, i0_43, i1_43⟩
                    simp only [Sum.elim_inl] at H
                    refine W_th ?_
                    refine W_seq ?_
                    refine W_reg (by kernel_rfl) ?_
                    refine wla rfl rfl (q_move (v := (i64 a0n)) rfl s0_43) ?_
                    refine wla rfl rfl (q_move (v := p1) rfl s1_43) ?_
                    obtain ⟨r44, hr44, H⟩ := Option.bind_eq_some_iff.1 H
                    refine wls rfl rfl (stp_call (vs := [(.pointer none), (i64 a0n), p1]) Try.func33 rfl rfl rfl (ar3 rfl rfl rfl) (code_Encode_calls false a0n a1parts (.pointer none) p1 r44 _ [] (Old.nil _) (Fd.nil _ _) (hp1.lift (Lift.ext hE43 _)) hr44) ?_)
                    rintro _ w44 ⟨v44_0, rfl, x44, n44_0, o44_0⟩
                    refine ⟨_, rfl, ?_⟩
                    have i44_0 : Rw w44 [] v44_0 r44.1 := OwK.slk (SlK.stab (Sc.stab _)) _ o44_0 (fun k hk => (Old.nil _) k (n44_0 k hk)) (fun _ h => h.2)
                    replace i0_43 := i0_43.lift (Lift.ext x44 _)
                    replace i1_43 := i1_43.lift (Lift.ext x44 _)
                    have e45 := hE43.trans x44
                    refine wla rfl rfl (q_move (v := (.tuple #[v44_0, (i64 r44.2)])) rfl rfl) ?_
                    refine wla rfl rfl (q_extract rfl rfl rfl) ?_
                    refine wla rfl rfl (q_extract rfl rfl rfl) ?_
                    refine wla rfl rfl (q_assign (v := v44_0) rfl rfl) ?_
                    refine wla rfl rfl (q_assign (v := (i64 r44.2)) rfl rfl) ?_
                    refine wl_nil ?_
                    refine W_th ?_
                    refine W_seq ?_
                    refine W_reg (by kernel_rfl) ?_
                    refine wla rfl rfl (q_move (v := p1) rfl s1_43) ?_
                    refine wla rfl rfl (q_move (v := (i64 a2x)) rfl s2_43) ?_
                    obtain ⟨r46, hr46, H⟩ := Option.bind_eq_some_iff.1 H
                    refine wls rfl rfl (stp_call (vs := [(.pointer none), p1, (i64 a2x)]) Try.func34 rfl rfl rfl (ar3 rfl rfl rfl) (code_Piece_calls false a1parts a2x (.pointer none) p1 r46 _ (Fd.nil _ _) (hp1.lift (Lift.ext e45 _)) hr46) ?_)
                    rintro _ w46 ⟨v46_0, rfl, x46, n46_0, o46_0⟩
                    refine ⟨_, rfl, ?_⟩
                    have i46_0 : By w46 [] v46_0 r46.1 := OwK.slk (Sc.stab _) _ (OwK.scal o46_0 (v46_0 :: [])) (fun k hk => (Old.nil _) k (n46_0 k hk)) (fun _ h => h.2)
                    replace i0_43 := i0_43.lift (Lift.ext x46 _)
                    replace i1_43 := i1_43.lift (Lift.ext x46 _)
                    replace i44_0 := i44_0.lift (Lift.ext x46 _)
                    have e47 := e45.trans x46
                    refine wla rfl rfl (q_move (v := (.tuple #[v46_0, (i64 r46.2)])) rfl rfl) ?_
                    refine wla rfl rfl (q_extract rfl rfl rfl) ?_
                    refine wla rfl rfl (q_extract rfl rfl rfl) ?_
                    refine wla rfl rfl (q_assign (v := v46_0) rfl rfl) ?_
                    refine wla rfl rfl (q_assign (v := (i64 r46.2)) rfl rfl) ?_
                    refine wl_nil ?_
                    refine W_th ?_
                    refine W_seq ?_
                    refine W_seq ?_
                    refine W_reg (by kernel_rfl) ?_
                    refine wla rfl rfl (q_move (v := (i64 r44.2)) rfl rfl) ?_
                    refine wla rfl rfl (q_neI rfl rfl rfl) ?_
                    refine wlb rfl rfl (q_move (v := (.bool ((!decide (r44.2 = 1))))) rfl rfl) (fun hb48 => ?_) (fun hb48 => ?_)
                    · replace H := (if_neg (ndec_t hb48)).symm.trans H
                      refine wlk rfl rfl ?_
                      refine wlk rfl rfl ?_
                      refine wla rfl rfl (q_pick_t (v := (.bool true)) rfl rfl rfl) ?_
                      refine wla rfl rfl (q_move (v := (.bool true)) rfl rfl) ?_
                      refine wlk rfl rfl ?_
                      refine wlk rfl rfl ?_
                      refine wlk rfl rfl ?_
                      refine wlk rfl rfl ?_
                      refine wlk rfl rfl ?_
                      refine wlk rfl rfl ?_
                      refine wlk rfl rfl ?_
                      refine wlk rfl rfl ?_
                      refine wla rfl rfl (q_pick_t (v := (.bool true)) rfl rfl rfl) ?_
                      refine wl_nil ?_
                      refine W_th ?_
                      refine W_cond true rfl rfl (fun _ => ?_) (fun hb => by cases hb)
                      refine W_seq ?_
                      refine W_reg (by kernel_rfl) ?_
                      refine wla rfl rfl (q_assign (v := (.bool false)) rfl rfl) ?_
                      refine wl_nil ?_
                      refine W_th ?_
                      refine W_ret ?_
                      refine th_r ?_
                      obtain rfl := Option.some.inj H
                      refine rt1 (.bool false) rfl rfl rfl s163_43 ?_
                      exact ⟨rfl, e47⟩
                    · replace H := (if_pos (ndec_f hb48)).symm.trans H
                      refine wla rfl rfl (q_move (v := (i64 r46.2)) rfl rfl) ?_
                      refine wla rfl rfl (q_neI rfl rfl rfl) ?_
                      refine wla rfl rfl (q_pick_f (v := (.bool ((!decide (r46.2 = 1))))) rfl rfl rfl) ?_
                      refine wlb rfl rfl (q_move (v := (.bool ((!decide (r46.2 = 1))))) rfl rfl) (fun hb49 => ?_) (fun hb49 => ?_)
                      · replace H := (if_neg (ndec_t hb49)).symm.trans H
                        refine wlk rfl rfl ?_
                        refine wlk rfl rfl ?_
                        refine wlk rfl rfl ?_
                        refine wlk rfl rfl ?_
                        refine wlk rfl rfl ?_
                        refine wlk rfl rfl ?_
                        refine wlk rfl rfl ?_
                        refine wlk rfl rfl ?_
                        refine wla rfl rfl (q_pick_t (v := (.bool true)) rfl rfl rfl) ?_
                        refine wl_nil ?_
                        refine W_th ?_
                        refine W_cond true rfl rfl (fun _ => ?_) (fun hb => by cases hb)
                        refine W_seq ?_
                        refine W_reg (by kernel_rfl) ?_
                        refine wla rfl rfl (q_assign (v := (.bool false)) rfl rfl) ?_
                        refine wl_nil ?_
                        refine W_th ?_
                        refine W_ret ?_
                        refine th_r ?_
                        obtain rfl := Option.some.inj H
                        refine rt1 (.bool false) rfl rfl rfl s163_43 ?_
                        exact ⟨rfl, e47⟩
                      · replace H := (if_pos (ndec_f hb49)).symm.trans H
                        refine wla rfl rfl (q_move (v := (i64 x21)) rfl s12_43) ?_
                        refine wla rfl rfl (q_eqI rfl rfl rfl) ?_
                        refine wlb rfl rfl (q_move (v := (.bool ((decide (x21 = 0))))) rfl rfl) (fun hb50 => ?_) (fun hb50 => ?_)
                        · replace H := (if_pos (of_decide_eq_true hb50)).symm.trans H
                          refine wla rfl rfl (q_move (v := v17_0) rfl s8_43) ?_
                          refine wla rfl rfl (q_len rfl T23.sl rfl i0_43) ?_
                          refine wla rfl rfl (q_move (v := (i64 a0n)) rfl s0_43) ?_
                          refine wla rfl rfl (q_neI rfl rfl rfl) ?_
                          refine wla rfl rfl (q_pick_t (v := (.bool ((!decide ((r17.1.length : Int) = a0n))))) rfl rfl rfl) ?_
                          refine wla rfl rfl (q_pick_f (v := (.bool ((!decide ((r17.1.length : Int) = a0n))))) rfl rfl rfl) ?_
                          refine wl_nil ?_
                          refine W_th ?_
                          refine W_cond _ rfl rfl (fun hb51 => ?_) (fun hb51 => ?_)
                          · replace H := (if_neg (ndec_t hb51)).symm.trans H
                            refine W_seq ?_
                            refine W_reg (by kernel_rfl) ?_
                            refine wla rfl rfl (q_assign (v := (.bool false)) rfl rfl) ?_
                            refine wl_nil ?_
                            refine W_th ?_
                            refine W_ret ?_
                            refine th_r ?_
                            obtain rfl := Option.some.inj H
                            refine rt1 (.bool false) rfl rfl rfl s163_43 ?_
                            exact ⟨rfl, e47⟩
                          · replace H := (if_pos (ndec_f hb51)).symm.trans H
                            refine W_skip ?_
                            refine W_th ?_
                            refine W_seq ?_
                            refine W_block ?_
                            refine W_seq ?_
                            refine W_reg (by kernel_rfl) ?_
                            refine wla rfl rfl (q_move (v := p1) rfl s1_43) ?_
                            refine wla rfl rfl (q_len rfl T23.sl rfl (hp1.lift (Lift.ext e47 _))) ?_
                            refine wla rfl rfl (q_eqI rfl rfl rfl) ?_
                            refine wlb rfl rfl (q_move (v := (.bool ((decide ((a1parts.length : Int) = 0))))) rfl rfl) (fun hb52 => ?_) (fun hb52 => ?_)
                            · replace H := (if_pos (of_decide_eq_true hb52)).symm.trans H
                              refine wlk rfl rfl ?_
                              refine wlk rfl rfl ?_
                              refine wla rfl rfl (q_pick_t (v := (.bool true)) rfl rfl rfl) ?_
                              refine wla rfl rfl (q_move (v := (.bool true)) rfl rfl) ?_
                              refine wlk rfl rfl ?_
                              refine wlk rfl rfl ?_
                              refine wla rfl rfl (q_pick_t (v := (.bool true)) rfl rfl rfl) ?_
                              refine wla rfl rfl (q_assign (v := (.bool true)) rfl rfl) ?_
                              refine wl_nil ?_
                              refine W_th ?_
                              refine W_cond true rfl rfl (fun _ => ?_) (fun hb => by cases hb)
                              refine W_seq ?_
                              refine W_reg (by kernel_rfl) ?_
                              refine wla rfl rfl (q_move (v := (i64 r19.2)) rfl s11_43) ?_
                              refine wla rfl rfl (q_eqI rfl rfl rfl) ?_
                              refine wlb rfl rfl (q_move (v := (.bool ((decide (r19.2 = 2))))) rfl rfl) (fun hb53 => ?_) (fun hb53 => ?_)
                              · replace H := (if_pos (of_decide_eq_true hb53)).symm.trans H
                                refine wla rfl rfl (q_move (v := v19_0) rfl s10_43) ?_
                                refine wla rfl rfl (q_len rfl T22.sl rfl i1_43) ?_
                                refine wla rfl rfl (q_eqI rfl rfl rfl) ?_
                                refine wla rfl rfl (q_pick_t (v := (.bool ((decide ((r19.1.length : Int) = 0))))) rfl rfl rfl) ?_
                                refine wla rfl rfl (q_assign (v := (.bool ((decide ((r19.1.length : Int) = 0))))) rfl rfl) ?_
                                refine wl_nil ?_
                                refine W_th ?_
                                refine W_ret ?_
                                refine bk_r ?_
                                refine th_r ?_
                                obtain rfl := Option.some.inj H
                                refine rt1 (.bool ((decide ((r19.1.length : Int) = 0)))) rfl rfl rfl s163_43 ?_
                                exact ⟨rfl, e47⟩
                              · replace H := (if_neg (of_decide_eq_false hb53)).symm.trans H
                                refine wlk rfl rfl ?_
                                refine wlk rfl rfl ?_
                                refine wlk rfl rfl ?_
                                refine wla rfl rfl (q_pick_f (v := (.bool false)) rfl rfl rfl) ?_
                                refine wla rfl rfl (q_assign (v := (.bool false)) rfl rfl) ?_
                                refine wl_nil ?_
                                refine W_th ?_
                                refine W_ret ?_
                                refine bk_r ?_
                                refine th_r ?_
                                obtain rfl := Option.some.inj H
                                refine rt1 (.bool false) rfl rfl rfl s163_43 ?_
                                exact ⟨rfl, e47⟩
                            · replace H := (if_neg (of_decide_eq_false hb52)).symm.trans H
                              refine wla rfl rfl (q_move (v := (i64 a2x)) rfl s2_43) ?_
                              refine wla rfl rfl (q_ltI rfl rfl rfl) ?_
                              refine wla rfl rfl (q_pick_f (v := (.bool ((decide (a2x < 1))))) rfl rfl rfl) ?_
                              refine wlb rfl rfl (q_move (v := (.bool ((decide (a2x < 1))))) rfl rfl) (fun hb54 => ?_) (fun hb54 => ?_)
                              · replace H := (if_pos (of_decide_eq_true hb54)).symm.trans H
                                refine wlk rfl rfl ?_
                                refine wlk rfl rfl ?_
                                refine wla rfl rfl (q_pick_t (v := (.bool true)) rfl rfl rfl) ?_
                                refine wla rfl rfl (q_assign (v := (.bool true)) rfl rfl) ?_
                                refine wl_nil ?_
                                refine W_th ?_
                                refine W_cond true rfl rfl (fun _ => ?_) (fun hb => by cases hb)
                                refine W_seq ?_
                                refine W_reg (by kernel_rfl) ?_
                                refine wla rfl rfl (q_move (v := (i64 r19.2)) rfl s11_43) ?_
                                refine wla rfl rfl (q_eqI rfl rfl rfl) ?_
                                refine wlb rfl rfl (q_move (v := (.bool ((decide (r19.2 = 2))))) rfl rfl) (fun hb55 => ?_) (fun hb55 => ?_)
                                · replace H := (if_pos (of_decide_eq_true hb55)).symm.trans H
                                  refine wla rfl rfl (q_move (v := v19_0) rfl s10_43) ?_
                                  refine wla rfl rfl (q_len rfl T22.sl rfl i1_43) ?_
                                  refine wla rfl rfl (q_eqI rfl rfl rfl) ?_
                                  refine wla rfl rfl (q_pick_t (v := (.bool ((decide ((r19.1.length : Int) = 0))))) rfl rfl rfl) ?_
                                  refine wla rfl rfl (q_assign (v := (.bool ((decide ((r19.1.length : Int) = 0))))) rfl rfl) ?_
                                  refine wl_nil ?_
                                  refine W_th ?_
                                  refine W_ret ?_
                                  refine bk_r ?_
                                  refine th_r ?_
                                  obtain rfl := Option.some.inj H
                                  refine rt1 (.bool ((decide ((r19.1.length : Int) = 0)))) rfl rfl rfl s163_43 ?_
                                  exact ⟨rfl, e47⟩
                                · replace H := (if_neg (of_decide_eq_false hb55)).symm.trans H
                                  refine wlk rfl rfl ?_
                                  refine wlk rfl rfl ?_
                                  refine wlk rfl rfl ?_
                                  refine wla rfl rfl (q_pick_f (v := (.bool false)) rfl rfl rfl) ?_
                                  refine wla rfl rfl (q_assign (v := (.bool false)) rfl rfl) ?_
                                  refine wl_nil ?_
                                  refine W_th ?_
                                  refine W_ret ?_
                                  refine bk_r ?_
                                  refine th_r ?_
                                  obtain rfl := Option.some.inj H
                                  refine rt1 (.bool false) rfl rfl rfl s163_43 ?_
                                  exact ⟨rfl, e47⟩
                              · replace H := (if_neg (of_decide_eq_false hb54)).symm.trans H
                                refine wla rfl rfl (q_move (v := (i64 a2x)) rfl s2_43) ?_
                                refine wla rfl rfl (q_gtI rfl rfl rfl) ?_
                                refine wla rfl rfl (q_pick_f (v := (.bool ((decide (255 < a2x))))) rfl rfl rfl) ?_
                                refine wla rfl rfl (q_assign (v := (.bool ((decide (255 < a2x))))) rfl rfl) ?_
                                refine wl_nil ?_
                                refine W_th ?_
                                refine W_cond _ rfl rfl (fun hb56 => ?_) (fun hb56 => ?_)
                                · replace H := (if_pos (of_decide_eq_true hb56)).symm.trans H
                                  refine W_seq ?_
                                  refine W_reg (by kernel_rfl) ?_
                                  refine wla rfl rfl (q_move (v := (i64 r19.2)) rfl s11_43) ?_
                                  refine wla rfl rfl (q_eqI rfl rfl rfl) ?_
                                  refine wlb rfl rfl (q_move (v := (.bool ((decide (r19.2 = 2))))) rfl rfl) (fun hb57 => ?_) (fun hb57 => ?_)
                                  · replace H := (if_pos (of_decide_eq_true hb57)).symm.trans H
                                    refine wla rfl rfl (q_move (v := v19_0) rfl s10_43) ?_
                                    refine wla rfl rfl (q_len rfl T22.sl rfl i1_43) ?_
                                    refine wla rfl rfl (q_eqI rfl rfl rfl) ?_
                                    refine wla rfl rfl (q_pick_t (v := (.bool ((decide ((r19.1.length : Int) = 0))))) rfl rfl rfl) ?_
                                    refine wla rfl rfl (q_assign (v := (.bool ((decide ((r19.1.length : Int) = 0))))) rfl rfl) ?_
                                    refine wl_nil ?_
                                    refine W_th ?_
                                    refine W_ret ?_
                                    refine bk_r ?_
                                    refine th_r ?_
                                    obtain rfl := Option.some.inj H
                                    refine rt1 (.bool ((decide ((r19.1.length : Int) = 0)))) rfl rfl rfl s163_43 ?_
                                    exact ⟨rfl, e47⟩
                                  · replace H := (if_neg (of_decide_eq_false hb57)).symm.trans H
                                    refine wlk rfl rfl ?_
                                    refine wlk rfl rfl ?_
                                    refine wlk rfl rfl ?_
                                    refine wla rfl rfl (q_pick_f (v := (.bool false)) rfl rfl rfl) ?_
                                    refine wla rfl rfl (q_assign (v := (.bool false)) rfl rfl) ?_
                                    refine wl_nil ?_
                                    refine W_th ?_
                                    refine W_ret ?_
                                    refine bk_r ?_
                                    refine th_r ?_
                                    obtain rfl := Option.some.inj H
                                    refine rt1 (.bool false) rfl rfl rfl s163_43 ?_
                                    exact ⟨rfl, e47⟩
                                · replace H := (if_neg (of_decide_eq_false hb56)).symm.trans H
                                  refine W_seq ?_
                                  refine W_reg (by kernel_rfl) ?_
                                  refine wla rfl rfl (q_move (v := p1) rfl s1_43) ?_
                                  obtain ⟨r58, hr58, H⟩ := Option.bind_eq_some_iff.1 H
                                  refine wls rfl rfl (stp_call (vs := [p1]) Try.func32 rfl rfl rfl (ar1 rfl) (law09_unlike_calls a1parts p1 r58 _ (hp1.lift (Lift.ext e47 _)) hr58) ?_)
                                  rintro _ w58 ⟨rfl, x58⟩
                                  refine ⟨_, rfl, ?_⟩
                                  replace i0_43 := i0_43.lift (Lift.ext x58 _)
                                  replace i1_43 := i1_43.lift (Lift.ext x58 _)
                                  replace i44_0 := i44_0.lift (Lift.ext x58 _)
                                  replace i46_0 := i46_0.lift (Lift.ext x58 _)
                                  have e59 := e47.trans x58
                                  refine wla rfl rfl (q_assign (v := (.bool r58)) rfl rfl) ?_
                                  refine wl_nil ?_
                                  refine W_th ?_
                                  refine W_cond _ rfl rfl (fun hb60 => ?_) (fun hb60 => ?_)
                                  · replace H := (if_pos hb60).symm.trans H
                                    refine W_seq ?_
                                    refine W_reg (by kernel_rfl) ?_
                                    refine wla rfl rfl (q_move (v := (i64 r19.2)) rfl s11_43) ?_
                                    refine wla rfl rfl (q_eqI rfl rfl rfl) ?_
                                    refine wlb rfl rfl (q_move (v := (.bool ((decide (r19.2 = 3))))) rfl rfl) (fun hb61 => ?_) (fun hb61 => ?_)
                                    · replace H := (if_pos (of_decide_eq_true hb61)).symm.trans H
                                      refine wla rfl rfl (q_move (v := v19_0) rfl s10_43) ?_
                                      refine wla rfl rfl (q_len rfl T22.sl rfl i1_43) ?_
                                      refine wla rfl rfl (q_eqI rfl rfl rfl) ?_
                                      refine wla rfl rfl (q_pick_t (v := (.bool ((decide ((r19.1.length : Int) = 0))))) rfl rfl rfl) ?_
                                      refine wla rfl rfl (q_assign (v := (.bool ((decide ((r19.1.length : Int) = 0))))) rfl rfl) ?_
                                      refine wl_nil ?_
                                      refine W_th ?_
                                      refine W_ret ?_
                                      refine bk_r ?_
                                      refine th_r ?_
                                      obtain rfl := Option.some.inj H
                                      refine rt1 (.bool ((decide ((r19.1.length : Int) = 0)))) rfl rfl rfl s163_43 ?_
                                      exact ⟨rfl, e59⟩
                                    · replace H := (if_neg (of_decide_eq_false hb61)).symm.trans H
                                      refine wlk rfl rfl ?_
                                      refine wlk rfl rfl ?_
                                      refine wlk rfl rfl ?_
                                      refine wla rfl rfl (q_pick_f (v := (.bool false)) rfl rfl rfl) ?_
                                      refine wla rfl rfl (q_assign (v := (.bool false)) rfl rfl) ?_
                                      refine wl_nil ?_
                                      refine W_th ?_
                                      refine W_ret ?_
                                      refine bk_r ?_
                                      refine th_r ?_
                                      obtain rfl := Option.some.inj H
                                      refine rt1 (.bool false) rfl rfl rfl s163_43 ?_
                                      exact ⟨rfl, e59⟩
                                  · replace H := (if_neg (ne_true_of_eq_false hb60)).symm.trans H
                                    refine W_skip ?_
                                    refine bk_n ?_
                                    refine W_th ?_
                                    refine W_seq ?_
                                    refine W_draw [4, 8] [(0, 0), (1, 0), (2, 0), (3, 0), (4, 1), (5, 0), (6, 0), (7, 2), (8, 1), (9, 0), (10, 0), (11, 0)] mixed (by kernel_rfl) (by kernel_rfl) (by kernel_rfl) (by kernel_rfl) ?_
                                    have x62 := Ext.drew w58
                                    replace i0_43 := i0_43.lift (Lift.ext x62 _)
                                    replace i1_43 := i1_43.lift (Lift.ext x62 _)
                                    replace i44_0 := i44_0.lift (Lift.ext x62 _)
                                    replace i46_0 := i46_0.lift (Lift.ext x62 _)
                                    have e63 := e59.trans x62
                                    refine wsa rfl rfl rfl (q_move (v := (i64 r19.2)) rfl s11_43) ?_
                                    refine wsa rfl rfl rfl (q_eqI rfl rfl rfl) ?_
                                    refine wsb rfl rfl rfl (q_move (v := (.bool ((decide (r19.2 = 0))))) rfl rfl) (fun hb64 => ?_) (fun hb64 => ?_)
                                    · replace H := (if_pos (of_decide_eq_true hb64)).symm.trans H
                                      refine wsa rfl rfl rfl (q_move (v := v19_0) rfl s10_43) ?_
                                      refine wsq rfl rfl rfl (q_str rfl T22 rfl rfl rfl i1_43) ?_
                                      refine wsa rfl rfl rfl (q_move (v := p1) rfl s1_43) ?_
                                      refine wsa rfl rfl rfl (q_move (v := (i64 a2x)) rfl s2_43) ?_
                                      obtain ⟨r65, hr65, H⟩ := Option.bind_eq_some_iff.1 H
                                      refine wss rfl rfl rfl (stp_call (vs := [p1, (i64 a2x)]) Try.func35 rfl rfl rfl (ar2 rfl rfl) (ref09_Piece_calls a1parts a2x p1 r65 _ (hp1.lift (Lift.ext e63 _)) hr65) ?_)
                                      rintro _ w65 ⟨v65, rfl, x65, n65_0, o65_0⟩
                                      refine ⟨_, rfl, x65, ?_⟩
                                      have i65_0 : By w65 [] v65 r65 := OwK.slk (Sc.stab _) _ (OwK.scal o65_0 (v65 :: [])) (fun k hk => (Old.nil _) k (n65_0 k hk)) (fun _ h => h.2)
                                      replace i0_43 := i0_43.lift (Lift.ext x65 _)
                                      replace i1_43 := i1_43.lift (Lift.ext x65 _)
                                      replace i44_0 := i44_0.lift (Lift.ext x65 _)
                                      replace i46_0 := i46_0.lift (Lift.ext x65 _)
                                      have e66 := e63.trans x65
                                      refine wsq rfl rfl rfl (q_str rfl T22 rfl rfl rfl i65_0) ?_
                                      refine wsa rfl rfl rfl (q_eqS rfl rfl rfl) ?_
                                      refine wsa rfl rfl rfl (q_pick_t (v := (.bool ((decide (r19.1 = r65))))) rfl rfl rfl) ?_
                                      refine wsa rfl rfl rfl (q_assign (v := (.bool ((decide (r19.1 = r65))))) rfl rfl) ?_
                                      refine ws_nil ?_
                                      refine W_th ?_
                                      refine W_ret ?_
                                      obtain rfl := Option.some.inj H
                                      refine rt1 (.bool ((decide (r19.1 = r65)))) rfl rfl rfl s163_43 ?_
                                      exact ⟨rfl, e66⟩
                                    · replace H := (if_neg (of_decide_eq_false hb64)).symm.trans H
                                      refine wsk rfl rfl rfl ?_
                                      refine wsk rfl rfl rfl ?_
                                      refine wsk rfl rfl rfl ?_
                                      refine wsk rfl rfl rfl ?_
                                      refine wsk rfl rfl rfl ?_
                                      refine wsk rfl rfl rfl ?_
                                      refine wsk rfl rfl rfl ?_
                                      refine wsa rfl rfl rfl (q_pick_f (v := (.bool false)) rfl rfl rfl) ?_
                                      refine wsa rfl rfl rfl (q_assign (v := (.bool false)) rfl rfl) ?_
                                      refine ws_nil ?_
                                      refine W_th ?_
                                      refine W_ret ?_
                                      obtain rfl := Option.some.inj H
                                      refine rt1 (.bool false) rfl rfl rfl s163_43 ?_
                                      exact ⟨rfl, e63⟩
                        · replace H := (if_neg (of_decide_eq_false hb50)).symm.trans H
                          refine wlk rfl rfl ?_
                          refine wlk rfl rfl ?_
                          refine wlk rfl rfl ?_
                          refine wlk rfl rfl ?_
                          refine wla rfl rfl (q_pick_f (v := (.bool false)) rfl rfl rfl) ?_
                          refine wla rfl rfl (q_pick_f (v := (.bool false)) rfl rfl rfl) ?_
                          refine wl_nil ?_
                          refine W_th ?_
                          refine W_cond false rfl rfl (fun hb => by cases hb) (fun _ => ?_)
                          refine W_skip ?_
                          refine W_th ?_
                          refine W_seq ?_
                          refine W_block ?_
                          refine W_seq ?_
                          refine W_reg (by kernel_rfl) ?_
                          refine wla rfl rfl (q_move (v := p1) rfl s1_43) ?_
                          refine wla rfl rfl (q_len rfl T23.sl rfl (hp1.lift (Lift.ext e47 _))) ?_
                          refine wla rfl rfl (q_eqI rfl rfl rfl) ?_
                          refine wlb rfl rfl (q_move (v := (.bool ((decide ((a1parts.length : Int) = 0))))) rfl rfl) (fun hb67 => ?_) (fun hb67 => ?_)
                          · replace H := (if_pos (of_decide_eq_true hb67)).symm.trans H
                            refine wlk rfl rfl ?_
                            refine wlk rfl rfl ?_
                            refine wla rfl rfl (q_pick_t (v := (.bool true)) rfl rfl rfl) ?_
                            refine wla rfl rfl (q_move (v := (.bool true)) rfl rfl) ?_
                            refine wlk rfl rfl ?_
                            refine wlk rfl rfl ?_
                            refine wla rfl rfl (q_pick_t (v := (.bool true)) rfl rfl rfl) ?_
                            refine wla rfl rfl (q_assign (v := (.bool true)) rfl rfl) ?_
                            refine wl_nil ?_
                            refine W_th ?_
                            refine W_cond true rfl rfl (fun _ => ?_) (fun hb => by cases hb)
                            refine W_seq ?_
                            refine W_reg (by kernel_rfl) ?_
                            refine wla rfl rfl (q_move (v := (i64 r19.2)) rfl s11_43) ?_
                            refine wla rfl rfl (q_eqI rfl rfl rfl) ?_
                            refine wlb rfl rfl (q_move (v := (.bool ((decide (r19.2 = 2))))) rfl rfl) (fun hb68 => ?_) (fun hb68 => ?_)
                            · replace H := (if_pos (of_decide_eq_true hb68)).symm.trans H
                              refine wla rfl rfl (q_move (v := v19_0) rfl s10_43) ?_
                              refine wla rfl rfl (q_len rfl T22.sl rfl i1_43) ?_
                              refine wla rfl rfl (q_eqI rfl rfl rfl) ?_
                              refine wla rfl rfl (q_pick_t (v := (.bool ((decide ((r19.1.length : Int) = 0))))) rfl rfl rfl) ?_
                              refine wla rfl rfl (q_assign (v := (.bool ((decide ((r19.1.length : Int) = 0))))) rfl rfl) ?_
                              refine wl_nil ?_
                              refine W_th ?_
                              refine W_ret ?_
                              refine bk_r ?_
                              refine th_r ?_
                              obtain rfl := Option.some.inj H
                              refine rt1 (.bool ((decide ((r19.1.length : Int) = 0)))) rfl rfl rfl s163_43 ?_
                              exact ⟨rfl, e47⟩
                            · replace H := (if_neg (of_decide_eq_false hb68)).symm.trans H
                              refine wlk rfl rfl ?_
                              refine wlk rfl rfl ?_
                              refine wlk rfl rfl ?_
                              refine wla rfl rfl (q_pick_f (v := (.bool false)) rfl rfl rfl) ?_
                              refine wla rfl rfl (q_assign (v := (.bool false)) rfl rfl) ?_
                              refine wl_nil ?_
                              refine W_th ?_
                              refine W_ret ?_
                              refine bk_r ?_
                              refine th_r ?_
                              obtain rfl := Option.some.inj H
                              refine rt1 (.bool false) rfl rfl rfl s163_43 ?_
                              exact ⟨rfl, e47⟩
                          · replace H := (if_neg (of_decide_eq_false hb67)).symm.trans H
                            refine wla rfl rfl (q_move (v := (i64 a2x)) rfl s2_43) ?_
                            refine wla rfl rfl (q_ltI rfl rfl rfl) ?_
                            refine wla rfl rfl (q_pick_f (v := (.bool ((decide (a2x < 1))))) rfl rfl rfl) ?_
                            refine wlb rfl rfl (q_move (v := (.bool ((decide (a2x < 1))))) rfl rfl) (fun hb69 => ?_) (fun hb69 => ?_)
                            · replace H := (if_pos (of_decide_eq_true hb69)).symm.trans H
                              refine wlk rfl rfl ?_
                              refine wlk rfl rfl ?_
                              refine wla rfl rfl (q_pick_t (v := (.bool true)) rfl rfl rfl) ?_
                              refine wla rfl rfl (q_assign (v := (.bool true)) rfl rfl) ?_
                              refine wl_nil ?_
                              refine W_th ?_
                              refine W_cond true rfl rfl (fun _ => ?_) (fun hb => by cases hb)
                              refine W_seq ?_
                              refine W_reg (by kernel_rfl) ?_
                              refine wla rfl rfl (q_move (v := (i64 r19.2)) rfl s11_43) ?_
                              refine wla rfl rfl (q_eqI rfl rfl rfl) ?_
                              refine wlb rfl rfl (q_move (v := (.bool ((decide (r19.2 = 2))))) rfl rfl) (fun hb70 => ?_) (fun hb70 => ?_)
                              · replace H := (if_pos (of_decide_eq_true hb70)).symm.trans H
                                refine wla rfl rfl (q_move (v := v19_0) rfl s10_43) ?_
                                refine wla rfl rfl (q_len rfl T22.sl rfl i1_43) ?_
                                refine wla rfl rfl (q_eqI rfl rfl rfl) ?_
                                refine wla rfl rfl (q_pick_t (v := (.bool ((decide ((r19.1.length : Int) = 0))))) rfl rfl rfl) ?_
                                refine wla rfl rfl (q_assign (v := (.bool ((decide ((r19.1.length : Int) = 0))))) rfl rfl) ?_
                                refine wl_nil ?_
                                refine W_th ?_
                                refine W_ret ?_
                                refine bk_r ?_
                                refine th_r ?_
                                obtain rfl := Option.some.inj H
                                refine rt1 (.bool ((decide ((r19.1.length : Int) = 0)))) rfl rfl rfl s163_43 ?_
                                exact ⟨rfl, e47⟩
                              · replace H := (if_neg (of_decide_eq_false hb70)).symm.trans H
                                refine wlk rfl rfl ?_
                                refine wlk rfl rfl ?_
                                refine wlk rfl rfl ?_
                                refine wla rfl rfl (q_pick_f (v := (.bool false)) rfl rfl rfl) ?_
                                refine wla rfl rfl (q_assign (v := (.bool false)) rfl rfl) ?_
                                refine wl_nil ?_
                                refine W_th ?_
                                refine W_ret ?_
                                refine bk_r ?_
                                refine th_r ?_
                                obtain rfl := Option.some.inj H
                                refine rt1 (.bool false) rfl rfl rfl s163_43 ?_
                                exact ⟨rfl, e47⟩
                            · replace H := (if_neg (of_decide_eq_false hb69)).symm.trans H
                              refine wla rfl rfl (q_move (v := (i64 a2x)) rfl s2_43) ?_
                              refine wla rfl rfl (q_gtI rfl rfl rfl) ?_
                              refine wla rfl rfl (q_pick_f (v := (.bool ((decide (255 < a2x))))) rfl rfl rfl) ?_
                              refine wla rfl rfl (q_assign (v := (.bool ((decide (255 < a2x))))) rfl rfl) ?_
                              refine wl_nil ?_
                              refine W_th ?_
                              refine W_cond _ rfl rfl (fun hb71 => ?_) (fun hb71 => ?_)
                              · replace H := (if_pos (of_decide_eq_true hb71)).symm.trans H
                                refine W_seq ?_
                                refine W_reg (by kernel_rfl) ?_
                                refine wla rfl rfl (q_move (v := (i64 r19.2)) rfl s11_43) ?_
                                refine wla rfl rfl (q_eqI rfl rfl rfl) ?_
                                refine wlb rfl rfl (q_move (v := (.bool ((decide (r19.2 = 2))))) rfl rfl) (fun hb72 => ?_) (fun hb72 => ?_)
                                · replace H := (if_pos (of_decide_eq_true hb72)).symm.trans H
                                  refine wla rfl rfl (q_move (v := v19_0) rfl s10_43) ?_
                                  refine wla rfl rfl (q_len rfl T22.sl rfl i1_43) ?_
                                  refine wla rfl rfl (q_eqI rfl rfl rfl) ?_
                                  refine wla rfl rfl (q_pick_t (v := (.bool ((decide ((r19.1.length : Int) = 0))))) rfl rfl rfl) ?_
                                  refine wla rfl rfl (q_assign (v := (.bool ((decide ((r19.1.length : Int) = 0))))) rfl rfl) ?_
                                  refine wl_nil ?_
                                  refine W_th ?_
                                  refine W_ret ?_
                                  refine bk_r ?_
                                  refine th_r ?_
                                  obtain rfl := Option.some.inj H
                                  refine rt1 (.bool ((decide ((r19.1.length : Int) = 0)))) rfl rfl rfl s163_43 ?_
                                  exact ⟨rfl, e47⟩
                                · replace H := (if_neg (of_decide_eq_false hb72)).symm.trans H
                                  refine wlk rfl rfl ?_
                                  refine wlk rfl rfl ?_
                                  refine wlk rfl rfl ?_
                                  refine wla rfl rfl (q_pick_f (v := (.bool false)) rfl rfl rfl) ?_
                                  refine wla rfl rfl (q_assign (v := (.bool false)) rfl rfl) ?_
                                  refine wl_nil ?_
                                  refine W_th ?_
                                  refine W_ret ?_
                                  refine bk_r ?_
                                  refine th_r ?_
                                  obtain rfl := Option.some.inj H
                                  refine rt1 (.bool false) rfl rfl rfl s163_43 ?_
                                  exact ⟨rfl, e47⟩
                              · replace H := (if_neg (of_decide_eq_false hb71)).symm.trans H
                                refine W_seq ?_
                                refine W_reg (by kernel_rfl) ?_
                                refine wla rfl rfl (q_move (v := p1) rfl s1_43) ?_
                                obtain ⟨r73, hr73, H⟩ := Option.bind_eq_some_iff.1 H
                                refine wls rfl rfl (stp_call (vs := [p1]) Try.func32 rfl rfl rfl (ar1 rfl) (law09_unlike_calls a1parts p1 r73 _ (hp1.lift (Lift.ext e47 _)) hr73) ?_)
                                rintro _ w73 ⟨rfl, x73⟩
                                refine ⟨_, rfl, ?_⟩
                                replace i0_43 := i0_43.lift (Lift.ext x73 _)
                                replace i1_43 := i1_43.lift (Lift.ext x73 _)
                                replace i44_0 := i44_0.lift (Lift.ext x73 _)
                                replace i46_0 := i46_0.lift (Lift.ext x73 _)
                                have e74 := e47.trans x73
                                refine wla rfl rfl (q_assign (v := (.bool r73)) rfl rfl) ?_
                                refine wl_nil ?_
                                refine W_th ?_
                                refine W_cond _ rfl rfl (fun hb75 => ?_) (fun hb75 => ?_)
                                · replace H := (if_pos hb75).symm.trans H
                                  refine W_seq ?_
                                  refine W_reg (by kernel_rfl) ?_
                                  refine wla rfl rfl (q_move (v := (i64 r19.2)) rfl s11_43) ?_
                                  refine wla rfl rfl (q_eqI rfl rfl rfl) ?_
                                  refine wlb rfl rfl (q_move (v := (.bool ((decide (r19.2 = 3))))) rfl rfl) (fun hb76 => ?_) (fun hb76 => ?_)
                                  · replace H := (if_pos (of_decide_eq_true hb76)).symm.trans H
                                    refine wla rfl rfl (q_move (v := v19_0) rfl s10_43) ?_
                                    refine wla rfl rfl (q_len rfl T22.sl rfl i1_43) ?_
                                    refine wla rfl rfl (q_eqI rfl rfl rfl) ?_
                                    refine wla rfl rfl (q_pick_t (v := (.bool ((decide ((r19.1.length : Int) = 0))))) rfl rfl rfl) ?_
                                    refine wla rfl rfl (q_assign (v := (.bool ((decide ((r19.1.length : Int) = 0))))) rfl rfl) ?_
                                    refine wl_nil ?_
                                    refine W_th ?_
                                    refine W_ret ?_
                                    refine bk_r ?_
                                    refine th_r ?_
                                    obtain rfl := Option.some.inj H
                                    refine rt1 (.bool ((decide ((r19.1.length : Int) = 0)))) rfl rfl rfl s163_43 ?_
                                    exact ⟨rfl, e74⟩
                                  · replace H := (if_neg (of_decide_eq_false hb76)).symm.trans H
                                    refine wlk rfl rfl ?_
                                    refine wlk rfl rfl ?_
                                    refine wlk rfl rfl ?_
                                    refine wla rfl rfl (q_pick_f (v := (.bool false)) rfl rfl rfl) ?_
                                    refine wla rfl rfl (q_assign (v := (.bool false)) rfl rfl) ?_
                                    refine wl_nil ?_
                                    refine W_th ?_
                                    refine W_ret ?_
                                    refine bk_r ?_
                                    refine th_r ?_
                                    obtain rfl := Option.some.inj H
                                    refine rt1 (.bool false) rfl rfl rfl s163_43 ?_
                                    exact ⟨rfl, e74⟩
                                · replace H := (if_neg (ne_true_of_eq_false hb75)).symm.trans H
                                  refine W_skip ?_
                                  refine bk_n ?_
                                  refine W_th ?_
                                  refine W_seq ?_
                                  refine W_draw [4, 8] [(0, 0), (1, 0), (2, 0), (3, 0), (4, 1), (5, 0), (6, 0), (7, 2), (8, 1), (9, 0), (10, 0), (11, 0)] mixed (by kernel_rfl) (by kernel_rfl) (by kernel_rfl) (by kernel_rfl) ?_
                                  have x77 := Ext.drew w73
                                  replace i0_43 := i0_43.lift (Lift.ext x77 _)
                                  replace i1_43 := i1_43.lift (Lift.ext x77 _)
                                  replace i44_0 := i44_0.lift (Lift.ext x77 _)
                                  replace i46_0 := i46_0.lift (Lift.ext x77 _)
                                  have e78 := e74.trans x77
                                  refine wsa rfl rfl rfl (q_move (v := (i64 r19.2)) rfl s11_43) ?_
                                  refine wsa rfl rfl rfl (q_eqI rfl rfl rfl) ?_
                                  refine wsb rfl rfl rfl (q_move (v := (.bool ((decide (r19.2 = 0))))) rfl rfl) (fun hb79 => ?_) (fun hb79 => ?_)
                                  · replace H := (if_pos (of_decide_eq_true hb79)).symm.trans H
                                    refine wsa rfl rfl rfl (q_move (v := v19_0) rfl s10_43) ?_
                                    refine wsq rfl rfl rfl (q_str rfl T22 rfl rfl rfl i1_43) ?_
                                    refine wsa rfl rfl rfl (q_move (v := p1) rfl s1_43) ?_
                                    refine wsa rfl rfl rfl (q_move (v := (i64 a2x)) rfl s2_43) ?_
                                    obtain ⟨r80, hr80, H⟩ := Option.bind_eq_some_iff.1 H
                                    refine wss rfl rfl rfl (stp_call (vs := [p1, (i64 a2x)]) Try.func35 rfl rfl rfl (ar2 rfl rfl) (ref09_Piece_calls a1parts a2x p1 r80 _ (hp1.lift (Lift.ext e78 _)) hr80) ?_)
                                    rintro _ w80 ⟨v80, rfl, x80, n80_0, o80_0⟩
                                    refine ⟨_, rfl, x80, ?_⟩
                                    have i80_0 : By w80 [] v80 r80 := OwK.slk (Sc.stab _) _ (OwK.scal o80_0 (v80 :: [])) (fun k hk => (Old.nil _) k (n80_0 k hk)) (fun _ h => h.2)
                                    replace i0_43 := i0_43.lift (Lift.ext x80 _)
                                    replace i1_43 := i1_43.lift (Lift.ext x80 _)
                                    replace i44_0 := i44_0.lift (Lift.ext x80 _)
                                    replace i46_0 := i46_0.lift (Lift.ext x80 _)
                                    have e81 := e78.trans x80
                                    refine wsq rfl rfl rfl (q_str rfl T22 rfl rfl rfl i80_0) ?_
                                    refine wsa rfl rfl rfl (q_eqS rfl rfl rfl) ?_
                                    refine wsa rfl rfl rfl (q_pick_t (v := (.bool ((decide (r19.1 = r80))))) rfl rfl rfl) ?_
                                    refine wsa rfl rfl rfl (q_assign (v := (.bool ((decide (r19.1 = r80))))) rfl rfl) ?_
                                    refine ws_nil ?_
                                    refine W_th ?_
                                    refine W_ret ?_
                                    obtain rfl := Option.some.inj H
                                    refine rt1 (.bool ((decide (r19.1 = r80)))) rfl rfl rfl s163_43 ?_
                                    exact ⟨rfl, e81⟩
                                  · replace H := (if_neg (of_decide_eq_false hb79)).symm.trans H
                                    refine wsk rfl rfl rfl ?_
                                    refine wsk rfl rfl rfl ?_
                                    refine wsk rfl rfl rfl ?_
                                    refine wsk rfl rfl rfl ?_
                                    refine wsk rfl rfl rfl ?_
                                    refine wsk rfl rfl rfl ?_
                                    refine wsk rfl rfl rfl ?_
                                    refine wsa rfl rfl rfl (q_pick_f (v := (.bool false)) rfl rfl rfl) ?_
                                    refine wsa rfl rfl rfl (q_assign (v := (.bool false)) rfl rfl) ?_
                                    refine ws_nil ?_
                                    refine W_th ?_
                                    refine W_ret ?_
                                    obtain rfl := Option.some.inj H
                                    refine rt1 (.bool false) rfl rfl rfl s163_43 ?_
                                    exact ⟨rfl, e78⟩
              · replace H := (if_pos (ndec_f hb30)).symm.trans H
                refine wlk rfl rfl ?_
                refine wlk rfl rfl ?_
                refine wlk rfl rfl ?_
                refine wla rfl rfl (q_pick_f (v := (.bool false)) rfl rfl rfl) ?_
                refine wla rfl rfl (q_pick_f (v := (.bool false)) rfl rfl rfl) ?_
                refine wl_nil ?_
                refine W_th ?_
                refine W_cond false rfl rfl (fun hb => by cases hb) (fun _ => ?_)
                refine W_skip ?_
                refine W_th ?_
                refine W_seq ?_
                refine W_seq ?_
                refine W_reg (by kernel_rfl) ?_
                refine wla rfl rfl (q_move (v := v17_0) rfl s8_28) ?_
                refine wla rfl rfl (q_len rfl T23.sl rfl i0_28) ?_
                refine wla rfl rfl (q_move (v := (i64 0)) rfl rfl) ?_
                refine wl_nil ?_
                refine W_th ?_
                obtain ⟨x83, G83, H⟩ := Option.bind_eq_some_iff.1 H
                refine W_mid (fun f w => ∃ y83, x83 = .inl y83 ∧ f 0 = (i64 a0n) ∧ f 1 = p1 ∧ f 2 = (i64 a2x) ∧ f 8 = v17_0 ∧ f 10 = v19_0 ∧ f 11 = (i64 r19.2) ∧ f 12 = (i64 x21) ∧ f 163 = undef ∧ Ext w0 w ∧ Rw w [] v17_0 r17.1 ∧ By w [] v19_0 r19.1) ?_ ?_
                · refine W_block ?_
                  refine W_loop (fun s83 f w => f 0 = (i64 a0n) ∧ f 1 = p1 ∧ f 2 = (i64 a2x) ∧ f 8 = v17_0 ∧ f 10 = v19_0 ∧ f 11 = (i64 r19.2) ∧ f 12 = (i64 x21) ∧ f 79 = (i64 ((r17.1.length : Int))) ∧ f 80 = (i64 s83) ∧ f 163 = undef ∧ Ext w0 w ∧ Rw w [] v17_0 r17.1 ∧ By w [] v19_0 r19.1) G83 ?_ ?_
                  · exact ⟨s0_28, s1_28, s2_28, s8_28, s10_28, s11_28, s12_28, rfl, rfl, s163_28, hE28, i0_28, i1_28⟩
                  · rintro s83 _ _ w84 ⟨s0_84, s1_84, s2_84, s8_84, s10_84, s11_84, s12_84, s79_84, s80_84, s163_84, hE84, i0_84, i1_84⟩ H83 hr83
                    refine W_seq ?_
                    refine W_reg (by kernel_rfl) ?_
                    refine wla rfl rfl (q_ltI rfl s80_84 s79_84) ?_
                    refine wl_nil ?_
                    refine W_th ?_
                    refine W_seq ?_
                    refine W_cond _ rfl rfl (fun hb85 => ?_) (fun hb85 => ?_)
                    · replace H83 := (if_pos (of_decide_eq_true hb85)).symm.trans H83
                      refine W_skip ?_
                      refine W_th ?_
                      refine W_seq ?_
                      refine W_block ?_
                      refine W_seq ?_
                      refine W_reg (by kernel_rfl) ?_
                      refine wla rfl rfl (q_move (v := (i64 s83)) rfl s80_84) ?_
                      refine wla rfl rfl (q_assign (v := (i64 s83)) rfl rfl) ?_
                      refine wl_nil ?_
                      refine W_th ?_
                      refine W_seq ?_
                      refine W_draw [3, 4, 9] [(0, 0), (1, 0), (2, 0), (3, 1), (4, 1), (5, 0), (6, 0), (7, 0), (8, 2), (9, 1), (10, 0)] mixed (by kernel_rfl) (by kernel_rfl) (by kernel_rfl) (by kernel_rfl) ?_
                      have x86 := Ext.drew w84
                      replace i0_84 := i0_84.lift (Lift.ext x86 _)
                      replace i1_84 := i1_84.lift (Lift.ext x86 _)
                      have e87 := hE84.trans x86
                      refine wsa rfl rfl rfl (q_move (v := v17_0) rfl s8_84) ?_
                      refine wsa rfl rfl rfl (q_move (v := (i64 s83)) rfl rfl) ?_
                      obtain ⟨c88, hc88, H83⟩ := Option.bind_eq_some_iff.1 H83
                      refine wsa rfl rfl rfl (q_adr rfl T23 rfl rfl i0_84 hc88) ?_
                      refine wsq_load rfl rfl rfl rfl T23 rfl i0_84 hc88 (Ext.refl _) (fun v89 i89 => ?_)
                      refine wsq rfl rfl rfl (q_str rfl T22 rfl rfl rfl i89) ?_
                      refine wsa rfl rfl rfl (q_move (v := p1) rfl s1_84) ?_
                      refine wsa rfl rfl rfl (q_move (v := (i64 s83)) rfl rfl) ?_
                      refine wsa rfl rfl rfl (q_addI rfl rfl rfl) ?_
                      obtain ⟨r90, hr90, H83⟩ := Option.bind_eq_some_iff.1 H83
                      refine wss rfl rfl rfl (stp_call (vs := [p1, (i64 ((wI (s83 + 1))))]) Try.func35 rfl rfl rfl (ar2 rfl rfl) (ref09_Piece_calls a1parts (wI (s83 + 1)) p1 r90 _ (hp1.lift (Lift.ext e87 _)) hr90) ?_)
                      rintro _ w90 ⟨v90, rfl, x90, n90_0, o90_0⟩
                      refine ⟨_, rfl, x90, ?_⟩
                      have i90_0 : By w90 [] v90 r90 := OwK.slk (Sc.stab _) _ (OwK.scal o90_0 (v90 :: [])) (fun k hk => (Old.nil _) k (n90_0 k hk)) (fun _ h => h.2)
                      replace i0_84 := i0_84.lift (Lift.ext x90 _)
                      replace i1_84 := i1_84.lift (Lift.ext x90 _)
                      replace i89 := i89.lift (Lift.ext x90 _)
                      have e91 := e87.trans x90
                      refine wsq rfl rfl rfl (q_str rfl T22 rfl rfl rfl i90_0) ?_
                      refine wsa rfl rfl rfl (q_neS rfl rfl rfl) ?_
                      refine ws_nil ?_
                      refine W_th ?_
                      refine W_cond _ rfl rfl (fun hb92 => ?_) (fun hb92 => ?_)
                      · replace H83 := (if_neg (ndec_t hb92)).symm.trans H83
                        refine W_seq ?_
                        refine W_reg (by kernel_rfl) ?_
                        refine wla rfl rfl (q_assign (v := (.bool false)) rfl rfl) ?_
                        refine wl_nil ?_
                        refine W_th ?_
                        refine W_ret ?_
                        refine bk_r ?_
                        refine th_r ?_
                        obtain rfl := Option.some.inj H83
                        obtain rfl := hr83 _ rfl
                        simp only [Sum.elim_inr] at H
                        refine th_r ?_
                        refine bk_r ?_
                        refine th_r ?_
                        refine th_r ?_
                        obtain rfl := Option.some.inj H
                        refine rt1 (.bool false) rfl rfl rfl s163_84 ?_
                        exact ⟨rfl, e91⟩
                      · replace H83 := (if_pos (ndec_f hb92)).symm.trans H83
                        refine W_skip ?_
                        refine bk_n ?_
                        refine W_th ?_
                        refine W_reg (by kernel_rfl) ?_
                        refine wla rfl rfl (q_addI rfl s80_84 rfl) ?_
                        refine wla rfl rfl (q_move (v := (i64 ((wI (s83 + 1))))) rfl rfl) ?_
                        refine wl_nil ?_
                        obtain rfl := Option.some.inj H83
                        exact ⟨_, rfl, s0_84, s1_84, s2_84, s8_84, s10_84, s11_84, s12_84, s79_84, rfl, s163_84, e91, i0_84, i1_84⟩
                    · replace H83 := (if_neg (of_decide_eq_false hb85)).symm.trans H83
                      refine W_exit ?_
                      refine th_x ?_
                      obtain rfl := Option.some.inj H83
                      obtain rfl := hr83 _ rfl
                      refine th_x ?_
                      refine bk_x ?_
                      exact ⟨_, rfl, s0_84, s1_84, s2_84, s8_84, s10_84, s11_84, s12_84, s163_84, hE84, i0_84, i1_84⟩
                · rintro _ w94 ⟨y83, rfl, s0_94, s1_94, s2_94, s8_94, s10_94, s11_94, s12_94, s163_94, hE94, i0_94, i1_94⟩
                  simp only [Sum.elim_inl] at H
                  refine W_th ?_
                  refine W_seq ?_
                  refine W_reg (by kernel_rfl) ?_
                  refine wla rfl rfl (q_move (v := (i64 a0n)) rfl s0_94) ?_
                  refine wla rfl rfl (q_move (v := p1) rfl s1_94) ?_
                  obtain ⟨r95, hr95, H⟩ := Option.bind_eq_some_iff.1 H
                  refine wls rfl rfl (stp_call (vs := [(.pointer none), (i64 a0n), p1]) Try.func33 rfl rfl rfl (ar3 rfl rfl rfl) (code_Encode_calls false a0n a1parts (.pointer none) p1 r95 _ [] (Old.nil _) (Fd.nil _ _) (hp1.lift (Lift.ext hE94 _)) hr95) ?_)
                  rintro _ w95 ⟨v95_0, rfl, x95, n95_0, o95_0⟩
                  refine ⟨_, rfl, ?_⟩
                  have i95_0 : Rw w95 [] v95_0 r95.1 := OwK.slk (SlK.stab (Sc.stab _)) _ o95_0 (fun k hk => (Old.nil _) k (n95_0 k hk)) (fun _ h => h.2)
                  replace i0_94 := i0_94.lift (Lift.ext x95 _)
                  replace i1_94 := i1_94.lift (Lift.ext x95 _)
                  have e96 := hE94.trans x95
                  refine wla rfl rfl (q_move (v := (.tuple #[v95_0, (i64 r95.2)])) rfl rfl) ?_
                  refine wla rfl rfl (q_extract rfl rfl rfl) ?_
                  refine wla rfl rfl (q_extract rfl rfl rfl) ?_
                  refine wla rfl rfl (q_assign (v := v95_0) rfl rfl) ?_
                  refine wla rfl rfl (q_assign (v := (i64 r95.2)) rfl rfl) ?_
                  refine wl_nil ?_
                  refine W_th ?_
                  refine W_seq ?_
                  refine W_reg (by kernel_rfl) ?_
                  refine wla rfl rfl (q_move (v := p1) rfl s1_94) ?_
                  refine wla rfl rfl (q_move (v := (i64 a2x)) rfl s2_94) ?_
                  obtain ⟨r97, hr97, H⟩ := Option.bind_eq_some_iff.1 H
                  refine wls rfl rfl (stp_call (vs := [(.pointer none), p1, (i64 a2x)]) Try.func34 rfl rfl rfl (ar3 rfl rfl rfl) (code_Piece_calls false a1parts a2x (.pointer none) p1 r97 _ (Fd.nil _ _) (hp1.lift (Lift.ext e96 _)) hr97) ?_)
                  rintro _ w97 ⟨v97_0, rfl, x97, n97_0, o97_0⟩
                  refine ⟨_, rfl, ?_⟩
                  have i97_0 : By w97 [] v97_0 r97.1 := OwK.slk (Sc.stab _) _ (OwK.scal o97_0 (v97_0 :: [])) (fun k hk => (Old.nil _) k (n97_0 k hk)) (fun _ h => h.2)
                  replace i0_94 := i0_94.lift (Lift.ext x97 _)
                  replace i1_94 := i1_94.lift (Lift.ext x97 _)
                  replace i95_0 := i95_0.lift (Lift.ext x97 _)
                  have e98 := e96.trans x97
                  refine wla rfl rfl (q_move (v := (.tuple #[v97_0, (i64 r97.2)])) rfl rfl) ?_
                  refine wla rfl rfl (q_extract rfl rfl rfl) ?_
                  refine wla rfl rfl (q_extract rfl rfl rfl) ?_
                  refine wla rfl rfl (q_assign (v := v97_0) rfl rfl) ?_
                  refine wla rfl rfl (q_assign (v := (i64 r97.2)) rfl rfl) ?_
                  refine wl_nil ?_
                  refine W_th ?_
                  refine W_seq ?_
                  refine W_seq ?_
                  refine W_reg (by kernel_rfl) ?_
                  refine wla rfl rfl (q_move (v := (i64 r95.2)) rfl rfl) ?_
                  refine wla rfl rfl (q_neI rfl rfl rfl) ?_
                  refine wlb rfl rfl (q_move (v := (.bool ((!decide (r95.2 = 1))))) rfl rfl) (fun hb99 => ?_) (fun hb99 => ?_)
                  · replace H := (if_neg (ndec_t hb99)).symm.trans H
                    refine wlk rfl rfl ?_
                    refine wlk rfl rfl ?_
                    refine wla rfl rfl (q_pick_t (v := (.bool true)) rfl rfl rfl) ?_
                    refine wla rfl rfl (q_move (v := (.bool true)) rfl rfl) ?_
                    refine wlk rfl rfl ?_
                    refine wlk rfl rfl ?_
                    refine wlk rfl rfl ?_
                    refine wlk rfl rfl ?_
                    refine wlk rfl rfl ?_
                    refine wlk rfl rfl ?_
                    refine wlk rfl rfl ?_
                    refine wlk rfl rfl ?_
                    refine wla rfl rfl (q_pick_t (v := (.bool true)) rfl rfl rfl) ?_
                    refine wl_nil ?_
                    refine W_th ?_
                    refine W_cond true rfl rfl (fun _ => ?_) (fun hb => by cases hb)
                    refine W_seq ?_
                    refine W_reg (by kernel_rfl) ?_
                    refine wla rfl rfl (q_assign (v := (.bool false)) rfl rfl) ?_
                    refine wl_nil ?_
                    refine W_th ?_
                    refine W_ret ?_
                    refine th_r ?_
                    obtain rfl := Option.some.inj H
                    refine rt1 (.bool false) rfl rfl rfl s163_94 ?_
                    exact ⟨rfl, e98⟩
                  · replace H := (if_pos (ndec_f hb99)).symm.trans H
                    refine wla rfl rfl (q_move (v := (i64 r97.2)) rfl rfl) ?_
                    refine wla rfl rfl (q_neI rfl rfl rfl) ?_
                    refine wla rfl rfl (q_pick_f (v := (.bool ((!decide (r97.2 = 1))))) rfl rfl rfl) ?_
                    refine wlb rfl rfl (q_move (v := (.bool ((!decide (r97.2 = 1))))) rfl rfl) (fun hb100 => ?_) (fun hb100 => ?_)
                    · replace H := (if_neg (ndec_t hb100)).symm.trans H
                      refine wlk rfl rfl ?_
                      refine wlk rfl rfl ?_
                      refine wlk rfl rfl ?_
                      refine wlk rfl rfl ?_
                      refine wlk rfl rfl ?_
                      refine wlk rfl rfl ?_
                      refine wlk rfl rfl ?_
                      refine wlk rfl rfl ?_
                      refine wla rfl rfl (q_pick_t (v := (.bool true)) rfl rfl rfl) ?_
                      refine wl_nil ?_
                      refine W_th ?_
                      refine W_cond true rfl rfl (fun _ => ?_) (fun hb => by cases hb)
                      refine W_seq ?_
                      refine W_reg (by kernel_rfl) ?_
                      refine wla rfl rfl (q_assign (v := (.bool false)) rfl rfl) ?_
                      refine wl_nil ?_
                      refine W_th ?_
                      refine W_ret ?_
                      refine th_r ?_
                      obtain rfl := Option.some.inj H
                      refine rt1 (.bool false) rfl rfl rfl s163_94 ?_
                      exact ⟨rfl, e98⟩
                    · replace H := (if_pos (ndec_f hb100)).symm.trans H
                      refine wla rfl rfl (q_move (v := (i64 x21)) rfl s12_94) ?_
                      refine wla rfl rfl (q_eqI rfl rfl rfl) ?_
                      refine wlb rfl rfl (q_move (v := (.bool ((decide (x21 = 0))))) rfl rfl) (fun hb101 => ?_) (fun hb101 => ?_)
                      · replace H := (if_pos (of_decide_eq_true hb101)).symm.trans H
                        refine wla rfl rfl (q_move (v := v17_0) rfl s8_94) ?_
                        refine wla rfl rfl (q_len rfl T23.sl rfl i0_94) ?_
                        refine wla rfl rfl (q_move (v := (i64 a0n)) rfl s0_94) ?_
                        refine wla rfl rfl (q_neI rfl rfl rfl) ?_
                        refine wla rfl rfl (q_pick_t (v := (.bool ((!decide ((r17.1.length : Int) = a0n))))) rfl rfl rfl) ?_
                        refine wla rfl rfl (q_pick_f (v := (.bool ((!decide ((r17.1.length : Int) = a0n))))) rfl rfl rfl) ?_
                        refine wl_nil ?_
                        refine W_th ?_
                        refine W_cond _ rfl rfl (fun hb102 => ?_) (fun hb102 => ?_)
                        · replace H := (if_neg (ndec_t hb102)).symm.trans H
                          refine W_seq ?_
                          refine W_reg (by kernel_rfl) ?_
                          refine wla rfl rfl (q_assign (v := (.bool false)) rfl rfl) ?_
                          refine wl_nil ?_
                          refine W_th ?_
                          refine W_ret ?_
                          refine th_r ?_
                          obtain rfl := Option.some.inj H
                          refine rt1 (.bool false) rfl rfl rfl s163_94 ?_
                          exact ⟨rfl, e98⟩
                        · replace H := (if_pos (ndec_f hb102)).symm.trans H
                          refine W_skip ?_
                          refine W_th ?_
                          refine W_seq ?_
                          refine W_block ?_
                          refine W_seq ?_
                          refine W_reg (by kernel_rfl) ?_
                          refine wla rfl rfl (q_move (v := p1) rfl s1_94) ?_
                          refine wla rfl rfl (q_len rfl T23.sl rfl (hp1.lift (Lift.ext e98 _))) ?_
                          refine wla rfl rfl (q_eqI rfl rfl rfl) ?_
                          refine wlb rfl rfl (q_move (v := (.bool ((decide ((a1parts.length : Int) = 0))))) rfl rfl) (fun hb103 => ?_) (fun hb103 => ?_)
                          · replace H := (if_pos (of_decide_eq_true hb103)).symm.trans H
                            refine wlk rfl rfl ?_
                            refine wlk rfl rfl ?_
                            refine wla rfl rfl (q_pick_t (v := (.bool true)) rfl rfl rfl) ?_
                            refine wla rfl rfl (q_move (v := (.bool true)) rfl rfl) ?_
                            refine wlk rfl rfl ?_
                            refine wlk rfl rfl ?_
                            refine wla rfl rfl (q_pick_t (v := (.bool true)) rfl rfl rfl) ?_
                            refine wla rfl rfl (q_assign (v := (.bool true)) rfl rfl) ?_
                            refine wl_nil ?_
                            refine W_th ?_
                            refine W_cond true rfl rfl (fun _ => ?_) (fun hb => by cases hb)
                            refine W_seq ?_
                            refine W_reg (by kernel_rfl) ?_
                            refine wla rfl rfl (q_move (v := (i64 r19.2)) rfl s11_94) ?_
                            refine wla rfl rfl (q_eqI rfl rfl rfl) ?_
                            refine wlb rfl rfl (q_move (v := (.bool ((decide (r19.2 = 2))))) rfl rfl) (fun hb104 => ?_) (fun hb104 => ?_)
                            · replace H := (if_pos (of_decide_eq_true hb104)).symm.trans H
                              refine wla rfl rfl (q_move (v := v19_0) rfl s10_94) ?_
                              refine wla rfl rfl (q_len rfl T22.sl rfl i1_94) ?_
                              refine wla rfl rfl (q_eqI rfl rfl rfl) ?_
                              refine wla rfl rfl (q_pick_t (v := (.bool ((decide ((r19.1.length : Int) = 0))))) rfl rfl rfl) ?_
                              refine wla rfl rfl (q_assign (v := (.bool ((decide ((r19.1.length : Int) = 0))))) rfl rfl) ?_
                              refine wl_nil ?_
                              refine W_th ?_
                              refine W_ret ?_
                              refine bk_r ?_
                              refine th_r ?_
                              obtain rfl := Option.some.inj H
                              refine rt1 (.bool ((decide ((r19.1.length : Int) = 0)))) rfl rfl rfl s163_94 ?_
                              exact ⟨rfl, e98⟩
                            · replace H := (if_neg (of_decide_eq_false hb104)).symm.trans H
                              refine wlk rfl rfl ?_
                              refine wlk rfl rfl ?_
                              refine wlk rfl rfl ?_
                              refine wla rfl rfl (q_pick_f (v := (.bool false)) rfl rfl rfl) ?_
                              refine wla rfl rfl (q_assign (v := (.bool false)) rfl rfl) ?_
                              refine wl_nil ?_
                              refine W_th ?_
                              refine W_ret ?_
                              refine bk_r ?_
                              refine th_r ?_
                              obtain rfl := Option.some.inj H
                              refine rt1 (.bool false) rfl rfl rfl s163_94 ?_
                              exact ⟨rfl, e98⟩
                          · replace H := (if_neg (of_decide_eq_false hb103)).symm.trans H
                            refine wla rfl rfl (q_move (v := (i64 a2x)) rfl s2_94) ?_
                            refine wla rfl rfl (q_ltI rfl rfl rfl) ?_
                            refine wla rfl rfl (q_pick_f (v := (.bool ((decide (a2x < 1))))) rfl rfl rfl) ?_
                            refine wlb rfl rfl (q_move (v := (.bool ((decide (a2x < 1))))) rfl rfl) (fun hb105 => ?_) (fun hb105 => ?_)
                            · replace H := (if_pos (of_decide_eq_true hb105)).symm.trans H
                              refine wlk rfl rfl ?_
                              refine wlk rfl rfl ?_
                              refine wla rfl rfl (q_pick_t (v := (.bool true)) rfl rfl rfl) ?_
                              refine wla rfl rfl (q_assign (v := (.bool true)) rfl rfl) ?_
                              refine wl_nil ?_
                              refine W_th ?_
                              refine W_cond true rfl rfl (fun _ => ?_) (fun hb => by cases hb)
                              refine W_seq ?_
                              refine W_reg (by kernel_rfl) ?_
                              refine wla rfl rfl (q_move (v := (i64 r19.2)) rfl s11_94) ?_
                              refine wla rfl rfl (q_eqI rfl rfl rfl) ?_
                              refine wlb rfl rfl (q_move (v := (.bool ((decide (r19.2 = 2))))) rfl rfl) (fun hb106 => ?_) (fun hb106 => ?_)
                              · replace H := (if_pos (of_decide_eq_true hb106)).symm.trans H
                                refine wla rfl rfl (q_move (v := v19_0) rfl s10_94) ?_
                                refine wla rfl rfl (q_len rfl T22.sl rfl i1_94) ?_
                                refine wla rfl rfl (q_eqI rfl rfl rfl) ?_
                                refine wla rfl rfl (q_pick_t (v := (.bool ((decide ((r19.1.length : Int) = 0))))) rfl rfl rfl) ?_
                                refine wla rfl rfl (q_assign (v := (.bool ((decide ((r19.1.length : Int) = 0))))) rfl rfl) ?_
                                refine wl_nil ?_
                                refine W_th ?_
                                refine W_ret ?_
                                refine bk_r ?_
                                refine th_r ?_
                                obtain rfl := Option.some.inj H
                                refine rt1 (.bool ((decide ((r19.1.length : Int) = 0)))) rfl rfl rfl s163_94 ?_
                                exact ⟨rfl, e98⟩
                              · replace H := (if_neg (of_decide_eq_false hb106)).symm.trans H
                                refine wlk rfl rfl ?_
                                refine wlk rfl rfl ?_
                                refine wlk rfl rfl ?_
                                refine wla rfl rfl (q_pick_f (v := (.bool false)) rfl rfl rfl) ?_
                                refine wla rfl rfl (q_assign (v := (.bool false)) rfl rfl) ?_
                                refine wl_nil ?_
                                refine W_th ?_
                                refine W_ret ?_
                                refine bk_r ?_
                                refine th_r ?_
                                obtain rfl := Option.some.inj H
                                refine rt1 (.bool false) rfl rfl rfl s163_94 ?_
                                exact ⟨rfl, e98⟩
                            · replace H := (if_neg (of_decide_eq_false hb105)).symm.trans H
                              refine wla rfl rfl (q_move (v := (i64 a2x)) rfl s2_94) ?_
                              refine wla rfl rfl (q_gtI rfl rfl rfl) ?_
                              refine wla rfl rfl (q_pick_f (v := (.bool ((decide (255 < a2x))))) rfl rfl rfl) ?_
                              refine wla rfl rfl (q_assign (v := (.bool ((decide (255 < a2x))))) rfl rfl) ?_
                              refine wl_nil ?_
                              refine W_th ?_
                              refine W_cond _ rfl rfl (fun hb107 => ?_) (fun hb107 => ?_)
                              · replace H := (if_pos (of_decide_eq_true hb107)).symm.trans H
                                refine W_seq ?_
                                refine W_reg (by kernel_rfl) ?_
                                refine wla rfl rfl (q_move (v := (i64 r19.2)) rfl s11_94) ?_
                                refine wla rfl rfl (q_eqI rfl rfl rfl) ?_
                                refine wlb rfl rfl (q_move (v := (.bool ((decide (r19.2 = 2))))) rfl rfl) (fun hb108 => ?_) (fun hb108 => ?_)
                                · replace H := (if_pos (of_decide_eq_true hb108)).symm.trans H
                                  refine wla rfl rfl (q_move (v := v19_0) rfl s10_94) ?_
                                  refine wla rfl rfl (q_len rfl T22.sl rfl i1_94) ?_
                                  refine wla rfl rfl (q_eqI rfl rfl rfl) ?_
                                  refine wla rfl rfl (q_pick_t (v := (.bool ((decide ((r19.1.length : Int) = 0))))) rfl rfl rfl) ?_
                                  refine wla rfl rfl (q_assign (v := (.bool ((decide ((r19.1.length : Int) = 0))))) rfl rfl) ?_
                                  refine wl_nil ?_
                                  refine W_th ?_
                                  refine W_ret ?_
                                  refine bk_r ?_
                                  refine th_r ?_
                                  obtain rfl := Option.some.inj H
                                  refine rt1 (.bool ((decide ((r19.1.length : Int) = 0)))) rfl rfl rfl s163_94 ?_
                                  exact ⟨rfl, e98⟩
                                · replace H := (if_neg (of_decide_eq_false hb108)).symm.trans H
                                  refine wlk rfl rfl ?_
                                  refine wlk rfl rfl ?_
                                  refine wlk rfl rfl ?_
                                  refine wla rfl rfl (q_pick_f (v := (.bool false)) rfl rfl rfl) ?_
                                  refine wla rfl rfl (q_assign (v := (.bool false)) rfl rfl) ?_
                                  refine wl_nil ?_
                                  refine W_th ?_
                                  refine W_ret ?_
                                  refine bk_r ?_
                                  refine th_r ?_
                                  obtain rfl := Option.some.inj H
                                  refine rt1 (.bool false) rfl rfl rfl s163_94 ?_
                                  exact ⟨rfl, e98⟩
                              · replace H := (if_neg (of_decide_eq_false hb107)).symm.trans H
                                refine W_seq ?_
                                refine W_reg (by kernel_rfl) ?_
                                refine wla rfl rfl (q_move (v := p1) rfl s1_94) ?_
                                obtain ⟨r109, hr109, H⟩ := Option.bind_eq_some_iff.1 H
                                refine wls rfl rfl (stp_call (vs := [p1]) Try.func32 rfl rfl rfl (ar1 rfl) (law09_unlike_calls a1parts p1 r109 _ (hp1.lift (Lift.ext e98 _)) hr109) ?_)
                                rintro _ w109 ⟨rfl, x109⟩
                                refine ⟨_, rfl, ?_⟩
                                replace i0_94 := i0_94.lift (Lift.ext x109 _)
                                replace i1_94 := i1_94.lift (Lift.ext x109 _)
                                replace i95_0 := i95_0.lift (Lift.ext x109 _)
                                replace i97_0 := i97_0.lift (Lift.ext x109 _)
                                have e110 := e98.trans x109
                                refine wla rfl rfl (q_assign (v := (.bool r109)) rfl rfl) ?_
                                refine wl_nil ?_
                                refine W_th ?_
                                refine W_cond _ rfl rfl (fun hb111 => ?_) (fun hb111 => ?_)
                                · replace H := (if_pos hb111).symm.trans H
                                  refine W_seq ?_
                                  refine W_reg (by kernel_rfl) ?_
                                  refine wla rfl rfl (q_move (v := (i64 r19.2)) rfl s11_94) ?_
                                  refine wla rfl rfl (q_eqI rfl rfl rfl) ?_
                                  refine wlb rfl rfl (q_move (v := (.bool ((decide (r19.2 = 3))))) rfl rfl) (fun hb112 => ?_) (fun hb112 => ?_)
                                  · replace H := (if_pos (of_decide_eq_true hb112)).symm.trans H
                                    refine wla rfl rfl (q_move (v := v19_0) rfl s10_94) ?_
                                    refine wla rfl rfl (q_len rfl T22.sl rfl i1_94) ?_
                                    refine wla rfl rfl (q_eqI rfl rfl rfl) ?_
                                    refine wla rfl rfl (q_pick_t (v := (.bool ((decide ((r19.1.length : Int) = 0))))) rfl rfl rfl) ?_
                                    refine wla rfl rfl (q_assign (v := (.bool ((decide ((r19.1.length : Int) = 0))))) rfl rfl) ?_
                                    refine wl_nil ?_
                                    refine W_th ?_
                                    refine W_ret ?_
                                    refine bk_r ?_
                                    refine th_r ?_
                                    obtain rfl := Option.some.inj H
                                    refine rt1 (.bool ((decide ((r19.1.length : Int) = 0)))) rfl rfl rfl s163_94 ?_
                                    exact ⟨rfl, e110⟩
                                  · replace H := (if_neg (of_decide_eq_false hb112)).symm.trans H
                                    refine wlk rfl rfl ?_
                                    refine wlk rfl rfl ?_
                                    refine wlk rfl rfl ?_
                                    refine wla rfl rfl (q_pick_f (v := (.bool false)) rfl rfl rfl) ?_
                                    refine wla rfl rfl (q_assign (v := (.bool false)) rfl rfl) ?_
                                    refine wl_nil ?_
                                    refine W_th ?_
                                    refine W_ret ?_
                                    refine bk_r ?_
                                    refine th_r ?_
                                    obtain rfl := Option.some.inj H
                                    refine rt1 (.bool false) rfl rfl rfl s163_94 ?_
                                    exact ⟨rfl, e110⟩
                                · replace H := (if_neg (ne_true_of_eq_false hb111)).symm.trans H
                                  refine W_skip ?_
                                  refine bk_n ?_
                                  refine W_th ?_
                                  refine W_seq ?_
                                  refine W_draw [4, 8] [(0, 0), (1, 0), (2, 0), (3, 0), (4, 1), (5, 0), (6, 0), (7, 2), (8, 1), (9, 0), (10, 0), (11, 0)] mixed (by kernel_rfl) (by kernel_rfl) (by kernel_rfl) (by kernel_rfl) ?_
                                  have x113 := Ext.drew w109
                                  replace i0_94 := i0_94.lift (Lift.ext x113 _)
                                  replace i1_94 := i1_94.lift (Lift.ext x113 _)
                                  replace i95_0 := i95_0.lift (Lift.ext x113 _)
                                  replace i97_0 := i97_0.lift (Lift.ext x113 _)
                                  have e114 := e110.trans x113
                                  refine wsa rfl rfl rfl (q_move (v := (i64 r19.2)) rfl s11_94) ?_
                                  refine wsa rfl rfl rfl (q_eqI rfl rfl rfl) ?_
                                  refine wsb rfl rfl rfl (q_move (v := (.bool ((decide (r19.2 = 0))))) rfl rfl) (fun hb115 => ?_) (fun hb115 => ?_)
                                  · replace H := (if_pos (of_decide_eq_true hb115)).symm.trans H
                                    refine wsa rfl rfl rfl (q_move (v := v19_0) rfl s10_94) ?_
                                    refine wsq rfl rfl rfl (q_str rfl T22 rfl rfl rfl i1_94) ?_
                                    refine wsa rfl rfl rfl (q_move (v := p1) rfl s1_94) ?_
                                    refine wsa rfl rfl rfl (q_move (v := (i64 a2x)) rfl s2_94) ?_
                                    obtain ⟨r116, hr116, H⟩ := Option.bind_eq_some_iff.1 H
                                    refine wss rfl rfl rfl (stp_call (vs := [p1, (i64 a2x)]) Try.func35 rfl rfl rfl (ar2 rfl rfl) (ref09_Piece_calls a1parts a2x p1 r116 _ (hp1.lift (Lift.ext e114 _)) hr116) ?_)
                                    rintro _ w116 ⟨v116, rfl, x116, n116_0, o116_0⟩
                                    refine ⟨_, rfl, x116, ?_⟩
                                    have i116_0 : By w116 [] v116 r116 := OwK.slk (Sc.stab _) _ (OwK.scal o116_0 (v116 :: [])) (fun k hk => (Old.nil _) k (n116_0 k hk)) (fun _ h => h.2)
                                    replace i0_94 := i0_94.lift (Lift.ext x116 _)
                                    replace i1_94 := i1_94.lift (Lift.ext x116 _)
                                    replace i95_0 := i95_0.lift (Lift.ext x116 _)
                                    replace i97_0 := i97_0.lift (Lift.ext x116 _)
                                    have e117 := e114.trans x116
                                    refine wsq rfl rfl rfl (q_str rfl T22 rfl rfl rfl i116_0) ?_
                                    refine wsa rfl rfl rfl (q_eqS rfl rfl rfl) ?_
                                    refine wsa rfl rfl rfl (q_pick_t (v := (.bool ((decide (r19.1 = r116))))) rfl rfl rfl) ?_
                                    refine wsa rfl rfl rfl (q_assign (v := (.bool ((decide (r19.1 = r116))))) rfl rfl) ?_
                                    refine ws_nil ?_
                                    refine W_th ?_
                                    refine W_ret ?_
                                    obtain rfl := Option.some.inj H
                                    refine rt1 (.bool ((decide (r19.1 = r116)))) rfl rfl rfl s163_94 ?_
                                    exact ⟨rfl, e117⟩
                                  · replace H := (if_neg (of_decide_eq_false hb115)).symm.trans H
                                    refine wsk rfl rfl rfl ?_
                                    refine wsk rfl rfl rfl ?_
                                    refine wsk rfl rfl rfl ?_
                                    refine wsk rfl rfl rfl ?_
                                    refine wsk rfl rfl rfl ?_
                                    refine wsk rfl rfl rfl ?_
                                    refine wsk rfl rfl rfl ?_
                                    refine wsa rfl rfl rfl (q_pick_f (v := (.bool false)) rfl rfl rfl) ?_
                                    refine wsa rfl rfl rfl (q_assign (v := (.bool false)) rfl rfl) ?_
                                    refine ws_nil ?_
                                    refine W_th ?_
                                    refine W_ret ?_
                                    obtain rfl := Option.some.inj H
                                    refine rt1 (.bool false) rfl rfl rfl s163_94 ?_
                                    exact ⟨rfl, e114⟩
                      · replace H := (if_neg (of_decide_eq_false hb101)).symm.trans H
                        refine wlk rfl rfl ?_
                        refine wlk rfl rfl ?_
                        refine wlk rfl rfl ?_
                        refine wlk rfl rfl ?_
                        refine wla rfl rfl (q_pick_f (v := (.bool false)) rfl rfl rfl) ?_
                        refine wla rfl rfl (q_pick_f (v := (.bool false)) rfl rfl rfl) ?_
                        refine wl_nil ?_
                        refine W_th ?_
                        refine W_cond false rfl rfl (fun hb => by cases hb) (fun _ => ?_)
                        refine W_skip ?_
                        refine W_th ?_
                        refine W_seq ?_
                        refine W_block ?_
                        refine W_seq ?_
                        refine W_reg (by kernel_rfl) ?_
                        refine wla rfl rfl (q_move (v := p1) rfl s1_94) ?_
                        refine wla rfl rfl (q_len rfl T23.sl rfl (hp1.lift (Lift.ext e98 _))) ?_
                        refine wla rfl rfl (q_eqI rfl rfl rfl) ?_
                        refine wlb rfl rfl (q_move (v := (.bool ((decide ((a1parts.length : Int) = 0))))) rfl rfl) (fun hb118 => ?_) (fun hb118 => ?_)
                        · replace H := (if_pos (of_decide_eq_true hb118)).symm.trans H
                          refine wlk rfl rfl ?_
                          refine wlk rfl rfl ?_
                          refine wla rfl rfl (q_pick_t (v := (.bool true)) rfl rfl rfl) ?_
                          refine wla rfl rfl (q_move (v := (.bool true)) rfl rfl) ?_
                          refine wlk rfl rfl ?_
                          refine wlk rfl rfl ?_
                          refine wla rfl rfl (q_pick_t (v := (.bool true)) rfl rfl rfl) ?_
                          refine wla rfl rfl (q_assign (v := (.bool true)) rfl rfl) ?_
                          refine wl_nil ?_
                          refine W_th ?_
                          refine W_cond true rfl rfl (fun _ => ?_) (fun hb => by cases hb)
                          refine W_seq ?_
                          refine W_reg (by kernel_rfl) ?_
                          refine wla rfl rfl (q_move (v := (i64 r19.2)) rfl s11_94) ?_
                          refine wla rfl rfl (q_eqI rfl rfl rfl) ?_
                          refine wlb rfl rfl (q_move (v := (.bool ((decide (r19.2 = 2))))) rfl rfl) (fun hb119 => ?_) (fun hb119 => ?_)
                          · replace H := (if_pos (of_decide_eq_true hb119)).symm.trans H
                            refine wla rfl rfl (q_move (v := v19_0) rfl s10_94) ?_
                            refine wla rfl rfl (q_len rfl T22.sl rfl i1_94) ?_
                            refine wla rfl rfl (q_eqI rfl rfl rfl) ?_
                            refine wla rfl rfl (q_pick_t (v := (.bool ((decide ((r19.1.length : Int) = 0))))) rfl rfl rfl) ?_
                            refine wla rfl rfl (q_assign (v := (.bool ((decide ((r19.1.length : Int) = 0))))) rfl rfl) ?_
                            refine wl_nil ?_
                            refine W_th ?_
                            refine W_ret ?_
                            refine bk_r ?_
                            refine th_r ?_
                            obtain rfl := Option.some.inj H
                            refine rt1 (.bool ((decide ((r19.1.length : Int) = 0)))) rfl rfl rfl s163_94 ?_
                            exact ⟨rfl, e98⟩
                          · replace H := (if_neg (of_decide_eq_false hb119)).symm.trans H
                            refine wlk rfl rfl ?_
                            refine wlk rfl rfl ?_
                            refine wlk rfl rfl ?_
                            refine wla rfl rfl (q_pick_f (v := (.bool false)) rfl rfl rfl) ?_
                            refine wla rfl rfl (q_assign (v := (.bool false)) rfl rfl) ?_
                            refine wl_nil ?_
                            refine W_th ?_
                            refine W_ret ?_
                            refine bk_r ?_
                            refine th_r ?_
                            obtain rfl := Option.some.inj H
                            refine rt1 (.bool false) rfl rfl rfl s163_94 ?_
                            exact ⟨rfl, e98⟩
                        · replace H := (if_neg (of_decide_eq_false hb118)).symm.trans H
                          refine wla rfl rfl (q_move (v := (i64 a2x)) rfl s2_94) ?_
                          refine wla rfl rfl (q_ltI rfl rfl rfl) ?_
                          refine wla rfl rfl (q_pick_f (v := (.bool ((decide (a2x < 1))))) rfl rfl rfl) ?_
                          refine wlb rfl rfl (q_move (v := (.bool ((decide (a2x < 1))))) rfl rfl) (fun hb120 => ?_) (fun hb120 => ?_)
                          · replace H := (if_pos (of_decide_eq_true hb120)).symm.trans H
                            refine wlk rfl rfl ?_
                            refine wlk rfl rfl ?_
                            refine wla rfl rfl (q_pick_t (v := (.bool true)) rfl rfl rfl) ?_
                            refine wla rfl rfl (q_assign (v := (.bool true)) rfl rfl) ?_
                            refine wl_nil ?_
                            refine W_th ?_
                            refine W_cond true rfl rfl (fun _ => ?_) (fun hb => by cases hb)
                            refine W_seq ?_
                            refine W_reg (by kernel_rfl) ?_
                            refine wla rfl rfl (q_move (v := (i64 r19.2)) rfl s11_94) ?_
                            refine wla rfl rfl (q_eqI rfl rfl rfl) ?_
                            refine wlb rfl rfl (q_move (v := (.bool ((decide (r19.2 = 2))))) rfl rfl) (fun hb121 => ?_) (fun hb121 => ?_)
                            · replace H := (if_pos (of_decide_eq_true hb121)).symm.trans H
                              refine wla rfl rfl (q_move (v := v19_0) rfl s10_94) ?_
                              refine wla rfl rfl (q_len rfl T22.sl rfl i1_94) ?_
                              refine wla rfl rfl (q_eqI rfl rfl rfl) ?_
                              refine wla rfl rfl (q_pick_t (v := (.bool ((decide ((r19.1.length : Int) = 0))))) rfl rfl rfl) ?_
                              refine wla rfl rfl (q_assign (v := (.bool ((decide ((r19.1.length : Int) = 0))))) rfl rfl) ?_
                              refine wl_nil ?_
                              refine W_th ?_
                              refine W_ret ?_
                              refine bk_r ?_
                              refine th_r ?_
                              obtain rfl := Option.some.inj H
                              refine rt1 (.bool ((decide ((r19.1.length : Int) = 0)))) rfl rfl rfl s163_94 ?_
                              exact ⟨rfl, e98⟩
                            · replace H := (if_neg (of_decide_eq_false hb121)).symm.trans H
                              refine wlk rfl rfl ?_
                              refine wlk rfl rfl ?_
                              refine wlk rfl rfl ?_
                              refine wla rfl rfl (q_pick_f (v := (.bool false)) rfl rfl rfl) ?_
                              refine wla rfl rfl (q_assign (v := (.bool false)) rfl rfl) ?_
                              refine wl_nil ?_
                              refine W_th ?_
                              refine W_ret ?_
                              refine bk_r ?_
                              refine th_r ?_
                              obtain rfl := Option.some.inj H
                              refine rt1 (.bool false) rfl rfl rfl s163_94 ?_
                              exact ⟨rfl, e98⟩
                          · replace H := (if_neg (of_decide_eq_false hb120)).symm.trans H
                            refine wla rfl rfl (q_move (v := (i64 a2x)) rfl s2_94) ?_
                            refine wla rfl rfl (q_gtI rfl rfl rfl) ?_
                            refine wla rfl rfl (q_pick_f (v := (.bool ((decide (255 < a2x))))) rfl rfl rfl) ?_
                            refine wla rfl rfl (q_assign (v := (.bool ((decide (255 < a2x))))) rfl rfl) ?_
                            refine wl_nil ?_
                            refine W_th ?_
                            refine W_cond _ rfl rfl (fun hb122 => ?_) (fun hb122 => ?_)
                            · replace H := (if_pos (of_decide_eq_true hb122)).symm.trans H
                              refine W_seq ?_
                              refine W_reg (by kernel_rfl) ?_
                              refine wla rfl rfl (q_move (v := (i64 r19.2)) rfl s11_94) ?_
                              refine wla rfl rfl (q_eqI rfl rfl rfl) ?_
                              refine wlb rfl rfl (q_move (v := (.bool ((decide (r19.2 = 2))))) rfl rfl) (fun hb123 => ?_) (fun hb123 => ?_)
                              · replace H := (if_pos (of_decide_eq_true hb123)).symm.trans H
                                refine wla rfl rfl (q_move (v := v19_0) rfl s10_94) ?_
                                refine wla rfl rfl (q_len rfl T22.sl rfl i1_94) ?_
                                refine wla rfl rfl (q_eqI rfl rfl rfl) ?_
                                refine wla rfl rfl (q_pick_t (v := (.bool ((decide ((r19.1.length : Int) = 0))))) rfl rfl rfl) ?_
                                refine wla rfl rfl (q_assign (v := (.bool ((decide ((r19.1.length : Int) = 0))))) rfl rfl) ?_
                                refine wl_nil ?_
                                refine W_th ?_
                                refine W_ret ?_
                                refine bk_r ?_
                                refine th_r ?_
                                obtain rfl := Option.some.inj H
                                refine rt1 (.bool ((decide ((r19.1.length : Int) = 0)))) rfl rfl rfl s163_94 ?_
                                exact ⟨rfl, e98⟩
                              · replace H := (if_neg (of_decide_eq_false hb123)).symm.trans H
                                refine wlk rfl rfl ?_
                                refine wlk rfl rfl ?_
                                refine wlk rfl rfl ?_
                                refine wla rfl rfl (q_pick_f (v := (.bool false)) rfl rfl rfl) ?_
                                refine wla rfl rfl (q_assign (v := (.bool false)) rfl rfl) ?_
                                refine wl_nil ?_
                                refine W_th ?_
                                refine W_ret ?_
                                refine bk_r ?_
                                refine th_r ?_
                                obtain rfl := Option.some.inj H
                                refine rt1 (.bool false) rfl rfl rfl s163_94 ?_
                                exact ⟨rfl, e98⟩
                            · replace H := (if_neg (of_decide_eq_false hb122)).symm.trans H
                              refine W_seq ?_
                              refine W_reg (by kernel_rfl) ?_
                              refine wla rfl rfl (q_move (v := p1) rfl s1_94) ?_
                              obtain ⟨r124, hr124, H⟩ := Option.bind_eq_some_iff.1 H
                              refine wls rfl rfl (stp_call (vs := [p1]) Try.func32 rfl rfl rfl (ar1 rfl) (law09_unlike_calls a1parts p1 r124 _ (hp1.lift (Lift.ext e98 _)) hr124) ?_)
                              rintro _ w124 ⟨rfl, x124⟩
                              refine ⟨_, rfl, ?_⟩
                              replace i0_94 := i0_94.lift (Lift.ext x124 _)
                              replace i1_94 := i1_94.lift (Lift.ext x124 _)
                              replace i95_0 := i95_0.lift (Lift.ext x124 _)
                              replace i97_0 := i97_0.lift (Lift.ext x124 _)
                              have e125 := e98.trans x124
                              refine wla rfl rfl (q_assign (v := (.bool r124)) rfl rfl) ?_
                              refine wl_nil ?_
                              refine W_th ?_
                              refine W_cond _ rfl rfl (fun hb126 => ?_) (fun hb126 => ?_)
                              · replace H := (if_pos hb126).symm.trans H
                                refine W_seq ?_
                                refine W_reg (by kernel_rfl) ?_
                                refine wla rfl rfl (q_move (v := (i64 r19.2)) rfl s11_94) ?_
                                refine wla rfl rfl (q_eqI rfl rfl rfl) ?_
                                refine wlb rfl rfl (q_move (v := (.bool ((decide (r19.2 = 3))))) rfl rfl) (fun hb127 => ?_) (fun hb127 => ?_)
                                · replace H := (if_pos (of_decide_eq_true hb127)).symm.trans H
                                  refine wla rfl rfl (q_move (v := v19_0) rfl s10_94) ?_
                                  refine wla rfl rfl (q_len rfl T22.sl rfl i1_94) ?_
                                  refine wla rfl rfl (q_eqI rfl rfl rfl) ?_
                                  refine wla rfl rfl (q_pick_t (v := (.bool ((decide ((r19.1.length : Int) = 0))))) rfl rfl rfl) ?_
                                  refine wla rfl rfl (q_assign (v := (.bool ((decide ((r19.1.length : Int) = 0))))) rfl rfl) ?_
                                  refine wl_nil ?_
                                  refine W_th ?_
                                  refine W_ret ?_
                                  refine bk_r ?_
                                  refine th_r ?_
                                  obtain rfl := Option.some.inj H
                                  refine rt1 (.bool ((decide ((r19.1.length : Int) = 0)))) rfl rfl rfl s163_94 ?_
                                  exact ⟨rfl, e125⟩
                                · replace H := (if_neg (of_decide_eq_false hb127)).symm.trans H
                                  refine wlk rfl rfl ?_
                                  refine wlk rfl rfl ?_
                                  refine wlk rfl rfl ?_
                                  refine wla rfl rfl (q_pick_f (v := (.bool false)) rfl rfl rfl) ?_
                                  refine wla rfl rfl (q_assign (v := (.bool false)) rfl rfl) ?_
                                  refine wl_nil ?_
                                  refine W_th ?_
                                  refine W_ret ?_
                                  refine bk_r ?_
                                  refine th_r ?_
                                  obtain rfl := Option.some.inj H
                                  refine rt1 (.bool false) rfl rfl rfl s163_94 ?_
                                  exact ⟨rfl, e125⟩
                              · replace H := (if_neg (ne_true_of_eq_false hb126)).symm.trans H
                                refine W_skip ?_
                                refine bk_n ?_
                                refine W_th ?_
                                refine W_seq ?_
                                refine W_draw [4, 8] [(0, 0), (1, 0), (2, 0), (3, 0), (4, 1), (5, 0), (6, 0), (7, 2), (8, 1), (9, 0), (10, 0), (11, 0)] mixed (by kernel_rfl) (by kernel_rfl) (by kernel_rfl) (by kernel_rfl) ?_
                                have x128 := Ext.drew w124
                                replace i0_94 := i0_94.lift (Lift.ext x128 _)
                                replace i1_94 := i1_94.lift (Lift.ext x128 _)
                                replace i95_0 := i95_0.lift (Lift.ext x128 _)
                                replace i97_0 := i97_0.lift (Lift.ext x128 _)
                                have e129 := e125.trans x128
                                refine wsa rfl rfl rfl (q_move (v := (i64 r19.2)) rfl s11_94) ?_
                                refine wsa rfl rfl rfl (q_eqI rfl rfl rfl) ?_
                                refine wsb rfl rfl rfl (q_move (v := (.bool ((decide (r19.2 = 0))))) rfl rfl) (fun hb130 => ?_) (fun hb130 => ?_)
                                · replace H := (if_pos (of_decide_eq_true hb130)).symm.trans H
                                  refine wsa rfl rfl rfl (q_move (v := v19_0) rfl s10_94) ?_
                                  refine wsq rfl rfl rfl (q_str rfl T22 rfl rfl rfl i1_94) ?_
                                  refine wsa rfl rfl rfl (q_move (v := p1) rfl s1_94) ?_
                                  refine wsa rfl rfl rfl (q_move (v := (i64 a2x)) rfl s2_94) ?_
                                  obtain ⟨r131, hr131, H⟩ := Option.bind_eq_some_iff.1 H
                                  refine wss rfl rfl rfl (stp_call (vs := [p1, (i64 a2x)]) Try.func35 rfl rfl rfl (ar2 rfl rfl) (ref09_Piece_calls a1parts a2x p1 r131 _ (hp1.lift (Lift.ext e129 _)) hr131) ?_)
                                  rintro _ w131 ⟨v131, rfl, x131, n131_0, o131_0⟩
                                  refine ⟨_, rfl, x131, ?_⟩
                                  have i131_0 : By w131 [] v131 r131 := OwK.slk (Sc.stab _) _ (OwK.scal o131_0 (v131 :: [])) (fun k hk => (Old.nil _) k (n131_0 k hk)) (fun _ h => h.2)
                                  replace i0_94 := i0_94.lift (Lift.ext x131 _)
                                  replace i1_94 := i1_94.lift (Lift.ext x131 _)
                                  replace i95_0 := i95_0.lift (Lift.ext x131 _)
                                  replace i97_0 := i97_0.lift (Lift.ext x131 _)
                                  have e132 := e129.trans x131
                                  refine wsq rfl rfl rfl (q_str rfl T22 rfl rfl rfl i131_0) ?_
                                  refine wsa rfl rfl rfl (q_eqS rfl rfl rfl) ?_
                                  refine wsa rfl rfl rfl (q_pick_t (v := (.bool ((decide (r19.1 = r131))))) rfl rfl rfl) ?_
                                  refine wsa rfl rfl rfl (q_assign (v := (.bool ((decide (r19.1 = r131))))) rfl rfl) ?_
                                  refine ws_nil ?_
                                  refine W_th ?_
                                  refine W_ret ?_
                                  obtain rfl := Option.some.inj H
                                  refine rt1 (.bool ((decide (r19.1 = r131)))) rfl rfl rfl s163_94 ?_
                                  exact ⟨rfl, e132⟩
                                · replace H := (if_neg (of_decide_eq_false hb130)).symm.trans H
                                  refine wsk rfl rfl rfl ?_
                                  refine wsk rfl rfl rfl ?_
                                  refine wsk rfl rfl rfl ?_
                                  refine wsk rfl rfl rfl ?_
                                  refine wsk rfl rfl rfl ?_
                                  refine wsk rfl rfl rfl ?_
                                  refine wsk rfl rfl rfl ?_
                                  refine wsa rfl rfl rfl (q_pick_f (v := (.bool false)) rfl rfl rfl) ?_
                                  refine wsa rfl rfl rfl (q_assign (v := (.bool false)) rfl rfl) ?_
                                  refine ws_nil ?_
                                  refine W_th ?_
                                  refine W_ret ?_
                                  obtain rfl := Option.some.inj H
                                  refine rt1 (.bool false) rfl rfl rfl s163_94 ?_
                                  exact ⟨rfl, e129⟩
      · replace H := (if_neg (of_decide_eq_false hb11)).symm.trans H
        refine wlk rfl rfl ?_
        refine wlk rfl rfl ?_
        refine wla rfl rfl (q_pick_f (v := (.bool false)) rfl rfl rfl) ?_
        refine wla rfl rfl (q_pick_f (v := (.bool false)) rfl rfl rfl) ?_
        refine wl_nil ?_
        refine W_th ?_
        refine W_cond false rfl rfl (fun hb => by cases hb) (fun _ => ?_)
        refine W_skip ?_
        refine W_th ?_
        refine W_seq ?_
        refine W_reg (by kernel_rfl) ?_
        obtain ⟨r135, hr135, H⟩ := Option.bind_eq_some_iff.1 H
        refine wls rfl rfl (stp_call (vs := []) Try.func14 rfl rfl rfl (ar0 ) (field_New_calls   r135 _ [] (Old.nil _)  hr135) ?_)
        rintro _ w135 ⟨v135, rfl, x135, i135_0⟩
        refine ⟨_, rfl, ?_⟩
        have e136 := e7.trans x135
        refine wla rfl rfl (q_assign (v := v135) rfl rfl) ?_
        refine wl_nil ?_
        refine W_th ?_
        refine W_seq ?_
        refine W_reg (by kernel_rfl) ?_
        refine wla rfl rfl (q_move (v := v135) rfl rfl) ?_
        refine wla rfl rfl (q_move (v := (i64 a0n)) rfl rfl) ?_
        refine wla rfl rfl (q_move (v := p1) rfl rfl) ?_
        obtain ⟨r137, hr137, H⟩ := Option.bind_eq_some_iff.1 H
        refine wls rfl rfl (stp_call (vs := [v135, (i64 a0n), p1]) Try.func33 rfl rfl rfl (ar3 rfl rfl rfl) (code_Encode_calls r135 a0n a1parts v135 p1 r137 _ [] (Old.nil _) (i135_0.lift (Lift.sub (fun _ _ => trivial))) (hp1.lift (Lift.ext e136 _)) hr137) ?_)
        rintro _ w137 ⟨v137_0, rfl, x137, n137_0, o137_0⟩
        refine ⟨_, rfl, ?_⟩
        have i137_0 : Rw w137 [] v137_0 r137.1 := OwK.slk (SlK.stab (Sc.stab _)) _ o137_0 (fun k hk => (Old.nil _) k (n137_0 k hk)) (fun _ h => h.2)
        replace i135_0 := i135_0.lift (Lift.ext x137 _)
        have e138 := e136.trans x137
        refine wla rfl rfl (q_move (v := (.tuple #[v137_0, (i64 r137.2)])) rfl rfl) ?_
        refine wla rfl rfl (q_extract rfl rfl rfl) ?_
        refine wla rfl rfl (q_extract rfl rfl rfl) ?_
        refine wla rfl rfl (q_assign (v := v137_0) rfl rfl) ?_
        refine wla rfl rfl (q_assign (v := (i64 r137.2)) rfl rfl) ?_
        refine wl_nil ?_
        refine W_th ?_
        refine W_seq ?_
        refine W_reg (by kernel_rfl) ?_
        refine wla rfl rfl (q_move (v := v135) rfl rfl) ?_
        refine wla rfl rfl (q_move (v := p1) rfl rfl) ?_
        refine wla rfl rfl (q_move (v := (i64 a2x)) rfl rfl) ?_
        obtain ⟨r139, hr139, H⟩ := Option.bind_eq_some_iff.1 H
        refine wls rfl rfl (stp_call (vs := [v135, p1, (i64 a2x)]) Try.func34 rfl rfl rfl (ar3 rfl rfl rfl) (code_Piece_calls r135 a1parts a2x v135 p1 r139 _ (i135_0.lift (Lift.sub (fun _ _ => trivial))) (hp1.lift (Lift.ext e138 _)) hr139) ?_)
        rintro _ w139 ⟨v139_0, rfl, x139, n139_0, o139_0⟩
        refine ⟨_, rfl, ?_⟩
        have i139_0 : By w139 [] v139_0 r139.1 := OwK.slk (Sc.stab _) _ (OwK.scal o139_0 (v139_0 :: [])) (fun k hk => (Old.nil _) k (n139_0 k hk)) (fun _ h => h.2)
        replace i135_0 := i135_0.lift (Lift.ext x139 _)
        replace i137_0 := i137_0.lift (Lift.ext x139 _)
        have e140 := e138.trans x139
        refine wla rfl rfl (q_move (v := (.tuple #[v139_0, (i64 r139.2)])) rfl rfl) ?_
        refine wla rfl rfl (q_extract rfl rfl rfl) ?_
        refine wla rfl rfl (q_extract rfl rfl rfl) ?_
        refine wla rfl rfl (q_assign (v := v139_0) rfl rfl) ?_
        refine wla rfl rfl (q_assign (v := (i64 r139.2)) rfl rfl) ?_
        refine wl_nil ?_
        refine W_th ?_
        refine W_seq ?_
        refine W_reg (by kernel_rfl) ?_
        refine wla rfl rfl (q_assign (v := (i64 0)) rfl rfl) ?_
        refine wl_nil ?_
        refine W_th ?_
        refine W_seq ?_
        obtain ⟨x141, H141, H⟩ := Option.bind_eq_some_iff.1 H
        refine W_mid (fun f w => f 0 = (i64 a0n) ∧ f 1 = p1 ∧ f 2 = (i64 a2x) ∧ f 8 = v137_0 ∧ f 9 = (i64 r137.2) ∧ f 10 = v139_0 ∧ f 11 = (i64 r139.2) ∧ f 12 = (i64 x141) ∧ f 163 = undef ∧ Ext w0 w ∧ Rw w [] v137_0 r137.1 ∧ By w [] v139_0 r139.1) ?_ ?_
        · refine W_block ?_
          refine W_seq ?_
          refine W_reg (by kernel_rfl) ?_
          refine wla rfl rfl (q_move (v := p1) rfl rfl) ?_
          refine wla rfl rfl (q_len rfl T23.sl rfl (hp1.lift (Lift.ext e140 _))) ?_
          refine wla rfl rfl (q_eqI rfl rfl rfl) ?_
          refine wlb rfl rfl (q_move (v := (.bool ((decide ((a1parts.length : Int) = 0))))) rfl rfl) (fun hb142 => ?_) (fun hb142 => ?_)
          · replace H141 := (if_pos (of_decide_eq_true hb142)).symm.trans H141
            refine wlk rfl rfl ?_
            refine wlk rfl rfl ?_
            refine wlk rfl rfl ?_
            refine wlk rfl rfl ?_
            refine wla rfl rfl (q_pick_t (v := (.bool true)) rfl rfl rfl) ?_
            refine wla rfl rfl (q_move (v := (.bool true)) rfl rfl) ?_
            refine wlk rfl rfl ?_
            refine wlk rfl rfl ?_
            refine wla rfl rfl (q_pick_t (v := (.bool true)) rfl rfl rfl) ?_
            refine wla rfl rfl (q_assign (v := (.bool true)) rfl rfl) ?_
            refine wl_nil ?_
            refine W_th ?_
            refine W_cond true rfl rfl (fun _ => ?_) (fun hb => by cases hb)
            refine W_reg (by kernel_rfl) ?_
            refine wla rfl rfl (q_assign (v := (i64 2)) rfl rfl) ?_
            refine wl_nil ?_
            refine bk_n ?_
            obtain rfl := Option.some.inj H141
            exact ⟨rfl, rfl, rfl, rfl, rfl, rfl, rfl, rfl, rfl, e140, i137_0, i139_0⟩
          · replace H141 := (if_neg (of_decide_eq_false hb142)).symm.trans H141
            refine wla rfl rfl (q_move (v := p1) rfl rfl) ?_
            refine wla rfl rfl (q_len rfl T23.sl rfl (hp1.lift (Lift.ext e140 _))) ?_
            refine wla rfl rfl (q_move (v := (i64 a0n)) rfl rfl) ?_
            refine wla rfl rfl (q_gtI rfl rfl rfl) ?_
            refine wla rfl rfl (q_pick_f (v := (.bool ((decide (a0n < (a1parts.length : Int)))))) rfl rfl rfl) ?_
            refine wlb rfl rfl (q_move (v := (.bool ((decide (a0n < (a1parts.length : Int)))))) rfl rfl) (fun hb143 => ?_) (fun hb143 => ?_)
            · replace H141 := (if_pos (of_decide_eq_true hb143)).symm.trans H141
              refine wlk rfl rfl ?_
              refine wlk rfl rfl ?_
              refine wla rfl rfl (q_pick_t (v := (.bool true)) rfl rfl rfl) ?_
              refine wla rfl rfl (q_assign (v := (.bool true)) rfl rfl) ?_
              refine wl_nil ?_
              refine W_th ?_
              refine W_cond true rfl rfl (fun _ => ?_) (fun hb => by cases hb)
              refine W_reg (by kernel_rfl) ?_
              refine wla rfl rfl (q_assign (v := (i64 2)) rfl rfl) ?_
              refine wl_nil ?_
              refine bk_n ?_
              obtain rfl := Option.some.inj H141
              exact ⟨rfl, rfl, rfl, rfl, rfl, rfl, rfl, rfl, rfl, e140, i137_0, i139_0⟩
            · replace H141 := (if_neg (of_decide_eq_false hb143)).symm.trans H141
              refine wla rfl rfl (q_move (v := (i64 a0n)) rfl rfl) ?_
              refine wla rfl rfl (q_gtI rfl rfl rfl) ?_
              refine wla rfl rfl (q_pick_f (v := (.bool ((decide (255 < a0n))))) rfl rfl rfl) ?_
              refine wla rfl rfl (q_assign (v := (.bool ((decide (255 < a0n))))) rfl rfl) ?_
              refine wl_nil ?_
              refine W_th ?_
              refine W_cond _ rfl rfl (fun hb144 => ?_) (fun hb144 => ?_)
              · replace H141 := (if_pos (of_decide_eq_true hb144)).symm.trans H141
                refine W_reg (by kernel_rfl) ?_
                refine wla rfl rfl (q_assign (v := (i64 2)) rfl rfl) ?_
                refine wl_nil ?_
                refine bk_n ?_
                obtain rfl := Option.some.inj H141
                exact ⟨rfl, rfl, rfl, rfl, rfl, rfl, rfl, rfl, rfl, e140, i137_0, i139_0⟩
              · replace H141 := (if_neg (of_decide_eq_false hb144)).symm.trans H141
                refine W_seq ?_
                refine W_reg (by kernel_rfl) ?_
                refine wla rfl rfl (q_move (v := p1) rfl rfl) ?_
                obtain ⟨r145, hr145, H141⟩ := Option.bind_eq_some_iff.1 H141
                refine wls rfl rfl (stp_call (vs := [p1]) Try.func32 rfl rfl rfl (ar1 rfl) (law09_unlike_calls a1parts p1 r145 _ (hp1.lift (Lift.ext e140 _)) hr145) ?_)
                rintro _ w145 ⟨rfl, x145⟩
                refine ⟨_, rfl, ?_⟩
                replace i135_0 := i135_0.lift (Lift.ext x145 _)
                replace i137_0 := i137_0.lift (Lift.ext x145 _)
                replace i139_0 := i139_0.lift (Lift.ext x145 _)
                have e146 := e140.trans x145
                refine wla rfl rfl (q_assign (v := (.bool r145)) rfl rfl) ?_
                refine wl_nil ?_
                refine W_th ?_
                refine W_cond _ rfl rfl (fun hb147 => ?_) (fun hb147 => ?_)
                · replace H141 := (if_pos hb147).symm.trans H141
                  refine W_reg (by kernel_rfl) ?_
                  refine wla rfl rfl (q_assign (v := (i64 3)) rfl rfl) ?_
                  refine wl_nil ?_
                  refine bk_n ?_
                  obtain rfl := Option.some.inj H141
                  exact ⟨rfl, rfl, rfl, rfl, rfl, rfl, rfl, rfl, rfl, e146, i137_0, i139_0⟩
                · replace H141 := (if_neg (ne_true_of_eq_false hb147)).symm.trans H141
                  refine W_skip ?_
                  refine bk_n ?_
                  obtain rfl := Option.some.inj H141
                  exact ⟨rfl, rfl, rfl, rfl, rfl, rfl, rfl, rfl, rfl, e146, i137_0, i139_0⟩
        · rintro _ w148 ⟨s0_148, s1_148, s2_148, s8_148, s9_148, s10_148, s11_148, s12_148, s163_148, hE148, i0_148, i1_148⟩
          refine W_th ?_
          refine W_seq ?_
          refine W_seq ?_
          refine W_reg (by kernel_rfl) ?_
          refine wla rfl rfl (q_move (v := (i64 r137.2)) rfl s9_148) ?_
          refine wla rfl rfl (q_move (v := (i64 x141)) rfl s12_148) ?_
          refine wla rfl rfl (q_neI rfl rfl rfl) ?_
          refine wlb rfl rfl (q_move (v := (.bool ((!decide (r137.2 = x141))))) rfl rfl) (fun hb149 => ?_) (fun hb149 => ?_)
          · replace H := (if_neg (ndec_t hb149)).symm.trans H
            refine wlk rfl rfl ?_
            refine wlk rfl rfl ?_
            refine wlk rfl rfl ?_
            refine wlk rfl rfl ?_
            refine wlk rfl rfl ?_
            refine wlk rfl rfl ?_
            refine wlk rfl rfl ?_
            refine wla rfl rfl (q_pick_t (v := (.bool true)) rfl rfl rfl) ?_
            refine wl_nil ?_
            refine W_th ?_
            refine W_cond true rfl rfl (fun _ => ?_) (fun hb => by cases hb)
            refine W_seq ?_
            refine W_reg (by kernel_rfl) ?_
            refine wla rfl rfl (q_assign (v := (.bool false)) rfl rfl) ?_
            refine wl_nil ?_
            refine W_th ?_
            refine W_ret ?_
            refine th_r ?_
            obtain rfl := Option.some.inj H
            refine rt1 (.bool false) rfl rfl rfl s163_148 ?_
            exact ⟨rfl, hE148⟩
          · replace H := (if_pos (ndec_f hb149)).symm.trans H
            refine wla rfl rfl (q_move (v := (i64 x141)) rfl s12_148) ?_
            refine wla rfl rfl (q_neI rfl rfl rfl) ?_
            refine wlb rfl rfl (q_move (v := (.bool ((!decide (x141 = 0))))) rfl rfl) (fun hb150 => ?_) (fun hb150 => ?_)
            · replace H := (if_neg (ndec_t hb150)).symm.trans H
              refine wla rfl rfl (q_move (v := v137_0) rfl s8_148) ?_
              refine wla rfl rfl (q_len rfl T23.sl rfl i0_148) ?_
              refine wla rfl rfl (q_neI rfl rfl rfl) ?_
              refine wla rfl rfl (q_pick_t (v := (.bool ((!decide ((r137.1.length : Int) = 0))))) rfl rfl rfl) ?_
              refine wla rfl rfl (q_pick_f (v := (.bool ((!decide ((r137.1.length : Int) = 0))))) rfl rfl rfl) ?_
              refine wl_nil ?_
              refine W_th ?_
              refine W_cond _ rfl rfl (fun hb151 => ?_) (fun hb151 => ?_)
              · replace H := (if_neg (ndec_t hb151)).symm.trans H
                refine W_seq ?_
                refine W_reg (by kernel_rfl) ?_
                refine wla rfl rfl (q_assign (v := (.bool false)) rfl rfl) ?_
                refine wl_nil ?_
                refine W_th ?_
                refine W_ret ?_
                refine th_r ?_
                obtain rfl := Option.some.inj H
                refine rt1 (.bool false) rfl rfl rfl s163_148 ?_
                exact ⟨rfl, hE148⟩
              · replace H := (if_pos (ndec_f hb151)).symm.trans H
                refine W_skip ?_
                refine W_th ?_
                refine W_seq ?_
                refine W_seq ?_
                refine W_reg (by kernel_rfl) ?_
                refine wla rfl rfl (q_move (v := v137_0) rfl s8_148) ?_
                refine wla rfl rfl (q_len rfl T23.sl rfl i0_148) ?_
                refine wla rfl rfl (q_move (v := (i64 0)) rfl rfl) ?_
                refine wl_nil ?_
                refine W_th ?_
                obtain ⟨x152, G152, H⟩ := Option.bind_eq_some_iff.1 H
                refine W_mid (fun f w => ∃ y152, x152 = .inl y152 ∧ f 0 = (i64 a0n) ∧ f 1 = p1 ∧ f 2 = (i64 a2x) ∧ f 8 = v137_0 ∧ f 10 = v139_0 ∧ f 11 = (i64 r139.2) ∧ f 12 = (i64 x141) ∧ f 163 = undef ∧ Ext w0 w ∧ Rw w [] v137_0 r137.1 ∧ By w [] v139_0 r139.1) ?_ ?_
                · refine W_block ?_
                  refine W_loop (fun s152 f w => f 0 = (i64 a0n) ∧ f 1 = p1 ∧ f 2 = (i64 a2x) ∧ f 8 = v137_0 ∧ f 10 = v139_0 ∧ f 11 = (i64 r139.2) ∧ f 12 = (i64 x141) ∧ f 79 = (i64 ((r137.1.length : Int))) ∧ f 80 = (i64 s152) ∧ f 163 = undef ∧ Ext w0 w ∧ Rw w [] v137_0 r137.1 ∧ By w [] v139_0 r139.1) G152 ?_ ?_
                  · exact ⟨s0_148, s1_148, s2_148, s8_148, s10_148, s11_148, s12_148, rfl, rfl, s163_148, hE148, i0_148, i1_148⟩
                  · rintro s152 _ _ w153 ⟨s0_153, s1_153, s2_153, s8_153, s10_153, s11_153, s12_153, s79_153, s80_153, s163_153, hE153, i0_153, i1_153⟩ H152 hr152
                    refine W_seq ?_
                    refine W_reg (by kernel_rfl) ?_
                    refine wla rfl rfl (q_ltI rfl s80_153 s79_153) ?_
                    refine wl_nil ?_
                    refine W_th ?_
                    refine W_seq ?_
                    refine W_cond _ rfl rfl (fun hb154 => ?_) (fun hb154 => ?_)
                    · replace H152 := (if_pos (of_decide_eq_true hb154)).symm.trans H152
                      refine W_skip ?_
                      refine W_th ?_
                      refine W_seq ?_
                      refine W_block ?_
                      refine W_seq ?_
                      refine W_reg (by kernel_rfl) ?_
                      refine wla rfl rfl (q_move (v := (i64 s152)) rfl s80_153) ?_
                      refine wla rfl rfl (q_assign (v := (i64 s152)) rfl rfl) ?_
                      refine wl_nil ?_
                      refine W_th ?_
                      refine W_seq ?_
                      refine W_draw [3, 4, 9] [(0, 0), (1, 0), (2, 0), (3, 1), (4, 1), (5, 0), (6, 0), (7, 0), (8, 2), (9, 1), (10, 0)] mixed (by kernel_rfl) (by kernel_rfl) (by kernel_rfl) (by kernel_rfl) ?_
                      have x155 := Ext.drew w153
                      replace i0_153 := i0_153.lift (Lift.ext x155 _)
                      replace i1_153 := i1_153.lift (Lift.ext x155 _)
                      have e156 := hE153.trans x155
                      refine wsa rfl rfl rfl (q_move (v := v137_0) rfl s8_153) ?_
                      refine wsa rfl rfl rfl (q_move (v := (i64 s152)) rfl rfl) ?_
                      obtain ⟨c157, hc157, H152⟩ := Option.bind_eq_some_iff.1 H152
                      refine wsa rfl rfl rfl (q_adr rfl T23 rfl rfl i0_153 hc157) ?_
                      refine wsq_load rfl rfl rfl rfl T23 rfl i0_153 hc157 (Ext.refl _) (fun v158 i158 => ?_)
                      refine wsq rfl rfl rfl (q_str rfl T22 rfl rfl rfl i158) ?_
                      refine wsa rfl rfl rfl (q_move (v := p1) rfl s1_153) ?_
                      refine wsa rfl rfl rfl (q_move (v := (i64 s152)) rfl rfl) ?_
                      refine wsa rfl rfl rfl (q_addI rfl rfl rfl) ?_
                      obtain ⟨r159, hr159, H152⟩ := Option.bind_eq_some_iff.1 H152
                      refine wss rfl rfl rfl (stp_call (vs := [p1, (i64 ((wI (s152 + 1))))]) Try.func35 rfl rfl rfl (ar2 rfl rfl) (ref09_Piece_calls a1parts (wI (s152 + 1)) p1 r159 _ (hp1.lift (Lift.ext e156 _)) hr159) ?_)
                      rintro _ w159 ⟨v159, rfl, x159, n159_0, o159_0⟩
                      refine ⟨_, rfl, x159, ?_⟩
                      have i159_0 : By w159 [] v159 r159 := OwK.slk (Sc.stab _) _ (OwK.scal o159_0 (v159 :: [])) (fun k hk => (Old.nil _) k (n159_0 k hk)) (fun _ h => h.2)
                      replace i0_153 := i0_153.lift (Lift.ext x159 _)
                      replace i1_153 := i1_153.lift (Lift.ext x159 _)
                      replace i158 := i158.lift (Lift.ext x159 _)
                      have e160 := e156.trans x159
                      refine wsq rfl rfl rfl (q_str rfl T22 rfl rfl rfl i159_0) ?_
                      refine wsa rfl rfl rfl (q_neS rfl rfl rfl) ?_
                      refine ws_nil ?_
                      refine W_th ?_
                      refine W_cond _ rfl rfl (fun hb161 => ?_) (fun hb161 => ?_)
                      · replace H152 := (if_neg (ndec_t hb161)).symm.trans H152
                        refine W_seq ?_
                        refine W_reg (by kernel_rfl) ?_
                        refine wla rfl rfl (q_assign (v := (.bool false)) rfl rfl) ?_
                        refine wl_nil ?_
                        refine W_th ?_
                        refine W_ret ?_
                        refine bk_r ?_
                        refine th_r ?_
                        obtain rfl := Option.some.inj H152
                        obtain rfl := hr152 _ rfl
                        simp only [Sum.elim_inr] at H
                        refine th_r ?_
                        refine bk_r ?_
                        refine th_r ?_
                        refine th_r ?_
                        obtain rfl := Option.some.inj H
                        refine rt1 (.bool false) rfl rfl rfl s163_153 ?_
                        exact ⟨rfl, e160⟩
                      · replace H152 := (if_pos (ndec_f hb161)).symm.trans H152
                        refine W_skip ?_
                        refine bk_n ?_
                        refine W_th ?_
                        refine W_reg (by kernel_rfl) ?_
                        refine wla rfl rfl (q_addI rfl s80_153 rfl) ?_
                        refine wla rfl rfl (q_move (v := (i64 ((wI (s152 + 1))))) rfl rfl) ?_
                        refine wl_nil ?_
                        obtain rfl := Option.some.inj H152
                        exact ⟨_, rfl, s0_153, s1_153, s2_153, s8_153, s10_153, s11_153, s12_153, s79_153, rfl, s163_153, e160, i0_153, i1_153⟩
                    · replace H152 := (if_neg (of_decide_eq_false hb154)).symm.trans H152
                      refine W_exit ?_
                      refine th_x ?_
                      obtain rfl := Option.some.inj H152
                      obtain rfl := hr152 _ rfl
                      refine th_x ?_
                      refine bk_x ?_
                      exact ⟨_, rfl, s0_153, s1_153, s2_153, s8_153, s10_153, s11_153, s12_153, s163_153, hE153, i0_153, i1_153⟩
                · rintro _ w163 ⟨y152, rfl, s0_163, s1_163, s2_163, s8_163, s10_163, s11_163, s12_163, s163_163, hE163, i0_163, i1_163⟩
                  simp only [Sum.elim_inl] at H
                  refine W_th ?_
                  refine W_seq ?_
                  refine W_reg (by kernel_rfl) ?_
                  refine wla rfl rfl (q_move (v := (i64 a0n)) rfl s0_163) ?_
                  refine wla rfl rfl (q_move (v := p1) rfl s1_163) ?_
                  obtain ⟨r164, hr164, H⟩ := Option.bind_eq_some_iff.1 H
                  refine wls rfl rfl (stp_call (vs := [(.pointer none), (i64 a0n), p1]) Try.func33 rfl rfl rfl (ar3 rfl rfl rfl) (code_Encode_calls false a0n a1parts (.pointer none) p1 r164 _ [] (Old.nil _) (Fd.nil _ _) (hp1.lift (Lift.ext hE163 _)) hr164) ?_)
                  rintro _ w164 ⟨v164_0, rfl, x164, n164_0, o164_0⟩
                  refine ⟨_, rfl, ?_⟩
                  have i164_0 : Rw w164 [] v164_0 r164.1 := OwK.slk (SlK.stab (Sc.stab _)) _ o164_0 (fun k hk => (Old.nil _) k (n164_0 k hk)) (fun _ h => h.2)
                  replace i0_163 := i0_163.lift (Lift.ext x164 _)
                  replace i1_163 := i1_163.lift (Lift.ext x164 _)
                  have e165 := hE163.trans x164
                  refine wla rfl rfl (q_move (v := (.tuple #[v164_0, (i64 r164.2)])) rfl rfl) ?_
                  refine wla rfl rfl (q_extract rfl rfl rfl) ?_
                  refine wla rfl rfl (q_extract rfl rfl rfl) ?_
                  refine wla rfl rfl (q_assign (v := v164_0) rfl rfl) ?_
                  refine wla rfl rfl (q_assign (v := (i64 r164.2)) rfl rfl) ?_
                  refine wl_nil ?_
                  refine W_th ?_
                  refine W_seq ?_
                  refine W_reg (by kernel_rfl) ?_
                  refine wla rfl rfl (q_move (v := p1) rfl s1_163) ?_
                  refine wla rfl rfl (q_move (v := (i64 a2x)) rfl s2_163) ?_
                  obtain ⟨r166, hr166, H⟩ := Option.bind_eq_some_iff.1 H
                  refine wls rfl rfl (stp_call (vs := [(.pointer none), p1, (i64 a2x)]) Try.func34 rfl rfl rfl (ar3 rfl rfl rfl) (code_Piece_calls false a1parts a2x (.pointer none) p1 r166 _ (Fd.nil _ _) (hp1.lift (Lift.ext e165 _)) hr166) ?_)
                  rintro _ w166 ⟨v166_0, rfl, x166, n166_0, o166_0⟩
                  refine ⟨_, rfl, ?_⟩
                  have i166_0 : By w166 [] v166_0 r166.1 := OwK.slk (Sc.stab _) _ (OwK.scal o166_0 (v166_0 :: [])) (fun k hk => (Old.nil _) k (n166_0 k hk)) (fun _ h => h.2)
                  replace i0_163 := i0_163.lift (Lift.ext x166 _)
                  replace i1_163 := i1_163.lift (Lift.ext x166 _)
                  replace i164_0 := i164_0.lift (Lift.ext x166 _)
                  have e167 := e165.trans x166
                  refine wla rfl rfl (q_move (v := (.tuple #[v166_0, (i64 r166.2)])) rfl rfl) ?_
                  refine wla rfl rfl (q_extract rfl rfl rfl) ?_
                  refine wla rfl rfl (q_extract rfl rfl rfl) ?_
                  refine wla rfl rfl (q_assign (v := v166_0) rfl rfl) ?_
                  refine wla rfl rfl (q_assign (v := (i64 r166.2)) rfl rfl) ?_
                  refine wl_nil ?_
                  refine W_th ?_
                  refine W_seq ?_
                  refine W_seq ?_
                  refine W_reg (by kernel_rfl) ?_
                  refine wla rfl rfl (q_move (v := (i64 r164.2)) rfl rfl) ?_
                  refine wla rfl rfl (q_neI rfl rfl rfl) ?_
                  refine wlb rfl rfl (q_move (v := (.bool ((!decide (r164.2 = 1))))) rfl rfl) (fun hb168 => ?_) (fun hb168 => ?_)
                  · replace H := (if_neg (ndec_t hb168)).symm.trans H
                    refine wlk rfl rfl ?_
                    refine wlk rfl rfl ?_
                    refine wla rfl rfl (q_pick_t (v := (.bool true)) rfl rfl rfl) ?_
                    refine wla rfl rfl (q_move (v := (.bool true)) rfl rfl) ?_
                    refine wlk rfl rfl ?_
                    refine wlk rfl rfl ?_
                    refine wlk rfl rfl ?_
                    refine wlk rfl rfl ?_
                    refine wlk rfl rfl ?_
                    refine wlk rfl rfl ?_
                    refine wlk rfl rfl ?_
                    refine wlk rfl rfl ?_
                    refine wla rfl rfl (q_pick_t (v := (.bool true)) rfl rfl rfl) ?_
                    refine wl_nil ?_
                    refine W_th ?_
                    refine W_cond true rfl rfl (fun _ => ?_) (fun hb => by cases hb)
                    refine W_seq ?_
                    refine W_reg (by kernel_rfl) ?_
                    refine wla rfl rfl (q_assign (v := (.bool false)) rfl rfl) ?_
                    refine wl_nil ?_
                    refine W_th ?_
                    refine W_ret ?_
                    refine th_r ?_
                    obtain rfl := Option.some.inj H
                    refine rt1 (.bool false) rfl rfl rfl s163_163 ?_
                    exact ⟨rfl, e167⟩
                  · replace H := (if_pos (ndec_f hb168)).symm.trans H
                    refine wla rfl rfl (q_move (v := (i64 r166.2)) rfl rfl) ?_
                    refine wla rfl rfl (q_neI rfl rfl rfl) ?_
                    refine wla rfl rfl (q_pick_f (v := (.bool ((!decide (r166.2 = 1))))) rfl rfl rfl) ?_
                    refine wlb rfl rfl (q_move (v := (.bool ((!decide (r166.2 = 1))))) rfl rfl) (fun hb169 => ?_) (fun hb169 => ?_)
                    · replace H := (if_neg (ndec_t hb169)).symm.trans H
                      refine wlk rfl rfl ?_
                      refine wlk rfl rfl ?_
                      refine wlk rfl rfl ?_
                      refine wlk rfl rfl ?_
                      refine wlk rfl rfl ?_
                      refine wlk rfl rfl ?_
                      refine wlk rfl rfl ?_
                      refine wlk rfl rfl ?_
                      refine wla rfl rfl (q_pick_t (v := (.bool true)) rfl rfl rfl) ?_
                      refine wl_nil ?_
                      refine W_th ?_
                      refine W_cond true rfl rfl (fun _ => ?_) (fun hb => by cases hb)
                      refine W_seq ?_
                      refine W_reg (by kernel_rfl) ?_
                      refine wla rfl rfl (q_assign (v := (.bool false)) rfl rfl) ?_
                      refine wl_nil ?_
                      refine W_th ?_
                      refine W_ret ?_
                      refine th_r ?_
                      obtain rfl := Option.some.inj H
                      refine rt1 (.bool false) rfl rfl rfl s163_163 ?_
                      exact ⟨rfl, e167⟩
                    · replace H := (if_pos (ndec_f hb169)).symm.trans H
                      refine wla rfl rfl (q_move (v := (i64 x141)) rfl s12_163) ?_
                      refine wla rfl rfl (q_eqI rfl rfl rfl) ?_
                      refine wlb rfl rfl (q_move (v := (.bool ((decide (x141 = 0))))) rfl rfl) (fun hb170 => ?_) (fun hb170 => ?_)
                      · replace H := (if_pos (of_decide_eq_true hb170)).symm.trans H
                        refine wla rfl rfl (q_move (v := v137_0) rfl s8_163) ?_
                        refine wla rfl rfl (q_len rfl T23.sl rfl i0_163) ?_
                        refine wla rfl rfl (q_move (v := (i64 a0n)) rfl s0_163) ?_
                        refine wla rfl rfl (q_neI rfl rfl rfl) ?_
                        refine wla rfl rfl (q_pick_t (v := (.bool ((!decide ((r137.1.length : Int) = a0n))))) rfl rfl rfl) ?_
                        refine wla rfl rfl (q_pick_f (v := (.bool ((!decide ((r137.1.length : Int) = a0n))))) rfl rfl rfl) ?_
                        refine wl_nil ?_
                        refine W_th ?_
                        refine W_cond _ rfl rfl (fun hb171 => ?_) (fun hb171 => ?_)
                        · replace H := (if_neg (ndec_t hb171)).symm.trans H
                          refine W_seq ?_
                          refine W_reg (by kernel_rfl) ?_
                          refine wla rfl rfl (q_assign (v := (.bool false)) rfl rfl) ?_
                          refine wl_nil ?_
                          refine W_th ?_
                          refine W_ret ?_
                          refine th_r ?_
                          obtain rfl := Option.some.inj H
                          refine rt1 (.bool false) rfl rfl rfl s163_163 ?_
                          exact ⟨rfl, e167⟩
                        · replace H := (if_pos (ndec_f hb171)).symm.trans H
                          refine W_skip ?_
                          refine W_th ?_
                          refine W_seq ?_
                          refine W_block ?_
                          refine W_seq ?_
                          refine W_reg (by kernel_rfl) ?_
                          refine wla rfl rfl (q_move (v := p1) rfl s1_163) ?_
                          refine wla rfl rfl (q_len rfl T23.sl rfl (hp1.lift (Lift.ext e167 _))) ?_
                          refine wla rfl rfl (q_eqI rfl rfl rfl) ?_
                          refine wlb rfl rfl (q_move (v := (.bool ((decide ((a1parts.length : Int) = 0))))) rfl rfl) (fun hb172 => ?_) (fun hb172 => ?_)
                          · replace H := (if_pos (of_decide_eq_true hb172)).symm.trans H
                            refine wlk rfl rfl ?_
                            refine wlk rfl rfl ?_
                            refine wla rfl rfl (q_pick_t (v := (.bool true)) rfl rfl rfl) ?_
                            refine wla rfl rfl (q_move (v := (.bool true)) rfl rfl) ?_
                            refine wlk rfl rfl ?_
                            refine wlk rfl rfl ?_
                            refine wla rfl rfl (q_pick_t (v := (.bool true)) rfl rfl rfl) ?_
                            refine wla rfl rfl (q_assign (v := (.bool true)) rfl rfl) ?_
                            refine wl_nil ?_
                            refine W_th ?_
                            refine W_cond true rfl rfl (fun _ => ?_) (fun hb => by cases hb)
                            refine W_seq ?_
                            refine W_reg (by kernel_rfl) ?_
                            refine wla rfl rfl (q_move (v := (i64 r139.2)) rfl s11_163) ?_
                            refine wla rfl rfl (q_eqI rfl rfl rfl) ?_
                            refine wlb rfl rfl (q_move (v := (.bool ((decide (r139.2 = 2))))) rfl rfl) (fun hb173 => ?_) (fun hb173 => ?_)
                            · replace H := (if_pos (of_decide_eq_true hb173)).symm.trans H
                              refine wla rfl rfl (q_move (v := v139_0) rfl s10_163) ?_
                              refine wla rfl rfl (q_len rfl T22.sl rfl i1_163) ?_
                              refine wla rfl rfl (q_eqI rfl rfl rfl) ?_
                              refine wla rfl rfl (q_pick_t (v := (.bool ((decide ((r139.1.length : Int) = 0))))) rfl rfl rfl) ?_
                              refine wla rfl rfl (q_assign (v := (.bool ((decide ((r139.1.length : Int) = 0))))) rfl rfl) ?_
                              refine wl_nil ?_
                              refine W_th ?_
                              refine W_ret ?_
                              refine bk_r ?_
                              refine th_r ?_
                              obtain rfl := Option.some.inj H
                              refine rt1 (.bool ((decide ((r139.1.length : Int) = 0)))) rfl rfl rfl s163_163 ?_
                              exact ⟨rfl, e167⟩
                            · replace H := (if_neg (of_decide_eq_false hb173)).symm.trans H
                              refine wlk rfl rfl ?_
                              refine wlk rfl rfl ?_
                              refine wlk rfl rfl ?_
                              refine wla rfl rfl (q_pick_f (v := (.bool false)) rfl rfl rfl) ?_
                              refine wla rfl rfl (q_assign (v := (.bool false)) rfl rfl) ?_
                              refine wl_nil ?_
                              refine W_th ?_
                              refine W_ret ?_
                              refine bk_r ?_
                              refine th_r ?_
                              obtain rfl := Option.some.inj H
                              refine rt1 (.bool false) rfl rfl rfl s163_163 ?_
                              exact ⟨rfl, e167⟩
                          · replace H := (if_neg (of_decide_eq_false hb172)).symm.trans H
                            refine wla rfl rfl (q_move (v := (i64 a2x)) rfl s2_163) ?_
                            refine wla rfl rfl (q_ltI rfl rfl rfl) ?_
                            refine wla rfl rfl (q_pick_f (v := (.bool ((decide (a2x < 1))))) rfl rfl rfl) ?_
                            refine wlb rfl rfl (q_move (v := (.bool ((decide (a2x < 1))))) rfl rfl) (fun hb174 => ?_) (fun hb174 => ?_)
                            · replace H := (if_pos (of_decide_eq_true hb174)).symm.trans H
                              refine wlk rfl rfl ?_
                              refine wlk rfl rfl ?_
                              refine wla rfl rfl (q_pick_t (v := (.bool true)) rfl rfl rfl) ?_
                              refine wla rfl rfl (q_assign (v := (.bool true)) rfl rfl) ?_
                              refine wl_nil ?_
                              refine W_th ?_
                              refine W_cond true rfl rfl (fun _ => ?_) (fun hb => by cases hb)
                              refine W_seq ?_
                              refine W_reg (by kernel_rfl) ?_
                              refine wla rfl rfl (q_move (v := (i64 r139.2)) rfl s11_163) ?_
                              refine wla rfl rfl (q_eqI rfl rfl rfl) ?_
                              refine wlb rfl rfl (q_move (v := (.bool ((decide (r139.2 = 2))))) rfl rfl) (fun hb175 => ?_) (fun hb175 => ?_)
                              · replace H := (if_pos (of_decide_eq_true hb175)).symm.trans H
                                refine wla rfl rfl (q_move (v := v139_0) rfl s10_163) ?_
                                refine wla rfl rfl (q_len rfl T22.sl rfl i1_163) ?_
                                refine wla rfl rfl (q_eqI rfl rfl rfl) ?_
                                refine wla rfl rfl (q_pick_t (v := (.bool ((decide ((r139.1.length : Int) = 0))))) rfl rfl rfl) ?_
                                refine wla rfl rfl (q_assign (v := (.bool ((decide ((r139.1.length : Int) = 0))))) rfl rfl) ?_
                                refine wl_nil ?_
                                refine W_th ?_
                                refine W_ret ?_
                                refine bk_r ?_
                                refine th_r ?_
                                obtain rfl := Option.some.inj H
                                refine rt1 (.bool ((decide ((r139.1.length : Int) = 0)))) rfl rfl rfl s163_163 ?_
                                exact ⟨rfl, e167⟩
                              · replace H := (if_neg (of_decide_eq_false hb175)).symm.trans H
                                refine wlk rfl rfl ?_
                                refine wlk rfl rfl ?_
                                refine wlk rfl rfl ?_
                                refine wla rfl rfl (q_pick_f (v := (.bool false)) rfl rfl rfl) ?_
                                refine wla rfl rfl (q_assign (v := (.bool false)) rfl rfl) ?_
                                refine wl_nil ?_
                                refine W_th ?_
                                refine W_ret ?_
                                refine bk_r ?_
                                refine th_r ?_
                                obtain rfl := Option.some.inj H
                                refine rt1 (.bool false) rfl rfl rfl s163_163 ?_
                                exact ⟨rfl, e167⟩
                            · replace H := (if_neg (of_decide_eq_false hb174)).symm.trans H
                              refine wla rfl rfl (q_move (v := (i64 a2x)) rfl s2_163) ?_
                              refine wla rfl rfl (q_gtI rfl rfl rfl) ?_
                              refine wla rfl rfl (q_pick_f (v := (.bool ((decide (255 < a2x))))) rfl rfl rfl) ?_
                              refine wla rfl rfl (q_assign (v := (.bool ((decide (255 < a2x))))) rfl rfl) ?_
                              refine wl_nil ?_
                              refine W_th ?_
                              refine W_cond _ rfl rfl (fun hb176 => ?_) (fun hb176 => ?_)
                              · replace H := (if_pos (of_decide_eq_true hb176)).symm.trans H
                                refine W_seq ?_
                                refine W_reg (by kernel_rfl) ?_
                                refine wla rfl rfl (q_move (v := (i64 r139.2)) rfl s11_163) ?_
                                refine wla rfl rfl (q_eqI rfl rfl rfl) ?_
                                refine wlb rfl rfl (q_move (v := (.bool ((decide (r139.2 = 2))))) rfl rfl) (fun hb177 => ?_) (fun hb177 => ?_)
                                · replace H := (if_pos (of_decide_eq_true hb177)).symm.trans H
                                  refine wla rfl rfl (q_move (v := v139_0) rfl s10_163) ?_
                                  refine wla rfl rfl (q_len rfl T22.sl rfl i1_163) ?_
                                  refine wla rfl rfl (q_eqI rfl rfl rfl) ?_
                                  refine wla rfl rfl (q_pick_t (v := (.bool ((decide ((r139.1.length : Int) = 0))))) rfl rfl rfl) ?_
                                  refine wla rfl rfl (q_assign (v := (.bool ((decide ((r139.1.length : Int) = 0))))) rfl rfl) ?_
                                  refine wl_nil ?_
                                  refine W_th ?_
                                  refine W_ret ?_
                                  refine bk_r ?_
                                  refine th_r ?_
                                  obtain rfl := Option.some.inj H
                                  refine rt1 (.bool ((decide ((r139.1.length : Int) = 0)))) rfl rfl rfl s163_163 ?_
                                  exact ⟨rfl, e167⟩
                                · replace H := (if_neg (of_decide_eq_false hb177)).symm.trans H
                                  refine wlk rfl rfl ?_
                                  refine wlk rfl rfl ?_
                                  refine wlk rfl rfl ?_
                                  refine wla rfl rfl (q_pick_f (v := (.bool false)) rfl rfl rfl) ?_
                                  refine wla rfl rfl (q_assign (v := (.bool false)) rfl rfl) ?_
                                  refine wl_nil ?_
                                  refine W_th ?_
                                  refine W_ret ?_
                                  refine bk_r ?_
                                  refine th_r ?_
                                  obtain rfl := Option.some.inj H
                                  refine rt1 (.bool false) rfl rfl rfl s163_163 ?_
                                  exact ⟨rfl, e167⟩
                              · replace H := (if_neg (of_decide_eq_false hb176)).symm.trans H
                                refine W_seq ?_
                                refine W_reg (by kernel_rfl) ?_
                                refine wla rfl rfl (q_move (v := p1) rfl s1_163) ?_
                                obtain ⟨r178, hr178, H⟩ := Option.bind_eq_some_iff.1 H
                                refine wls rfl rfl (stp_call (vs := [p1]) Try.func32 rfl rfl rfl (ar1 rfl) (law09_unlike_calls a1parts p1 r178 _ (hp1.lift (Lift.ext e167 _)) hr178) ?_)
                                rintro _ w178 ⟨rfl, x178⟩
                                refine ⟨_, rfl, ?_⟩
                                replace i0_163 := i0_163.lift (Lift.ext x178 _)
                                replace i1_163 := i1_163.lift (Lift.ext x178 _)
                                replace i164_0 := i164_0.lift (Lift.ext x178 _)
                                replace i166_0 := i166_0.lift (Lift.ext x178 _)
                                have e179 := e167.trans x178
                                refine wla rfl rfl (q_assign (v := (.bool r178)) rfl rfl) ?_
                                refine wl_nil ?_
                                refine W_th ?_
                                refine W_cond _ rfl rfl (fun hb180 => ?_) (fun hb180 => ?_)
                                · replace H := (if_pos hb180).symm.trans H
                                  refine W_seq ?_
                                  refine W_reg (by kernel_rfl) ?_
                                  refine wla rfl rfl (q_move (v := (i64 r139.2)) rfl s11_163) ?_
                                  refine wla rfl rfl (q_eqI rfl rfl rfl) ?_
                                  refine wlb rfl rfl (q_move (v := (.bool ((decide (r139.2 = 3))))) rfl rfl) (fun hb181 => ?_) (fun hb181 => ?_)
                                  · replace H := (if_pos (of_decide_eq_true hb181)).symm.trans H
                                    refine wla rfl rfl (q_move (v := v139_0) rfl s10_163) ?_
                                    refine wla rfl rfl (q_len rfl T22.sl rfl i1_163) ?_
                                    refine wla rfl rfl (q_eqI rfl rfl rfl) ?_
                                    refine wla rfl rfl (q_pick_t (v := (.bool ((decide ((r139.1.length : Int) = 0))))) rfl rfl rfl) ?_
                                    refine wla rfl rfl (q_assign (v := (.bool ((decide ((r139.1.length : Int) = 0))))) rfl rfl) ?_
                                    refine wl_nil ?_
                                    refine W_th ?_
                                    refine W_ret ?_
                                    refine bk_r ?_
                                    refine th_r ?_
                                    obtain rfl := Option.some.inj H
                                    refine rt1 (.bool ((decide ((r139.1.length : Int) = 0)))) rfl rfl rfl s163_163 ?_
                                    exact ⟨rfl, e179⟩
                                  · replace H := (if_neg (of_decide_eq_false hb181)).symm.trans H
                                    refine wlk rfl rfl ?_
                                    refine wlk rfl rfl ?_
                                    refine wlk rfl rfl ?_
                                    refine wla rfl rfl (q_pick_f (v := (.bool false)) rfl rfl rfl) ?_
                                    refine wla rfl rfl (q_assign (v := (.bool false)) rfl rfl) ?_
                                    refine wl_nil ?_
                                    refine W_th ?_
                                    refine W_ret ?_
                                    refine bk_r ?_
                                    refine th_r ?_
                                    obtain rfl := Option.some.inj H
                                    refine rt1 (.bool false) rfl rfl rfl s163_163 ?_
                                    exact ⟨rfl, e179⟩
                                · replace H := (if_neg (ne_true_of_eq_false hb180)).symm.trans H
                                  refine W_skip ?_
                                  refine bk_n ?_
                                  refine W_th ?_
                                  refine W_seq ?_
                                  refine W_draw [4, 8] [(0, 0), (1, 0), (2, 0), (3, 0), (4, 1), (5, 0), (6, 0), (7, 2), (8, 1), (9, 0), (10, 0), (11, 0)] mixed (by kernel_rfl) (by kernel_rfl) (by kernel_rfl) (by kernel_rfl) ?_
                                  have x182 := Ext.drew w178
                                  replace i0_163 := i0_163.lift (Lift.ext x182 _)
                                  replace i1_163 := i1_163.lift (Lift.ext x182 _)
                                  replace i164_0 := i164_0.lift (Lift.ext x182 _)
                                  replace i166_0 := i166_0.lift (Lift.ext x182 _)
                                  have e183 := e179.trans x182
                                  refine wsa rfl rfl rfl (q_move (v := (i64 r139.2)) rfl s11_163) ?_
                                  refine wsa rfl rfl rfl (q_eqI rfl rfl rfl) ?_
                                  refine wsb rfl rfl rfl (q_move (v := (.bool ((decide (r139.2 = 0))))) rfl rfl) (fun hb184 => ?_) (fun hb184 => ?_)
                                  · replace H := (if_pos (of_decide_eq_true hb184)).symm.trans H
                                    refine wsa rfl rfl rfl (q_move (v := v139_0) rfl s10_163) ?_
                                    refine wsq rfl rfl rfl (q_str rfl T22 rfl rfl rfl i1_163) ?_
                                    refine wsa rfl rfl rfl (q_move (v := p1) rfl s1_163) ?_
                                    refine wsa rfl rfl rfl (q_move (v := (i64 a2x)) rfl s2_163) ?_
                                    obtain ⟨r185, hr185, H⟩ := Option.bind_eq_some_iff.1 H
                                    refine wss rfl rfl rfl (stp_call (vs := [p1, (i64 a2x)]) Try.func35 rfl rfl rfl (ar2 rfl rfl) (ref09_Piece_calls a1parts a2x p1 r185 _ (hp1.lift (Lift.ext e183 _)) hr185) ?_)
                                    rintro _ w185 ⟨v185, rfl, x185, n185_0, o185_0⟩
                                    refine ⟨_, rfl, x185, ?_⟩
                                    have i185_0 : By w185 [] v185 r185 := OwK.slk (Sc.stab _) _ (OwK.scal o185_0 (v185 :: [])) (fun k hk => (Old.nil _) k (n185_0 k hk)) (fun _ h => h.2)
                                    replace i0_163 := i0_163.lift (Lift.ext x185 _)
                                    replace i1_163 := i1_163.lift (Lift.ext x185 _)
                                    replace i164_0 := i164_0.lift (Lift.ext x185 _)
                                    replace i166_0 := i166_0.lift (Lift.ext x185 _)
                                    have e186 := e183.trans x185
                                    refine wsq rfl rfl rfl (q_str rfl T22 rfl rfl rfl i185_0) ?_
                                    refine wsa rfl rfl rfl (q_eqS rfl rfl rfl) ?_
                                    refine wsa rfl rfl rfl (q_pick_t (v := (.bool ((decide (r139.1 = r185))))) rfl rfl rfl) ?_
                                    refine wsa rfl rfl rfl (q_assign (v := (.bool ((decide (r139.1 = r185))))) rfl rfl) ?_
                                    refine ws_nil ?_
                                    refine W_th ?_
                                    refine W_ret ?_
                                    obtain rfl := Option.some.inj H
                                    refine rt1 (.bool ((decide (r139.1 = r185)))) rfl rfl rfl s163_163 ?_
                                    exact ⟨rfl, e186⟩
                                  · replace H := (if_neg (of_decide_eq_false hb184)).symm.trans H
                                    refine wsk rfl rfl rfl ?_
                                    refine wsk rfl rfl rfl ?_
                                    refine wsk rfl rfl rfl ?_
                                    refine wsk rfl rfl rfl ?_
                                    refine wsk rfl rfl rfl ?_
                                    refine wsk rfl rfl rfl ?_
                                    refine wsk rfl rfl rfl ?_
                                    refine wsa rfl rfl rfl (q_pick_f (v := (.bool false)) rfl rfl rfl) ?_
                                    refine wsa rfl rfl rfl (q_assign (v := (.bool false)) rfl rfl) ?_
                                    refine ws_nil ?_
                                    refine W_th ?_
                                    refine W_ret ?_
                                    obtain rfl := Option.some.inj H
                                    refine rt1 (.bool false) rfl rfl rfl s163_163 ?_
                                    exact ⟨rfl, e183⟩
                      · replace H := (if_neg (of_decide_eq_false hb170)).symm.trans H
                        refine wlk rfl rfl ?_
                        refine wlk rfl rfl ?_
                        refine wlk rfl rfl ?_
                        refine wlk rfl rfl ?_
                        refine wla rfl rfl (q_pick_f (v := (.bool false)) rfl rfl rfl) ?_
                        refine wla rfl rfl (q_pick_f (v := (.bool false)) rfl rfl rfl) ?_
                        refine wl_nil ?_
                        refine W_th ?_
                        refine W_cond false rfl rfl (fun hb => by cases hb) (fun _ => ?_)
                        refine W_skip ?_
                        refine W_th ?_
                        refine W_seq ?_
                        refine W_block ?_
                        refine W_seq ?_
                        refine W_reg (by kernel_rfl) ?_
                        refine wla rfl rfl (q_move (v := p1) rfl s1_163) ?_
                        refine wla rfl rfl (q_len rfl T23.sl rfl (hp1.lift (Lift.ext e167 _))) ?_
                        refine wla rfl rfl (q_eqI rfl rfl rfl) ?_
                        refine wlb rfl rfl (q_move (v := (.bool ((decide ((a1parts.length : Int) = 0))))) rfl rfl) (fun hb187 => ?_) (fun hb187 => ?_)
                        · replace H := (if_pos (of_decide_eq_true hb187)).symm.trans H
                          refine wlk rfl rfl ?_
                          refine wlk rfl rfl ?_
                          refine wla rfl rfl (q_pick_t (v := (.bool true)) rfl rfl rfl) ?_
                          refine wla rfl rfl (q_move (v := (.bool true)) rfl rfl) ?_
                          refine wlk rfl rfl ?_
                          refine wlk rfl rfl ?_
                          refine wla rfl rfl (q_pick_t (v := (.bool true)) rfl rfl rfl) ?_
                          refine wla rfl rfl (q_assign (v := (.bool true)) rfl rfl) ?_
                          refine wl_nil ?_
                          refine W_th ?_
                          refine W_cond true rfl rfl (fun _ => ?_) (fun hb => by cases hb)
                          refine W_seq ?_
                          refine W_reg (by kernel_rfl) ?_
                          refine wla rfl rfl (q_move (v := (i64 r139.2)) rfl s11_163) ?_
                          refine wla rfl rfl (q_eqI rfl rfl rfl) ?_
                          refine wlb rfl rfl (q_move (v := (.bool ((decide (r139.2 = 2))))) rfl rfl) (fun hb188 => ?_) (fun hb188 => ?_)
                          · replace H := (if_pos (of_decide_eq_true hb188)).symm.trans H
                            refine wla rfl rfl (q_move (v := v139_0) rfl s10_163) ?_
                            refine wla rfl rfl (q_len rfl T22.sl rfl i1_163) ?_
                            refine wla rfl rfl (q_eqI rfl rfl rfl) ?_
                            refine wla rfl rfl (q_pick_t (v := (.bool ((decide ((r139.1.length : Int) = 0))))) rfl rfl rfl) ?_
                            refine wla rfl rfl (q_assign (v := (.bool ((decide ((r139.1.length : Int) = 0))))) rfl rfl) ?_
                            refine wl_nil ?_
                            refine W_th ?_
                            refine W_ret ?_
                            refine bk_r ?_
                            refine th_r ?_
                            obtain rfl := Option.some.inj H
                            refine rt1 (.bool ((decide ((r139.1.length : Int) = 0)))) rfl rfl rfl s163_163 ?_
                            exact ⟨rfl, e167⟩
                          · replace H := (if_neg (of_decide_eq_false hb188)).symm.trans H
                            refine wlk rfl rfl ?_
                            refine wlk rfl rfl ?_
                            refine wlk rfl rfl ?_
                            refine wla rfl rfl (q_pick_f (v := (.bool false)) rfl rfl rfl) ?_
                            refine wla rfl rfl (q_assign (v := (.bool false)) rfl rfl) ?_
                            refine wl_nil ?_
                            refine W_th ?_
                            refine W_ret ?_
                            refine bk_r ?_
                            refine th_r ?_
                            obtain rfl := Option.some.inj H
                            refine rt1 (.bool false) rfl rfl rfl s163_163 ?_
                            exact ⟨rfl, e167⟩
                        · replace H := (if_neg (of_decide_eq_false hb187)).symm.trans H
                          refine wla rfl rfl (q_move (v := (i64 a2x)) rfl s2_163) ?_
                          refine wla rfl rfl (q_ltI rfl rfl rfl) ?_
                          refine wla rfl rfl (q_pick_f (v := (.bool ((decide (a2x < 1))))) rfl rfl rfl) ?_
                          refine wlb rfl rfl (q_move (v := (.bool ((decide (a2x < 1))))) rfl rfl) (fun hb189 => ?_) (fun hb189 => ?_)
                          · replace H := (if_pos (of_decide_eq_true hb189)).symm.trans H
                            refine wlk rfl rfl ?_
                            refine wlk rfl rfl ?_
                            refine wla rfl rfl (q_pick_t (v := (.bool true)) rfl rfl rfl) ?_
                            refine wla rfl rfl (q_assign (v := (.bool true)) rfl rfl) ?_
                            refine wl_nil ?_
                            refine W_th ?_
                            refine W_cond true rfl rfl (fun _ => ?_) (fun hb => by cases hb)
                            refine W_seq ?_
                            refine W_reg (by kernel_rfl) ?_
                            refine wla rfl rfl (q_move (v := (i64 r139.2)) rfl s11_163) ?_
                            refine wla rfl rfl (q_eqI rfl rfl rfl) ?_
                            refine wlb rfl rfl (q_move (v := (.bool ((decide (r139.2 = 2))))) rfl rfl) (fun hb190 => ?_) (fun hb190 => ?_)
                            · replace H := (if_pos (of_decide_eq_true hb190)).symm.trans H
                              refine wla rfl rfl (q_move (v := v139_0) rfl s10_163) ?_
                              refine wla rfl rfl (q_len rfl T22.sl rfl i1_163) ?_
                              refine wla rfl rfl (q_eqI rfl rfl rfl) ?_
                              refine wla rfl rfl (q_pick_t (v := (.bool ((decide ((r139.1.length : Int) = 0))))) rfl rfl rfl) ?_
                              refine wla rfl rfl (q_assign (v := (.bool ((decide ((r139.1.length : Int) = 0))))) rfl rfl) ?_
                              refine wl_nil ?_
                              refine W_th ?_
                              refine W_ret ?_
                              refine bk_r ?_
                              refine th_r ?_
                              obtain rfl := Option.some.inj H
                              refine rt1 (.bool ((decide ((r139.1.length : Int) = 0)))) rfl rfl rfl s163_163 ?_
                              exact ⟨rfl, e167⟩
                            · replace H := (if_neg (of_decide_eq_false hb190)).symm.trans H
                              refine wlk rfl rfl ?_
                              refine wlk rfl rfl ?_
                              refine wlk rfl rfl ?_
                              refine wla rfl rfl (q_pick_f (v := (.bool false)) rfl rfl rfl) ?_
                              refine wla rfl rfl (q_assign (v := (.bool false)) rfl rfl) ?_
                              refine wl_nil ?_
                              refine W_th ?_
                              refine W_ret ?_
                              refine bk_r ?_
                              refine th_r ?_
                              obtain rfl := Option.some.inj H
                              refine rt1 (.bool false) rfl rfl rfl s163_163 ?_
                              exact ⟨rfl, e167⟩
                          · replace H := (if_neg (of_decide_eq_false hb189)).symm.trans H
                            refine wla rfl rfl (q_move (v := (i64 a2x)) rfl s2_163) ?_
                            refine wla rfl rfl (q_gtI rfl rfl rfl) ?_
                            refine wla rfl rfl (q_pick_f (v := (.bool ((decide (255 < a2x))))) rfl rfl rfl) ?_
                            refine wla rfl rfl (q_assign (v := (.bool ((decide (255 < a2x))))) rfl rfl) ?_
                            refine wl_nil ?_
                            refine W_th ?_
                            refine W_cond _ rfl rfl (fun hb191 => ?_) (fun hb191 => ?_)
                            · replace H := (if_pos (of_decide_eq_true hb191)).symm.trans H
                              refine W_seq ?_
                              refine W_reg (by kernel_rfl) ?_
                              refine wla rfl rfl (q_move (v := (i64 r139.2)) rfl s11_163) ?_
                              refine wla rfl rfl (q_eqI rfl rfl rfl) ?_
                              refine wlb rfl rfl (q_move (v := (.bool ((decide (r139.2 = 2))))) rfl rfl) (fun hb192 => ?_) (fun hb192 => ?_)
                              · replace H := (if_pos (of_decide_eq_true hb192)).symm.trans H
                                refine wla rfl rfl (q_move (v := v139_0) rfl s10_163) ?_
                                refine wla rfl rfl (q_len rfl T22.sl rfl i1_163) ?_
                                refine wla rfl rfl (q_eqI rfl rfl rfl) ?_
                                refine wla rfl rfl (q_pick_t (v := (.bool ((decide ((r139.1.length : Int) = 0))))) rfl rfl rfl) ?_
                                refine wla rfl rfl (q_assign (v := (.bool ((decide ((r139.1.length : Int) = 0))))) rfl rfl) ?_
                                refine wl_nil ?_
                                refine W_th ?_
                                refine W_ret ?_
                                refine bk_r ?_
                                refine th_r ?_
                                obtain rfl := Option.some.inj H
                                refine rt1 (.bool ((decide ((r139.1.length : Int) = 0)))) rfl rfl rfl s163_163 ?_
                                exact ⟨rfl, e167⟩
                              · replace H := (if_neg (of_decide_eq_false hb192)).symm.trans H
                                refine wlk rfl rfl ?_
                                refine wlk rfl rfl ?_
                                refine wlk rfl rfl ?_
                                refine wla rfl rfl (q_pick_f (v := (.bool false)) rfl rfl rfl) ?_
                                refine wla rfl rfl (q_assign (v := (.bool false)) rfl rfl) ?_
                                refine wl_nil ?_
                                refine W_th ?_
                                refine W_ret ?_
                                refine bk_r ?_
                                refine th_r ?_
                                obtain rfl := Option.some.inj H
                                refine rt1 (.bool false) rfl rfl rfl s163_163 ?_
                                exact ⟨rfl, e167⟩
                            · replace H := (if_neg (of_decide_eq_false hb191)).symm.trans H
                              refine W_seq ?_
                              refine W_reg (by kernel_rfl) ?_
                              refine wla rfl rfl (q_move (v := p1) rfl s1_163) ?_
                              obtain ⟨r193, hr193, H⟩ := Option.bind_eq_some_iff.1 H
                              refine wls rfl rfl (stp_call (vs := [p1]) Try.func32 rfl rfl rfl (ar1 rfl) (law09_unlike_calls a1parts p1 r193 _ (hp1.lift (Lift.ext e167 _)) hr193) ?_)
                              rintro _ w193 ⟨rfl, x193⟩
                              refine ⟨_, rfl, ?_⟩
                              replace i0_163 := i0_163.lift (Lift.ext x193 _)
                              replace i1_163 := i1_163.lift (Lift.ext x193 _)
                              replace i164_0 := i164_0.lift (Lift.ext x193 _)
                              replace i166_0 := i166_0.lift (Lift.ext x193 _)
                              have e194 := e167.trans x193
                              refine wla rfl rfl (q_assign (v := (.bool r193)) rfl rfl) ?_
                              refine wl_nil ?_
                              refine W_th ?_
                              refine W_cond _ rfl rfl (fun hb195 => ?_) (fun hb195 => ?_)
                              · replace H := (if_pos hb195).symm.trans H
                                refine W_seq ?_
                                refine W_reg (by kernel_rfl) ?_
                                refine wla rfl rfl (q_move (v := (i64 r139.2)) rfl s11_163) ?_
                                refine wla rfl rfl (q_eqI rfl rfl rfl) ?_
                                refine wlb rfl rfl (q_move (v := (.bool ((decide (r139.2 = 3))))) rfl rfl) (fun hb196 => ?_) (fun hb196 => ?_)
                                · replace H := (if_pos (of_decide_eq_true hb196)).symm.trans H
                                  refine wla rfl rfl (q_move (v := v139_0) rfl s10_163) ?_
                                  refine wla rfl rfl (q_len rfl T22.sl rfl i1_163) ?_
                                  refine wla rfl rfl (q_eqI rfl rfl rfl) ?_
                                  refine wla rfl rfl (q_pick_t (v := (.bool ((decide ((r139.1.length : Int) = 0))))) rfl rfl rfl) ?_
                                  refine wla rfl rfl (q_assign (v := (.bool ((decide ((r139.1.length : Int) = 0))))) rfl rfl) ?_
                                  refine wl_nil ?_
                                  refine W_th ?_
                                  refine W_ret ?_
                                  refine bk_r ?_
                                  refine th_r ?_
                                  obtain rfl := Option.some.inj H
                                  refine rt1 (.bool ((decide ((r139.1.length : Int) = 0)))) rfl rfl rfl s163_163 ?_
                                  exact ⟨rfl, e194⟩
                                · replace H := (if_neg (of_decide_eq_false hb196)).symm.trans H
                                  refine wlk rfl rfl ?_
                                  refine wlk rfl rfl ?_
                                  refine wlk rfl rfl ?_
                                  refine wla rfl rfl (q_pick_f (v := (.bool false)) rfl rfl rfl) ?_
                                  refine wla rfl rfl (q_assign (v := (.bool false)) rfl rfl) ?_
                                  refine wl_nil ?_
                                  refine W_th ?_
                                  refine W_ret ?_
                                  refine bk_r ?_
                                  refine th_r ?_
                                  obtain rfl := Option.some.inj H
                                  refine rt1 (.bool false) rfl rfl rfl s163_163 ?_
                                  exact ⟨rfl, e194⟩
                              · replace H := (if_neg (ne_true_of_eq_false hb195)).symm.trans H
                                refine W_skip ?_
                                refine bk_n ?_
                                refine W_th ?_
                                refine W_seq ?_
                                refine W_draw [4, 8] [(0, 0), (1, 0), (2, 0), (3, 0), (4, 1), (5, 0), (6, 0), (7, 2), (8, 1), (9, 0), (10, 0), (11, 0)] mixed (by kernel_rfl) (by kernel_rfl) (by kernel_rfl) (by kernel_rfl) ?_
                                have x197 := Ext.drew w193
                                replace i0_163 := i0_163.lift (Lift.ext x197 _)
                                replace i1_163 := i1_163.lift (Lift.ext x197 _)
                                replace i164_0 := i164_0.lift (Lift.ext x197 _)
                                replace i166_0 := i166_0.lift (Lift.ext x197 _)
                                have e198 := e194.trans x197
                                refine wsa rfl rfl rfl (q_move (v := (i64 r139.2)) rfl s11_163) ?_
                                refine wsa rfl rfl rfl (q_eqI rfl rfl rfl) ?_
                                refine wsb rfl rfl rfl (q_move (v := (.bool ((decide (r139.2 = 0))))) rfl rfl) (fun hb199 => ?_) (fun hb199 => ?_)
                                · replace H := (if_pos (of_decide_eq_true hb199)).symm.trans H
                                  refine wsa rfl rfl rfl (q_move (v := v139_0) rfl s10_163) ?_
                                  refine wsq rfl rfl rfl (q_str rfl T22 rfl rfl rfl i1_163) ?_
                                  refine wsa rfl rfl rfl (q_move (v := p1) rfl s1_163) ?_
                                  refine wsa rfl rfl rfl (q_move (v := (i64 a2x)) rfl s2_163) ?_
                                  obtain ⟨r200, hr200, H⟩ := Option.bind_eq_some_iff.1 H
                                  refine wss rfl rfl rfl (stp_call (vs := [p1, (i64 a2x)]) Try.func35 rfl rfl rfl (ar2 rfl rfl) (ref09_Piece_calls a1parts a2x p1 r200 _ (hp1.lift (Lift.ext e198 _)) hr200) ?_)
                                  rintro _ w200 ⟨v200, rfl, x200, n200_0, o200_0⟩
                                  refine ⟨_, rfl, x200, ?_⟩
                                  have i200_0 : By w200 [] v200 r200 := OwK.slk (Sc.stab _) _ (OwK.scal o200_0 (v200 :: [])) (fun k hk => (Old.nil _) k (n200_0 k hk)) (fun _ h => h.2)
                                  replace i0_163 := i0_163.lift (Lift.ext x200 _)
                                  replace i1_163 := i1_163.lift (Lift.ext x200 _)
                                  replace i164_0 := i164_0.lift (Lift.ext x200 _)
                                  replace i166_0 := i166_0.lift (Lift.ext x200 _)
                                  have e201 := e198.trans x200
                                  refine wsq rfl rfl rfl (q_str rfl T22 rfl rfl rfl i200_0) ?_
                                  refine wsa rfl rfl rfl (q_eqS rfl rfl rfl) ?_
                                  refine wsa rfl rfl rfl (q_pick_t (v := (.bool ((decide (r139.1 = r200))))) rfl rfl rfl) ?_
                                  refine wsa rfl rfl rfl (q_assign (v := (.bool ((decide (r139.1 = r200))))) rfl rfl) ?_
                                  refine ws_nil ?_
                                  refine W_th ?_
                                  refine W_ret ?_
                                  obtain rfl := Option.some.inj H
                                  refine rt1 (.bool ((decide (r139.1 = r200)))) rfl rfl rfl s163_163 ?_
                                  exact ⟨rfl, e201⟩
                                · replace H := (if_neg (of_decide_eq_false hb199)).symm.trans H
                                  refine wsk rfl rfl rfl ?_
                                  refine wsk rfl rfl rfl ?_
                                  refine wsk rfl rfl rfl ?_
                                  refine wsk rfl rfl rfl ?_
                                  refine wsk rfl rfl rfl ?_
                                  refine wsk rfl rfl rfl ?_
                                  refine wsk rfl rfl rfl ?_
                                  refine wsa rfl rfl rfl (q_pick_f (v := (.bool false)) rfl rfl rfl) ?_
                                  refine wsa rfl rfl rfl (q_assign (v := (.bool false)) rfl rfl) ?_
                                  refine ws_nil ?_
                                  refine W_th ?_
                                  refine W_ret ?_
                                  obtain rfl := Option.some.inj H
                                  refine rt1 (.bool false) rfl rfl rfl s163_163 ?_
                                  exact ⟨rfl, e198⟩
            · replace H := (if_pos (ndec_f hb150)).symm.trans H
              refine wlk rfl rfl ?_
              refine wlk rfl rfl ?_
              refine wlk rfl rfl ?_
              refine wla rfl rfl (q_pick_f (v := (.bool false)) rfl rfl rfl) ?_
              refine wla rfl rfl (q_pick_f (v := (.bool false)) rfl rfl rfl) ?_
              refine wl_nil ?_
              refine W_th ?_
              refine W_cond false rfl rfl (fun hb => by cases hb) (fun _ => ?_)
              refine W_skip ?_
              refine W_th ?_
              refine W_seq ?_
              refine W_seq ?_
              refine W_reg (by kernel_rfl) ?_
              refine wla rfl rfl (q_move (v := v137_0) rfl s8_148) ?_
              refine wla rfl rfl (q_len rfl T23.sl rfl i0_148) ?_
              refine wla rfl rfl (q_move (v := (i64 0)) rfl rfl) ?_
              refine wl_nil ?_
              refine W_th ?_
              obtain ⟨x203, G203, H⟩ := Option.bind_eq_some_iff.1 H
              refine W_mid (fun f w => ∃ y203, x203 = .inl y203 ∧ f 0 = (i64 a0n) ∧ f 1 = p1 ∧ f 2 = (i64 a2x) ∧ f 8 = v137_0 ∧ f 10 = v139_0 ∧ f 11 = (i64 r139.2) ∧ f 12 = (i64 x141) ∧ f 163 = undef ∧ Ext w0 w ∧ Rw w [] v137_0 r137.1 ∧ By w [] v139_0 r139.1) ?_ ?_
              · refine W_block ?_
                refine W_loop (fun s203 f w => f 0 = (i64 a0n) ∧ f 1 = p1 ∧ f 2 = (i64 a2x) ∧ f 8 = v137_0 ∧ f 10 = v139_0 ∧ f 11 = (i64 r139.2) ∧ f 12 = (i64 x141) ∧ f 79 = (i64 ((r137.1.length : Int))) ∧ f 80 = (i64 s203) ∧ f 163 = undef ∧ Ext w0 w ∧ Rw w [] v137_0 r137.1 ∧ By w [] v139_0 r139.1) G203 ?_ ?_
                · exact ⟨s0_148, s1_148, s2_148, s8_148, s10_148, s11_148, s12_148, rfl, rfl, s163_148, hE148, i0_148, i1_148⟩
                · rintro s203 _ _ w204 ⟨s0_204, s1_204, s2_204, s8_204, s10_204, s11_204, s12_204, s79_204, s80_204, s163_204, hE204, i0_204, i1_204⟩ H203 hr203
                  refine W_seq ?_
                  refine W_reg (by kernel_rfl) ?_
                  refine wla rfl rfl (q_ltI rfl s80_204 s79_204) ?_
                  refine wl_nil ?_
                  refine W_th ?_
                  refine W_seq ?_
                  refine W_cond _ rfl rfl (fun hb205 => ?_) (fun hb205 => ?_)
                  · replace H203 := (if_pos (of_decide_eq_true hb205)).symm.trans H203
                    refine W_skip ?_
                    refine W_th ?_
                    refine W_seq ?_
                    refine W_block ?_
                    refine W_seq ?_
                    refine W_reg (by kernel_rfl) ?_
                    refine wla rfl rfl (q_move (v := (i64 s203)) rfl s80_204) ?_
                    refine wla rfl rfl (q_assign (v := (i64 s203)) rfl rfl) ?_
                    refine wl_nil ?_
                    refine W_th ?_
                    refine W_seq ?_
                    refine W_draw [3, 4, 9] [(0, 0), (1, 0), (2, 0), (3, 1), (4, 1), (5, 0), (6, 0), (7, 0), (8, 2), (9, 1), (10, 0)] mixed (by kernel_rfl) (by kernel_rfl) (by kernel_rfl) (by kernel_rfl) ?_
                    have x206 := Ext.drew w204
                    replace i0_204 := i0_204.lift (Lift.ext x206 _)
                    replace i1_204 := i1_204.lift (Lift.ext x206 _)
                    have e207 := hE204.trans x206
                    refine wsa rfl rfl rfl (q_move (v := v137_0) rfl s8_204) ?_
                    refine wsa rfl rfl rfl (q_move (v := (i64 s203)) rfl rfl) ?_
                    obtain ⟨c208, hc208, H203⟩ := Option.bind_eq_some_iff.1 H203
                    refine wsa rfl rfl rfl (q_adr rfl T23 rfl rfl i0_204 hc208) ?_
                    refine wsq_load rfl rfl rfl rfl T23 rfl i0_204 hc208 (Ext.refl _) (fun v209 i209 => ?_)
                    refine wsq rfl rfl rfl (q_str rfl T22 rfl rfl rfl i209) ?_
                    refine wsa rfl rfl rfl (q_move (v := p1) rfl s1_204) ?_
                    refine wsa rfl rfl rfl (q_move (v := (i64 s203)) rfl rfl) ?_
                    refine wsa rfl rfl rfl (q_addI rfl rfl rfl) ?_
                    obtain ⟨r210, hr210, H203⟩ := Option.bind_eq_some_iff.1 H203
                    refine wss rfl rfl rfl (stp_call (vs := [p1, (i64 ((wI (s203 + 1))))]) Try.func35 rfl rfl rfl (ar2 rfl rfl) (ref09_Piece_calls a1parts (wI (s203 + 1)) p1 r210 _ (hp1.lift (Lift.ext e207 _)) hr210) ?_)
                    rintro _ w210 ⟨v210, rfl, x210, n210_0, o210_0⟩
                    refine ⟨_, rfl, x210, ?_⟩
                    have i210_0 : By w210 [] v210 r210 := OwK.slk (Sc.stab _) _ (OwK.scal o210_0 (v210 :: [])) (fun k hk => (Old.nil _) k (n210_0 k hk)) (fun _ h => h.2)
                    replace i0_204 := i0_204.lift (Lift.ext x210 _)
                    replace i1_204 := i1_204.lift (Lift.ext x210 _)
                    replace i209 := i209.lift (Lift.ext x210 _)
                    have e211 := e207.trans x210
                    refine wsq rfl rfl rfl (q_str rfl T22 rfl rfl rfl i210_0) ?_
                    refine wsa rfl rfl rfl (q_neS rfl rfl rfl) ?_
                    refine ws_nil ?_
                    refine W_th ?_
                    refine W_cond _ rfl rfl (fun hb212 => ?_) (fun hb212 => ?_)
                    · replace H203 := (if_neg (ndec_t hb212)).symm.trans H203
                      refine W_seq ?_
                      refine W_reg (by kernel_rfl) ?_
                      refine wla rfl rfl (q_assign (v := (.bool false)) rfl rfl) ?_
                      refine wl_nil ?_
                      refine W_th ?_
                      refine W_ret ?_
                      refine bk_r ?_
                      refine th_r ?_
                      obtain rfl := Option.some.inj H203
                      obtain rfl := hr203 _ rfl
                      simp only [Sum.elim_inr] at H
                      refine th_r ?_
                      refine bk_r ?_
                      refine th_r ?_
                      refine th_r ?_
                      obtain rfl := Option.some.inj H
                      refine rt1 (.bool false) rfl rfl rfl s163_204 ?_
                      exact ⟨rfl, e211⟩
                    · replace H203 := (if_pos (ndec_f hb212)).symm.trans H203
                      refine W_skip ?_
                      refine bk_n ?_
                      refine W_th ?_
                      refine W_reg (by kernel_rfl) ?_
                      refine wla rfl rfl (q_addI rfl s80_204 rfl) ?_
                      refine wla rfl rfl (q_move (v := (i64 ((wI (s203 + 1))))) rfl rfl) ?_
                      refine wl_nil ?_
                      obtain rfl := Option.some.inj H203
                      exact ⟨_, rfl, s0_204, s1_204, s2_204, s8_204, s10_204, s11_204, s12_204, s79_204, rfl, s163_204, e211, i0_204, i1_204⟩
                  · replace H203 := (if_neg (of_decide_eq_false hb205)).symm.trans H203
                    refine W_exit ?_
                    refine th_x ?_
                    obtain rfl := Option.some.inj H203
                    obtain rfl := hr203 _ rfl
                    refine th_x ?_
                    refine bk_x ?_
                    exact ⟨_, rfl, s0_204, s1_204, s2_204, s8_204, s10_204, s11_204, s12_204, s163_204, hE204, i0_204, i1_204⟩
              · rintro _ w214 ⟨y203, rfl, s0_214, s1_214, s2_214, s8_214, s10_214, s11_214, s12_214, s163_214, hE214, i0_214, i1_214⟩
                simp only [Sum.elim_inl] at H
                refine W_th ?_
                refine W_seq ?_
                refine W_reg (by kernel_rfl) ?_
                refine wla rfl rfl (q_move (v := (i64 a0n)) rfl s0_214) ?_
                refine wla rfl rfl (q_move (v := p1) rfl s1_214) ?_
                obtain ⟨r215, hr215, H⟩ := Option.bind_eq_some_iff.1 H
                refine wls rfl rfl (stp_call (vs := [(.pointer none), (i64 a0n), p1]) Try.func33 rfl rfl rfl (ar3 rfl rfl rfl) (code_Encode_calls false a0n a1parts (.pointer none) p1 r215 _ [] (Old.nil _) (Fd.nil _ _) (hp1.lift (Lift.ext hE214 _)) hr215) ?_)
                rintro _ w215 ⟨v215_0, rfl, x215, n215_0, o215_0⟩
                refine ⟨_, rfl, ?_⟩
                have i215_0 : Rw w215 [] v215_0 r215.1 := OwK.slk (SlK.stab (Sc.stab _)) _ o215_0 (fun k hk => (Old.nil _) k (n215_0 k hk)) (fun _ h => h.2)
                replace i0_214 := i0_214.lift (Lift.ext x215 _)
                replace i1_214 := i1_214.lift (Lift.ext x215 _)
                have e216 := hE214.trans x215
                refine wla rfl rfl (q_move (v := (.tuple #[v215_0, (i64 r215.2)])) rfl rfl) ?_
                refine wla rfl rfl (q_extract rfl rfl rfl) ?_
                refine wla rfl rfl (q_extract rfl rfl rfl) ?_
                refine wla rfl rfl (q_assign (v := v215_0) rfl rfl) ?_
                refine wla rfl rfl (q_assign (v := (i64 r215.2)) rfl rfl) ?_
                refine wl_nil ?_
                refine W_th ?_
                refine W_seq ?_
                refine W_reg (by kernel_rfl) ?_
                refine wla rfl rfl (q_move (v := p1) rfl s1_214) ?_
                refine wla rfl rfl (q_move (v := (i64 a2x)) rfl s2_214) ?_
                obtain ⟨r217, hr217, H⟩ := Option.bind_eq_some_iff.1 H
                refine wls rfl rfl (stp_call (vs := [(.pointer none), p1, (i64 a2x)]) Try.func34 rfl rfl rfl (ar3 rfl rfl rfl) (code_Piece_calls false a1parts a2x (.pointer none) p1 r217 _ (Fd.nil _ _) (hp1.lift (Lift.ext e216 _)) hr217) ?_)
                rintro _ w217 ⟨v217_0, rfl, x217, n217_0, o217_0⟩
                refine ⟨_, rfl, ?_⟩
                have i217_0 : By w217 [] v217_0 r217.1 := OwK.slk (Sc.stab _) _ (OwK.scal o217_0 (v217_0 :: [])) (fun k hk => (Old.nil _) k (n217_0 k hk)) (fun _ h => h.2)
                replace i0_214 := i0_214.lift (Lift.ext x217 _)
                replace i1_214 := i1_214.lift (Lift.ext x217 _)
                replace i215_0 := i215_0.lift (Lift.ext x217 _)
                have e218 := e216.trans x217
                refine wla rfl rfl (q_move (v := (.tuple #[v217_0, (i64 r217.2)])) rfl rfl) ?_
                refine wla rfl rfl (q_extract rfl rfl rfl) ?_
                refine wla rfl rfl (q_extract rfl rfl rfl) ?_
                refine wla rfl rfl (q_assign (v := v217_0) rfl rfl) ?_
                refine wla rfl rfl (q_assign (v := (i64 r217.2)) rfl rfl) ?_
                refine wl_nil ?_
                refine W_th ?_
                refine W_seq ?_
                refine W_seq ?_
                refine W_reg (by kernel_rfl) ?_
                refine wla rfl rfl (q_move (v := (i64 r215.2)) rfl rfl) ?_
                refine wla rfl rfl (q_neI rfl rfl rfl) ?_
                refine wlb rfl rfl (q_move (v := (.bool ((!decide (r215.2 = 1))))) rfl rfl) (fun hb219 => ?_) (fun hb219 => ?_)
                · replace H := (if_neg (ndec_t hb219)).symm.trans H
                  refine wlk rfl rfl ?_
                  refine wlk rfl rfl ?_
                  refine wla rfl rfl (q_pick_t (v := (.bool true)) rfl rfl rfl) ?_
                  refine wla rfl rfl (q_move (v := (.bool true)) rfl rfl) ?_
                  refine wlk rfl rfl ?_
                  refine wlk rfl rfl ?_
                  refine wlk rfl rfl ?_
                  refine wlk rfl rfl ?_
                  refine wlk rfl rfl ?_
                  refine wlk rfl rfl ?_
                  refine wlk rfl rfl ?_
                  refine wlk rfl rfl ?_
                  refine wla rfl rfl (q_pick_t (v := (.bool true)) rfl rfl rfl) ?_
                  refine wl_nil ?_
                  refine W_th ?_
                  refine W_cond true rfl rfl (fun _ => ?_) (fun hb => by cases hb)
                  refine W_seq ?_
                  refine W_reg (by kernel_rfl) ?_
                  refine wla rfl rfl (q_assign (v := (.bool false)) rfl rfl) ?_
                  refine wl_nil ?_
                  refine W_th ?_
                  refine W_ret ?_
                  refine th_r ?_
                  obtain rfl := Option.some.inj H
                  refine rt1 (.bool false) rfl rfl rfl s163_214 ?_
                  exact ⟨rfl, e218⟩
                · replace H := (if_pos (ndec_f hb219)).symm.trans H
                  refine wla rfl rfl (q_move (v := (i64 r217.2)) rfl rfl) ?_
                  refine wla rfl rfl (q_neI rfl rfl rfl) ?_
                  refine wla rfl rfl (q_pick_f (v := (.bool ((!decide (r217.2 = 1))))) rfl rfl rfl) ?_
                  refine wlb rfl rfl (q_move (v := (.bool ((!decide (r217.2 = 1))))) rfl rfl) (fun hb220 => ?_) (fun hb220 => ?_)
                  · replace H := (if_neg (ndec_t hb220)).symm.trans H
                    refine wlk rfl rfl ?_
                    refine wlk rfl rfl ?_
                    refine wlk rfl rfl ?_
                    refine wlk rfl rfl ?_
                    refine wlk rfl rfl ?_
                    refine wlk rfl rfl ?_
                    refine wlk rfl rfl ?_
                    refine wlk rfl rfl ?_
                    refine wla rfl rfl (q_pick_t (v := (.bool true)) rfl rfl rfl) ?_
                    refine wl_nil ?_
                    refine W_th ?_
                    refine W_cond true rfl rfl (fun _ => ?_) (fun hb => by cases hb)
                    refine W_seq ?_
                    refine W_reg (by kernel_rfl) ?_
                    refine wla rfl rfl (q_assign (v := (.bool false)) rfl rfl) ?_
                    refine wl_nil ?_
                    refine W_th ?_
                    refine W_ret ?_
                    refine th_r ?_
                    obtain rfl := Option.some.inj H
                    refine rt1 (.bool false) rfl rfl rfl s163_214 ?_
                    exact ⟨rfl, e218⟩
                  · replace H := (if_pos (ndec_f hb220)).symm.trans H
                    refine wla rfl rfl (q_move (v := (i64 x141)) rfl s12_214) ?_
                    refine wla rfl rfl (q_eqI rfl rfl rfl) ?_
                    refine wlb rfl rfl (q_move (v := (.bool ((decide (x141 = 0))))) rfl rfl) (fun hb221 => ?_) (fun hb221 => ?_)
                    · replace H := (if_pos (of_decide_eq_true hb221)).symm.trans H
                      refine wla rfl rfl (q_move (v := v137_0) rfl s8_214) ?_
                      refine wla rfl rfl (q_len rfl T23.sl rfl i0_214) ?_
                      refine wla rfl rfl (q_move (v := (i64 a0n)) rfl s0_214) ?_
                      refine wla rfl rfl (q_neI rfl rfl rfl) ?_
                      refine wla rfl rfl (q_pick_t (v := (.bool ((!decide ((r137.1.length : Int) = a0n))))) rfl rfl rfl) ?_
                      refine wla rfl rfl (q_pick_f (v := (.bool ((!decide ((r137.1.length : Int) = a0n))))) rfl rfl rfl) ?_
                      refine wl_nil ?_
                      refine W_th ?_
                      refine W_cond _ rfl rfl (fun hb222 => ?_) (fun hb222 => ?_)
                      · replace H := (if_neg (ndec_t hb222)).symm.trans H
                        refine W_seq ?_
                        refine W_reg (by kernel_rfl) ?_
                        refine wla rfl rfl (q_assign (v := (.bool false)) rfl rfl) ?_
                        refine wl_nil ?_
                        refine W_th ?_
                        refine W_ret ?_
                        refine th_r ?_
                        obtain rfl := Option.some.inj H
                        refine rt1 (.bool false) rfl rfl rfl s163_214 ?_
                        exact ⟨rfl, e218⟩
                      · replace H := (if_pos (ndec_f hb222)).symm.trans H
                        refine W_skip ?_
                        refine W_th ?_
                        refine W_seq ?_
                        refine W_block ?_
                        refine W_seq ?_
                        refine W_reg (by kernel_rfl) ?_
                        refine wla rfl rfl (q_move (v := p1) rfl s1_214) ?_
                        refine wla rfl rfl (q_len rfl T23.sl rfl (hp1.lift (Lift.ext e218 _))) ?_
                        refine wla rfl rfl (q_eqI rfl rfl rfl) ?_
                        refine wlb rfl rfl (q_move (v := (.bool ((decide ((a1parts.length : Int) = 0))))) rfl rfl) (fun hb223 => ?_) (fun hb223 => ?_)
                        · replace H := (if_pos (of_decide_eq_true hb223)).symm.trans H
                          refine wlk rfl rfl ?_
                          refine wlk rfl rfl ?_
                          refine wla rfl rfl (q_pick_t (v := (.bool true)) rfl rfl rfl) ?_
                          refine wla rfl rfl (q_move (v := (.bool true)) rfl rfl) ?_
                          refine wlk rfl rfl ?_
                          refine wlk rfl rfl ?_
                          refine wla rfl rfl (q_pick_t (v := (.bool true)) rfl rfl rfl) ?_
                          refine wla rfl rfl (q_assign (v := (.bool true)) rfl rfl) ?_
                          refine wl_nil ?_
                          refine W_th ?_
                          refine W_cond true rfl rfl (fun _ => ?_) (fun hb => by cases hb)
                          refine W_seq ?_
                          refine W_reg (by kernel_rfl) ?_
                          refine wla rfl rfl (q_move (v := (i64 r139.2)) rfl s11_214) ?_
                          refine wla rfl rfl (q_eqI rfl rfl rfl) ?_
                          refine wlb rfl rfl (q_move (v := (.bool ((decide (r139.2 = 2))))) rfl rfl) (fun hb224 => ?_) (fun hb224 => ?_)
                          · replace H := (if_pos (of_decide_eq_true hb224)).symm.trans H
                            refine wla rfl rfl (q_move (v := v139_0) rfl s10_214) ?_
                            refine wla rfl rfl (q_len rfl T22.sl rfl i1_214) ?_
                            refine wla rfl rfl (q_eqI rfl rfl rfl) ?_
                            refine wla rfl rfl (q_pick_t (v := (.bool ((decide ((r139.1.length : Int) = 0))))) rfl rfl rfl) ?_
                            refine wla rfl rfl (q_assign (v := (.bool ((decide ((r139.1.length : Int) = 0))))) rfl rfl) ?_
                            refine wl_nil ?_
                            refine W_th ?_
                            refine W_ret ?_
                            refine bk_r ?_
                            refine th_r ?_
                            obtain rfl := Option.some.inj H
                            refine rt1 (.bool ((decide ((r139.1.length : Int) = 0)))) rfl rfl rfl s163_214 ?_
                            exact ⟨rfl, e218⟩
                          · replace H := (if_neg (of_decide_eq_false hb224)).symm.trans H
                            refine wlk rfl rfl ?_
                            refine wlk rfl rfl ?_
                            refine wlk rfl rfl ?_
                            refine wla rfl rfl (q_pick_f (v := (.bool false)) rfl rfl rfl) ?_
                            refine wla rfl rfl (q_assign (v := (.bool false)) rfl rfl) ?_
                            refine wl_nil ?_
                            refine W_th ?_
                            refine W_ret ?_
                            refine bk_r ?_
                            refine th_r ?_
                            obtain rfl := Option.some.inj H
                            refine rt1 (.bool false) rfl rfl rfl s163_214 ?_
                            exact ⟨rfl, e218⟩
                        · replace H := (if_neg (of_decide_eq_false hb223)).symm.trans H
                          refine wla rfl rfl (q_move (v := (i64 a2x)) rfl s2_214) ?_
                          refine wla rfl rfl (q_ltI rfl rfl rfl) ?_
                          refine wla rfl rfl (q_pick_f (v := (.bool ((decide (a2x < 1))))) rfl rfl rfl) ?_
                          refine wlb rfl rfl (q_move (v := (.bool ((decide (a2x < 1))))) rfl rfl) (fun hb225 => ?_) (fun hb225 => ?_)
                          · replace H := (if_pos (of_decide_eq_true hb225)).symm.trans H
                            refine wlk rfl rfl ?_
                            refine wlk rfl rfl ?_
                            refine wla rfl rfl (q_pick_t (v := (.bool true)) rfl rfl rfl) ?_
                            refine wla rfl rfl (q_assign (v := (.bool true)) rfl rfl) ?_
                            refine wl_nil ?_
                            refine W_th ?_
                            refine W_cond true rfl rfl (fun _ => ?_) (fun hb => by cases hb)
                            refine W_seq ?_
                            refine W_reg (by kernel_rfl) ?_
                            refine wla rfl rfl (q_move (v := (i64 r139.2)) rfl s11_214) ?_
                            refine wla rfl rfl (q_eqI rfl rfl rfl) ?_
                            refine wlb rfl rfl (q_move (v := (.bool ((decide (r139.2 = 2))))) rfl rfl) (fun hb226 => ?_) (fun hb226 => ?_)
                            · replace H := (if_pos (of_decide_eq_true hb226)).symm.trans H
                              refine wla rfl rfl (q_move (v := v139_0) rfl s10_214) ?_
                              refine wla rfl rfl (q_len rfl T22.sl rfl i1_214) ?_
                              refine wla rfl rfl (q_eqI rfl rfl rfl) ?_
                              refine wla rfl rfl (q_pick_t (v := (.bool ((decide ((r139.1.length : Int) = 0))))) rfl rfl rfl) ?_
                              refine wla rfl rfl (q_assign (v := (.bool ((decide ((r139.1.length : Int) = 0))))) rfl rfl) ?_
                              refine wl_nil ?_
                              refine W_th ?_
                              refine W_ret ?_
                              refine bk_r ?_
                              refine th_r ?_
                              obtain rfl := Option.some.inj H
                              refine rt1 (.bool ((decide ((r139.1.length : Int) = 0)))) rfl rfl rfl s163_214 ?_
                              exact ⟨rfl, e218⟩
                            · replace H := (if_neg (of_decide_eq_false hb226)).symm.trans H
                              refine wlk rfl rfl ?_
                              refine wlk rfl rfl ?_
                              refine wlk rfl rfl ?_
                              refine wla rfl rfl (q_pick_f (v := (.bool false)) rfl rfl rfl) ?_
                              refine wla rfl rfl (q_assign (v := (.bool false)) rfl rfl) ?_
                              refine wl_nil ?_
                              refine W_th ?_
                              refine W_ret ?_
                              refine bk_r ?_
                              refine th_r ?_
                              obtain rfl := Option.some.inj H
                              refine rt1 (.bool false) rfl rfl rfl s163_214 ?_
                              exact ⟨rfl, e218⟩
                          · replace H := (if_neg (of_decide_eq_false hb225)).symm.trans H
                            refine wla rfl rfl (q_move (v := (i64 a2x)) rfl s2_214) ?_
                            refine wla rfl rfl (q_gtI rfl rfl rfl) ?_
                            refine wla rfl rfl (q_pick_f (v := (.bool ((decide (255 < a2x))))) rfl rfl rfl) ?_
                            refine wla rfl rfl (q_assign (v := (.bool ((decide (255 < a2x))))) rfl rfl) ?_
                            refine wl_nil ?_
                            refine W_th ?_
                            refine W_cond _ rfl rfl (fun hb227 => ?_) (fun hb227 => ?_)
                            · replace H := (if_pos (of_decide_eq_true hb227)).symm.trans H
                              refine W_seq ?_
                              refine W_reg (by kernel_rfl) ?_
                              refine wla rfl rfl (q_move (v := (i64 r139.2)) rfl s11_214) ?_
                              refine wla rfl rfl (q_eqI rfl rfl rfl) ?_
                              refine wlb rfl rfl (q_move (v := (.bool ((decide (r139.2 = 2))))) rfl rfl) (fun hb228 => ?_) (fun hb228 => ?_)
                              · replace H := (if_pos (of_decide_eq_true hb228)).symm.trans H
                                refine wla rfl rfl (q_move (v := v139_0) rfl s10_214) ?_
                                refine wla rfl rfl (q_len rfl T22.sl rfl i1_214) ?_
                                refine wla rfl rfl (q_eqI rfl rfl rfl) ?_
                                refine wla rfl rfl (q_pick_t (v := (.bool ((decide ((r139.1.length : Int) = 0))))) rfl rfl rfl) ?_
                                refine wla rfl rfl (q_assign (v := (.bool ((decide ((r139.1.length : Int) = 0))))) rfl rfl) ?_
                                refine wl_nil ?_
                                refine W_th ?_
                                refine W_ret ?_
                                refine bk_r ?_
                                refine th_r ?_
                                obtain rfl := Option.some.inj H
                                refine rt1 (.bool ((decide ((r139.1.length : Int) = 0)))) rfl rfl rfl s163_214 ?_
                                exact ⟨rfl, e218⟩
                              · replace H := (if_neg (of_decide_eq_false hb228)).symm.trans H
                                refine wlk rfl rfl ?_
                                refine wlk rfl rfl ?_
                                refine wlk rfl rfl ?_
                                refine wla rfl rfl (q_pick_f (v := (.bool false)) rfl rfl rfl) ?_
                                refine wla rfl rfl (q_assign (v := (.bool false)) rfl rfl) ?_
                                refine wl_nil ?_
                                refine W_th ?_
                                refine W_ret ?_
                                refine bk_r ?_
                                refine th_r ?_
                                obtain rfl := Option.some.inj H
                                refine rt1 (.bool false) rfl rfl rfl s163_214 ?_
                                exact ⟨rfl, e218⟩
                            · replace H := (if_neg (of_decide_eq_false hb227)).symm.trans H
                              refine W_seq ?_
                              refine W_reg (by kernel_rfl) ?_
                              refine wla rfl rfl (q_move (v := p1) rfl s1_214) ?_
                              obtain ⟨r229, hr229, H⟩ := Option.bind_eq_some_iff.1 H
                              refine wls rfl rfl (stp_call (vs := [p1]) Try.func32 rfl rfl rfl (ar1 rfl) (law09_unlike_calls a1parts p1 r229 _ (hp1.lift (Lift.ext e218 _)) hr229) ?_)
                              rintro _ w229 ⟨rfl, x229⟩
                              refine ⟨_, rfl, ?_⟩
                              replace i0_214 := i0_214.lift (Lift.ext x229 _)
                              replace i1_214 := i1_214.lift (Lift.ext x229 _)
                              replace i215_0 := i215_0.lift (Lift.ext x229 _)
                              replace i217_0 := i217_0.lift (Lift.ext x229 _)
                              have e230 := e218.trans x229
                              refine wla rfl rfl (q_assign (v := (.bool r229)) rfl rfl) ?_
                              refine wl_nil ?_
                              refine W_th ?_
                              refine W_cond _ rfl rfl (fun hb231 => ?_) (fun hb231 => ?_)
                              · replace H := (if_pos hb231).symm.trans H
                                refine W_seq ?_
                                refine W_reg (by kernel_rfl) ?_
                                refine wla rfl rfl (q_move (v := (i64 r139.2)) rfl s11_214) ?_
                                refine wla rfl rfl (q_eqI rfl rfl rfl) ?_
                                refine wlb rfl rfl (q_move (v := (.bool ((decide (r139.2 = 3))))) rfl rfl) (fun hb232 => ?_) (fun hb232 => ?_)
                                · replace H := (if_pos (of_decide_eq_true hb232)).symm.trans H
                                  refine wla rfl rfl (q_move (v := v139_0) rfl s10_214) ?_
                                  refine wla rfl rfl (q_len rfl T22.sl rfl i1_214) ?_
                                  refine wla rfl rfl (q_eqI rfl rfl rfl) ?_
                                  refine wla rfl rfl (q_pick_t (v := (.bool ((decide ((r139.1.length : Int) = 0))))) rfl rfl rfl) ?_
                                  refine wla rfl rfl (q_assign (v := (.bool ((decide ((r139.1.length : Int) = 0))))) rfl rfl) ?_
                                  refine wl_nil ?_
                                  refine W_th ?_
                                  refine W_ret ?_
                                  refine bk_r ?_
                                  refine th_r ?_
                                  obtain rfl := Option.some.inj H
                                  refine rt1 (.bool ((decide ((r139.1.length : Int) = 0)))) rfl rfl rfl s163_214 ?_
                                  exact ⟨rfl, e230⟩
                                · replace H := (if_neg (of_decide_eq_false hb232)).symm.trans H
                                  refine wlk rfl rfl ?_
                                  refine wlk rfl rfl ?_
                                  refine wlk rfl rfl ?_
                                  refine wla rfl rfl (q_pick_f (v := (.bool false)) rfl rfl rfl) ?_
                                  refine wla rfl rfl (q_assign (v := (.bool false)) rfl rfl) ?_
                                  refine wl_nil ?_
                                  refine W_th ?_
                                  refine W_ret ?_
                                  refine bk_r ?_
                                  refine th_r ?_
                                  obtain rfl := Option.some.inj H
                                  refine rt1 (.bool false) rfl rfl rfl s163_214 ?_
                                  exact ⟨rfl, e230⟩
                              · replace H := (if_neg (ne_true_of_eq_false hb231)).symm.trans H
                                refine W_skip ?_
                                refine bk_n ?_
                                refine W_th ?_
                                refine W_seq ?_
                                refine W_draw [4, 8] [(0, 0), (1, 0), (2, 0), (3, 0), (4, 1), (5, 0), (6, 0), (7, 2), (8, 1), (9, 0), (10, 0), (11, 0)] mixed (by kernel_rfl) (by kernel_rfl) (by kernel_rfl) (by kernel_rfl) ?_
                                have x233 := Ext.drew w229
                                replace i0_214 := i0_214.lift (Lift.ext x233 _)
                                replace i1_214 := i1_214.lift (Lift.ext x233 _)
                                replace i215_0 := i215_0.lift (Lift.ext x233 _)
                                replace i217_0 := i217_0.lift (Lift.ext x233 _)
                                have e234 := e230.trans x233
                                refine wsa rfl rfl rfl (q_move (v := (i64 r139.2)) rfl s11_214) ?_
                                refine wsa rfl rfl rfl (q_eqI rfl rfl rfl) ?_
                                refine wsb rfl rfl rfl (q_move (v := (.bool ((decide (r139.2 = 0))))) rfl rfl) (fun hb235 => ?_) (fun hb235 => ?_)
                                · replace H := (if_pos (of_decide_eq_true hb235)).symm.trans H
                                  refine wsa rfl rfl rfl (q_move (v := v139_0) rfl s10_214) ?_
                                  refine wsq rfl rfl rfl (q_str rfl T22 rfl rfl rfl i1_214) ?_
                                  refine wsa rfl rfl rfl (q_move (v := p1) rfl s1_214) ?_
                                  refine wsa rfl rfl rfl (q_move (v := (i64 a2x)) rfl s2_214) ?_
                                  obtain ⟨r236, hr236, H⟩ := Option.bind_eq_some_iff.1 H
                                  refine wss rfl rfl rfl (stp_call (vs := [p1, (i64 a2x)]) Try.func35 rfl rfl rfl (ar2 rfl rfl) (ref09_Piece_calls a1parts a2x p1 r236 _ (hp1.lift (Lift.ext e234 _)) hr236) ?_)
                                  rintro _ w236 ⟨v236, rfl, x236, n236_0, o236_0⟩
                                  refine ⟨_, rfl, x236, ?_⟩
                                  have i236_0 : By w236 [] v236 r236 := OwK.slk (Sc.stab _) _ (OwK.scal o236_0 (v236 :: [])) (fun k hk => (Old.nil _) k (n236_0 k hk)) (fun _ h => h.2)
                                  replace i0_214 := i0_214.lift (Lift.ext x236 _)
                                  replace i1_214 := i1_214.lift (Lift.ext x236 _)
                                  replace i215_0 := i215_0.lift (Lift.ext x236 _)
                                  replace i217_0 := i217_0.lift (Lift.ext x236 _)
                                  have e237 := e234.trans x236
                                  refine wsq rfl rfl rfl (q_str rfl T22 rfl rfl rfl i236_0) ?_
                                  refine wsa rfl rfl rfl (q_eqS rfl rfl rfl) ?_
                                  refine wsa rfl rfl rfl (q_pick_t (v := (.bool ((decide (r139.1 = r236))))) rfl rfl rfl) ?_
                                  refine wsa rfl rfl rfl (q_assign (v := (.bool ((decide (r139.1 = r236))))) rfl rfl) ?_
                                  refine ws_nil ?_
                                  refine W_th ?_
                                  refine W_ret ?_
                                  obtain rfl := Option.some.inj H
                                  refine rt1 (.bool ((decide (r139.1 = r236)))) rfl rfl rfl s163_214 ?_
                                  exact ⟨rfl, e237⟩
                                · replace H := (if_neg (of_decide_eq_false hb235)).symm.trans H
                                  refine wsk rfl rfl rfl ?_
                                  refine wsk rfl rfl rfl ?_
                                  refine wsk rfl rfl rfl ?_
                                  refine wsk rfl rfl rfl ?_
                                  refine wsk rfl rfl rfl ?_
                                  refine wsk rfl rfl rfl ?_
                                  refine wsk rfl rfl rfl ?_
                                  refine wsa rfl rfl rfl (q_pick_f (v := (.bool false)) rfl rfl rfl) ?_
                                  refine wsa rfl rfl rfl (q_assign (v := (.bool false)) rfl rfl) ?_
                                  refine ws_nil ?_
                                  refine W_th ?_
                                  refine W_ret ?_
                                  obtain rfl := Option.some.inj H
                                  refine rt1 (.bool false) rfl rfl rfl s163_214 ?_
                                  exact ⟨rfl, e234⟩
                    · replace H := (if_neg (of_decide_eq_false hb221)).symm.trans H
                      refine wlk rfl rfl ?_
                      refine wlk rfl rfl ?_
                      refine wlk rfl rfl ?_
                      refine wlk rfl rfl ?_
                      refine wla rfl rfl (q_pick_f (v := (.bool false)) rfl rfl rfl) ?_
                      refine wla rfl rfl (q_pick_f (v := (.bool false)) rfl rfl rfl) ?_
                      refine wl_nil ?_
                      refine W_th ?_
                      refine W_cond false rfl rfl (fun hb => by cases hb) (fun _ => ?_)
                      refine W_skip ?_
                      refine W_th ?_
                      refine W_seq ?_
                      refine W_block ?_
                      refine W_seq ?_
                      refine W_reg (by kernel_rfl) ?_
                      refine wla rfl rfl (q_move (v := p1) rfl s1_214) ?_
                      refine wla rfl rfl (q_len rfl T23.sl rfl (hp1.lift (Lift.ext e218 _))) ?_
                      refine wla rfl rfl (q_eqI rfl rfl rfl) ?_
                      refine wlb rfl rfl (q_move (v := (.bool ((decide ((a1parts.length : Int) = 0))))) rfl rfl) (fun hb238 => ?_) (fun hb238 => ?_)
                      · replace H := (if_pos (of_decide_eq_true hb238)).symm.trans H
                        refine wlk rfl rfl ?_
                        refine wlk rfl rfl ?_
                        refine wla rfl rfl (q_pick_t (v := (.bool true)) rfl rfl rfl) ?_
                        refine wla rfl rfl (q_move (v := (.bool true)) rfl rfl) ?_
                        refine wlk rfl rfl ?_
                        refine wlk rfl rfl ?_
                        refine wla rfl rfl (q_pick_t (v := (.bool true)) rfl rfl rfl) ?_
                        refine wla rfl rfl (q_assign (v := (.bool true)) rfl rfl) ?_
                        refine wl_nil ?_
                        refine W_th ?_
                        refine W_cond true rfl rfl (fun _ => ?_) (fun hb => by cases hb)
                        refine W_seq ?_
                        refine W_reg (by kernel_rfl) ?_
                        refine wla rfl rfl (q_move (v := (i64 r139.2)) rfl s11_214) ?_
                        refine wla rfl rfl (q_eqI rfl rfl rfl) ?_
                        refine wlb rfl rfl (q_move (v := (.bool ((decide (r139.2 = 2))))) rfl rfl) (fun hb239 => ?_) (fun hb239 => ?_)
                        · replace H := (if_pos (of_decide_eq_true hb239)).symm.trans H
                          refine wla rfl rfl (q_move (v := v139_0) rfl s10_214) ?_
                          refine wla rfl rfl (q_len rfl T22.sl rfl i1_214) ?_
                          refine wla rfl rfl (q_eqI rfl rfl rfl) ?_
                          refine wla rfl rfl (q_pick_t (v := (.bool ((decide ((r139.1.length : Int) = 0))))) rfl rfl rfl) ?_
                          refine wla rfl rfl (q_assign (v := (.bool ((decide ((r139.1.length : Int) = 0))))) rfl rfl) ?_
                          refine wl_nil ?_
                          refine W_th ?_
                          refine W_ret ?_
                          refine bk_r ?_
                          refine th_r ?_
                          obtain rfl := Option.some.inj H
                          refine rt1 (.bool ((decide ((r139.1.length : Int) = 0)))) rfl rfl rfl s163_214 ?_
                          exact ⟨rfl, e218⟩
                        · replace H := (if_neg (of_decide_eq_false hb239)).symm.trans H
                          refine wlk rfl rfl ?_
                          refine wlk rfl rfl ?_
                          refine wlk rfl rfl ?_
                          refine wla rfl rfl (q_pick_f (v := (.bool false)) rfl rfl rfl) ?_
                          refine wla rfl rfl (q_assign (v := (.bool false)) rfl rfl) ?_
                          refine wl_nil ?_
                          refine W_th ?_
                          refine W_ret ?_
                          refine bk_r ?_
                          refine th_r ?_
                          obtain rfl := Option.some.inj H
                          refine rt1 (.bool false) rfl rfl rfl s163_214 ?_
                          exact ⟨rfl, e218⟩
                      · replace H := (if_neg (of_decide_eq_false hb238)).symm.trans H
                        refine wla rfl rfl (q_move (v := (i64 a2x)) rfl s2_214) ?_
                        refine wla rfl rfl (q_ltI rfl rfl rfl) ?_
                        refine wla rfl rfl (q_pick_f (v := (.bool ((decide (a2x < 1))))) rfl rfl rfl) ?_
                        refine wlb rfl rfl (q_move (v := (.bool ((decide (a2x < 1))))) rfl rfl) (fun hb240 => ?_) (fun hb240 => ?_)
                        · replace H := (if_pos (of_decide_eq_true hb240)).symm.trans H
                          refine wlk rfl rfl ?_
                          refine wlk rfl rfl ?_
                          refine wla rfl rfl (q_pick_t (v := (.bool true)) rfl rfl rfl) ?_
                          refine wla rfl rfl (q_assign (v := (.bool true)) rfl rfl) ?_
                          refine wl_nil ?_
                          refine W_th ?_
                          refine W_cond true rfl rfl (fun _ => ?_) (fun hb => by cases hb)
                          refine W_seq ?_
                          refine W_reg (by kernel_rfl) ?_
                          refine wla rfl rfl (q_move (v := (i64 r139.2)) rfl s11_214) ?_
                          refine wla rfl rfl (q_eqI rfl rfl rfl) ?_
                          refine wlb rfl rfl (q_move (v := (.bool ((decide (r139.2 = 2))))) rfl rfl) (fun hb241 => ?_) (fun hb241 => ?_)
                          · replace H := (if_pos (of_decide_eq_true hb241)).symm.trans H
                            refine wla rfl rfl (q_move (v := v139_0) rfl s10_214) ?_
                            refine wla rfl rfl (q_len rfl T22.sl rfl i1_214) ?_
                            refine wla rfl rfl (q_eqI rfl rfl rfl) ?_
                            refine wla rfl rfl (q_pick_t (v := (.bool ((decide ((r139.1.length : Int) = 0))))) rfl rfl rfl) ?_
                            refine wla rfl rfl (q_assign (v := (.bool ((decide ((r139.1.length : Int) = 0))))) rfl rfl) ?_
                            refine wl_nil ?_
                            refine W_th ?_
                            refine W_ret ?_
                            refine bk_r ?_
                            refine th_r ?_
                            obtain rfl := Option.some.inj H
                            refine rt1 (.bool ((decide ((r139.1.length : Int) = 0)))) rfl rfl rfl s163_214 ?_
                            exact ⟨rfl, e218⟩
                          · replace H := (if_neg (of_decide_eq_false hb241)).symm.trans H
                            refine wlk rfl rfl ?_
                            refine wlk rfl rfl ?_
                            refine wlk rfl rfl ?_
                            refine wla rfl rfl (q_pick_f (v := (.bool false)) rfl rfl rfl) ?_
                            refine wla rfl rfl (q_assign (v := (.bool false)) rfl rfl) ?_
                            refine wl_nil ?_
                            refine W_th ?_
                            refine W_ret ?_
                            refine bk_r ?_
                            refine th_r ?_
                            obtain rfl := Option.some.inj H
                            refine rt1 (.bool false) rfl rfl rfl s163_214 ?_
                            exact ⟨rfl, e218⟩
                        · replace H := (if_neg (of_decide_eq_false hb240)).symm.trans H
                          refine wla rfl rfl (q_move (v := (i64 a2x)) rfl s2_214) ?_
                          refine wla rfl rfl (q_gtI rfl rfl rfl) ?_
                          refine wla rfl rfl (q_pick_f (v := (.bool ((decide (255 < a2x))))) rfl rfl rfl) ?_
                          refine wla rfl rfl (q_assign (v := (.bool ((decide (255 < a2x))))) rfl rfl) ?_
                          refine wl_nil ?_
                          refine W_th ?_
                          refine W_cond _ rfl rfl (fun hb242 => ?_) (fun hb242 => ?_)
                          · replace H := (if_pos (of_decide_eq_true hb242)).symm.trans H
                            refine W_seq ?_
                            refine W_reg (by kernel_rfl) ?_
                            refine wla rfl rfl (q_move (v := (i64 r139.2)) rfl s11_214) ?_
                            refine wla rfl rfl (q_eqI rfl rfl rfl) ?_
                            refine wlb rfl rfl (q_move (v := (.bool ((decide (r139.2 = 2))))) rfl rfl) (fun hb243 => ?_) (fun hb243 => ?_)
                            · replace H := (if_pos (of_decide_eq_true hb243)).symm.trans H
                              refine wla rfl rfl (q_move (v := v139_0) rfl s10_214) ?_
                              refine wla rfl rfl (q_len rfl T22.sl rfl i1_214) ?_
                              refine wla rfl rfl (q_eqI rfl rfl rfl) ?_
                              refine wla rfl rfl (q_pick_t (v := (.bool ((decide ((r139.1.length : Int) = 0))))) rfl rfl rfl) ?_
                              refine wla rfl rfl (q_assign (v := (.bool ((decide ((r139.1.length : Int) = 0))))) rfl rfl) ?_
                              refine wl_nil ?_
                              refine W_th ?_
                              refine W_ret ?_
                              refine bk_r ?_
                              refine th_r ?_
                              obtain rfl := Option.some.inj H
                              refine rt1 (.bool ((decide ((r139.1.length : Int) = 0)))) rfl rfl rfl s163_214 ?_
                              exact ⟨rfl, e218⟩
                            · replace H := (if_neg (of_decide_eq_false hb243)).symm.trans H
                              refine wlk rfl rfl ?_
                              refine wlk rfl rfl ?_
                              refine wlk rfl rfl ?_
                              refine wla rfl rfl (q_pick_f (v := (.bool false)) rfl rfl rfl) ?_
                              refine wla rfl rfl (q_assign (v := (.bool false)) rfl rfl) ?_
                              refine wl_nil ?_
                              refine W_th ?_
                              refine W_ret ?_
                              refine bk_r ?_
                              refine th_r ?_
                              obtain rfl := Option.some.inj H
                              refine rt1 (.bool false) rfl rfl rfl s163_214 ?_
                              exact ⟨rfl, e218⟩
                          · replace H := (if_neg (of_decide_eq_false hb242)).symm.trans H
                            refine W_seq ?_
                            refine W_reg (by kernel_rfl) ?_
                            refine wla rfl rfl (q_move (v := p1) rfl s1_214) ?_
                            obtain ⟨r244, hr244, H⟩ := Option.bind_eq_some_iff.1 H
                            refine wls rfl rfl (stp_call (vs := [p1]) Try.func32 rfl rfl rfl (ar1 rfl) (law09_unlike_calls a1parts p1 r244 _ (hp1.lift (Lift.ext e218 _)) hr244) ?_)
                            rintro _ w244 ⟨rfl, x244⟩
                            refine ⟨_, rfl, ?_⟩
                            replace i0_214 := i0_214.lift (Lift.ext x244 _)
                            replace i1_214 := i1_214.lift (Lift.ext x244 _)
                            replace i215_0 := i215_0.lift (Lift.ext x244 _)
                            replace i217_0 := i217_0.lift (Lift.ext x244 _)
                            have e245 := e218.trans x244
                            refine wla rfl rfl (q_assign (v := (.bool r244)) rfl rfl) ?_
                            refine wl_nil ?_
                            refine W_th ?_
                            refine W_cond _ rfl rfl (fun hb246 => ?_) (fun hb246 => ?_)
                            · replace H := (if_pos hb246).symm.trans H
                              refine W_seq ?_
                              refine W_reg (by kernel_rfl) ?_
                              refine wla rfl rfl (q_move (v := (i64 r139.2)) rfl s11_214) ?_
                              refine wla rfl rfl (q_eqI rfl rfl rfl) ?_
                              refine wlb rfl rfl (q_move (v := (.bool ((decide (r139.2 = 3))))) rfl rfl) (fun hb247 => ?_) (fun hb247 => ?_)
                              · replace H := (if_pos (of_decide_eq_true hb247)).symm.trans H
                                refine wla rfl rfl (q_move (v := v139_0) rfl s10_214) ?_
                                refine wla rfl rfl (q_len rfl T22.sl rfl i1_214) ?_
                                refine wla rfl rfl (q_eqI rfl rfl rfl) ?_
                                refine wla rfl rfl (q_pick_t (v := (.bool ((decide ((r139.1.length : Int) = 0))))) rfl rfl rfl) ?_
                                refine wla rfl rfl (q_assign (v := (.bool ((decide ((r139.1.length : Int) = 0))))) rfl rfl) ?_
                                refine wl_nil ?_
                                refine W_th ?_
                                refine W_ret ?_
                                refine bk_r ?_
                                refine th_r ?_
                                obtain rfl := Option.some.inj H
                                refine rt1 (.bool ((decide ((r139.1.length : Int) = 0)))) rfl rfl rfl s163_214 ?_
                                exact ⟨rfl, e245⟩
                              · replace H := (if_neg (of_decide_eq_false hb247)).symm.trans H
                                refine wlk rfl rfl ?_
                                refine wlk rfl rfl ?_
                                refine wlk rfl rfl ?_
                                refine wla rfl rfl (q_pick_f (v := (.bool false)) rfl rfl rfl) ?_
                                refine wla rfl rfl (q_assign (v := (.bool false)) rfl rfl) ?_
                                refine wl_nil ?_
                                refine W_th ?_
                                refine W_ret ?_
                                refine bk_r ?_
                                refine th_r ?_
                                obtain rfl := Option.some.inj H
                                refine rt1 (.bool false) rfl rfl rfl s163_214 ?_
                                exact ⟨rfl, e245⟩
                            · replace H := (if_neg (ne_true_of_eq_false hb246)).symm.trans H
                              refine W_skip ?_
                              refine bk_n ?_
                              refine W_th ?_
                              refine W_seq ?_
                              refine W_draw [4, 8] [(0, 0), (1, 0), (2, 0), (3, 0), (4, 1), (5, 0), (6, 0), (7, 2), (8, 1), (9, 0), (10, 0), (11, 0)] mixed (by kernel_rfl) (by kernel_rfl) (by kernel_rfl) (by kernel_rfl) ?_
                              have x248 := Ext.drew w244
                              replace i0_214 := i0_214.lift (Lift.ext x248 _)
                              replace i1_214 := i1_214.lift (Lift.ext x248 _)
                              replace i215_0 := i215_0.lift (Lift.ext x248 _)
                              replace i217_0 := i217_0.lift (Lift.ext x248 _)
                              have e249 := e245.trans x248
                              refine wsa rfl rfl rfl (q_move (v := (i64 r139.2)) rfl s11_214) ?_
                              refine wsa rfl rfl rfl (q_eqI rfl rfl rfl) ?_
                              refine wsb rfl rfl rfl (q_move (v := (.bool ((decide (r139.2 = 0))))) rfl rfl) (fun hb250 => ?_) (fun hb250 => ?_)
                              · replace H := (if_pos (of_decide_eq_true hb250)).symm.trans H
                                refine wsa rfl rfl rfl (q_move (v := v139_0) rfl s10_214) ?_
                                refine wsq rfl rfl rfl (q_str rfl T22 rfl rfl rfl i1_214) ?_
                                refine wsa rfl rfl rfl (q_move (v := p1) rfl s1_214) ?_
                                refine wsa rfl rfl rfl (q_move (v := (i64 a2x)) rfl s2_214) ?_
                                obtain ⟨r251, hr251, H⟩ := Option.bind_eq_some_iff.1 H
                                refine wss rfl rfl rfl (stp_call (vs := [p1, (i64 a2x)]) Try.func35 rfl rfl rfl (ar2 rfl rfl) (ref09_Piece_calls a1parts a2x p1 r251 _ (hp1.lift (Lift.ext e249 _)) hr251) ?_)
                                rintro _ w251 ⟨v251, rfl, x251, n251_0, o251_0⟩
                                refine ⟨_, rfl, x251, ?_⟩
                                have i251_0 : By w251 [] v251 r251 := OwK.slk (Sc.stab _) _ (OwK.scal o251_0 (v251 :: [])) (fun k hk => (Old.nil _) k (n251_0 k hk)) (fun _ h => h.2)
                                replace i0_214 := i0_214.lift (Lift.ext x251 _)
                                replace i1_214 := i1_214.lift (Lift.ext x251 _)
                                replace i215_0 := i215_0.lift (Lift.ext x251 _)
                                replace i217_0 := i217_0.lift (Lift.ext x251 _)
                                have e252 := e249.trans x251
                                refine wsq rfl rfl rfl (q_str rfl T22 rfl rfl rfl i251_0) ?_
                                refine wsa rfl rfl rfl (q_eqS rfl rfl rfl) ?_
                                refine wsa rfl rfl rfl (q_pick_t (v := (.bool ((decide (r139.1 = r251))))) rfl rfl rfl) ?_
                                refine wsa rfl rfl rfl (q_assign (v := (.bool ((decide (r139.1 = r251))))) rfl rfl) ?_
                                refine ws_nil ?_
                                refine W_th ?_
                                refine W_ret ?_
                                obtain rfl := Option.some.inj H
                                refine rt1 (.bool ((decide (r139.1 = r251)))) rfl rfl rfl s163_214 ?_
                                exact ⟨rfl, e252⟩
                              · replace H := (if_neg (of_decide_eq_false hb250)).symm.trans H
                                refine wsk rfl rfl rfl ?_
                                refine wsk rfl rfl rfl ?_
                                refine wsk rfl rfl rfl ?_
                                refine wsk rfl rfl rfl ?_
                                refine wsk rfl rfl rfl ?_
                                refine wsk rfl rfl rfl ?_
                                refine wsk rfl rfl rfl ?_
                                refine wsa rfl rfl rfl (q_pick_f (v := (.bool false)) rfl rfl rfl) ?_
                                refine wsa rfl rfl rfl (q_assign (v := (.bool false)) rfl rfl) ?_
                                refine ws_nil ?_
                                refine W_th ?_
                                refine W_ret ?_
                                obtain rfl := Option.some.inj H
                                refine rt1 (.bool false) rfl rfl rfl s163_214 ?_
                                exact ⟨rfl, e249⟩

end Gk

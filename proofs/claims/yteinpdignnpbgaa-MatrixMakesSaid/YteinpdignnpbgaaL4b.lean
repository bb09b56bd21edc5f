/- Printed by gen.py: for each Go function a pure function, and that the Go code comes to it. No condition beside the equation that says what the pure function gives. -/
import Derived.Test.YteinpdignnpbgaaL4a
set_option linter.unusedVariables false
set_option linter.unusedSimpArgs false
namespace Gk
open Go Go.Proofs

/-! largesse/largesselaw04.MatrixMakes -/
noncomputable def law04_MatrixMakes (a0l : List (List UInt8)) (a1pick : List Int) : Option Bool :=
((law04_lives ).bind fun r1 =>
(if (!r1) = true then
((law04_lives ).bind fun r4 => some r4)
else
((law04_few a0l).bind fun r6 =>
(if (!r6) = true then
((law04_lives ).bind fun r9 => some r9)
else
(if 70 < (a1pick.length : Int) then
((law04_lives ).bind fun r12 => some r12)
else
((matrix_New a0l).bind fun r14 =>
(((if (a0l.length : Int) = 0 then some 2
else
(if 64 < (a0l.length : Int) then some 2
else
((idx a0l 0).bind fun c19 =>
(if (c19.length : Int) = 0 then some 2
else
(if 64 < (c19.length : Int) then some 2
else
((iterC (fun s24 : Int × Int =>
(if s24.2 < (a0l.length : Int) then
((idx a0l s24.2).bind fun c27 =>
((idx a0l 0).bind fun c29 =>
(if (c27.length : Int) = (c29.length : Int) then some (.inl (s24.1, (wI (s24.2 + 1))))
else some (.inl (1, (wI (s24.2 + 1)))))))
else some (.inr s24.1))) (0, 0)).bind fun x24 => some x24))))))).bind fun x16 =>
(if r14.2 = x16 then
(if x16 = 0 then
((matrix_Pick r14.1 a1pick).bind fun r46 =>
(if 1 ≤ (a1pick.length : Int) then
((iterC (fun s49 : Bool × Int =>
(if s49.2 < (a1pick.length : Int) then
((idx a1pick s49.2).bind fun c52 =>
(if s49.1 = true then
(if 0 ≤ c52 then some (.inl ((decide (c52 < (a0l.length : Int))), (wI (s49.2 + 1))))
else some (.inl (false, (wI (s49.2 + 1)))))
else some (.inl (false, (wI (s49.2 + 1))))))
else some (.inr s49.1))) ((decide ((a1pick.length : Int) ≤ 64)), 0)).bind fun x49 =>
(if (!(((decide (r46.2 = 0))) == x49)) = true then some false
else
(if (!x49) = true then
(if r46.2 = 2 then
((law04_rows r14.1).bind fun r60 =>
((law04_same r60 a0l).bind fun r62 =>
(if (!r62) = true then some false
else
((law04_rows r46.1).bind fun r65 =>
((iterC (fun s67 : Int =>
(if s67 < (r65.length : Int) then
((idx r65 s67).bind fun c70 =>
((idx a1pick s67).bind fun c74 =>
((idx a0l c74).bind fun c75 =>
(if c70 = c75 then some (.inl (wI (s67 + 1)))
else some (.inr (.inr false))))))
else some (.inr (.inl ())))) 0).bind (Sum.elim (fun y67 =>
((matrix_Row r14.1 (-1)).bind fun r80 =>
((matrix_Row r14.1 (a0l.length : Int)).bind fun r82 => some (decide ((wI ((r80.length : Int) + (r82.length : Int))) = 0))))) (fun q67 => some q67)))))))
else some false)
else
((law04_rows r14.1).bind fun r85 =>
((law04_same r85 a0l).bind fun r87 =>
(if (!r87) = true then some false
else
((law04_rows r46.1).bind fun r90 =>
((iterC (fun s92 : Int =>
(if s92 < (r90.length : Int) then
((idx r90 s92).bind fun c95 =>
((idx a1pick s92).bind fun c99 =>
((idx a0l c99).bind fun c100 =>
(if c95 = c100 then some (.inl (wI (s92 + 1)))
else some (.inr (.inr false))))))
else some (.inr (.inl ())))) 0).bind (Sum.elim (fun y92 =>
((matrix_Row r14.1 (-1)).bind fun r105 =>
((matrix_Row r14.1 (a0l.length : Int)).bind fun r107 => some (decide ((wI ((r105.length : Int) + (r107.length : Int))) = 0))))) (fun q92 => some q92))))))))))
else
((iterC (fun s111 : Bool × Int =>
(if s111.2 < (a1pick.length : Int) then
((idx a1pick s111.2).bind fun c114 =>
(if s111.1 = true then
(if 0 ≤ c114 then some (.inl ((decide (c114 < (a0l.length : Int))), (wI (s111.2 + 1))))
else some (.inl (false, (wI (s111.2 + 1)))))
else some (.inl (false, (wI (s111.2 + 1))))))
else some (.inr s111.1))) (false, 0)).bind fun x111 =>
(if (!(((decide (r46.2 = 0))) == x111)) = true then some false
else
(if (!x111) = true then
(if r46.2 = 2 then
((law04_rows r14.1).bind fun r122 =>
((law04_same r122 a0l).bind fun r124 =>
(if (!r124) = true then some false
else
((law04_rows r46.1).bind fun r127 =>
((iterC (fun s129 : Int =>
(if s129 < (r127.length : Int) then
((idx r127 s129).bind fun c132 =>
((idx a1pick s129).bind fun c136 =>
((idx a0l c136).bind fun c137 =>
(if c132 = c137 then some (.inl (wI (s129 + 1)))
else some (.inr (.inr false))))))
else some (.inr (.inl ())))) 0).bind (Sum.elim (fun y129 =>
((matrix_Row r14.1 (-1)).bind fun r142 =>
((matrix_Row r14.1 (a0l.length : Int)).bind fun r144 => some (decide ((wI ((r142.length : Int) + (r144.length : Int))) = 0))))) (fun q129 => some q129)))))))
else some false)
else
((law04_rows r14.1).bind fun r147 =>
((law04_same r147 a0l).bind fun r149 =>
(if (!r149) = true then some false
else
((law04_rows r46.1).bind fun r152 =>
((iterC (fun s154 : Int =>
(if s154 < (r152.length : Int) then
((idx r152 s154).bind fun c157 =>
((idx a1pick s154).bind fun c161 =>
((idx a0l c161).bind fun c162 =>
(if c157 = c162 then some (.inl (wI (s154 + 1)))
else some (.inr (.inr false))))))
else some (.inr (.inl ())))) 0).bind (Sum.elim (fun y154 =>
((matrix_Row r14.1 (-1)).bind fun r167 =>
((matrix_Row r14.1 (a0l.length : Int)).bind fun r169 => some (decide ((wI ((r167.length : Int) + (r169.length : Int))) = 0))))) (fun q154 => some q154))))))))))))
else
((matrix_Size r14.1).bind fun r42 =>
(if r14.2 = x16 then
(if r14.1.isNone = true then some (decide ((wI (r42.1 + r42.2)) = 0))
else some false)
else some false)))
else
((matrix_Size r14.1).bind fun r37 =>
(if r14.2 = x16 then
(if r14.1.isNone = true then some (decide ((wI (r37.1 + r37.2)) = 0))
else some false)
else some false))))))))))
set_option maxRecDepth 100000 in
set_option maxHeartbeats 8000000 in
theorem law04_MatrixMakes_calls (a0l : List (List UInt8)) (a1pick : List Int) (p0 : Value) (p1 : Value) (r : Bool) (w0 : World) (hp0 : Rw w0 [] p0 a0l) (hp1 : In w0 [] p1 a1pick) (H : law04_MatrixMakes a0l a1pick = some r) :
    Calls Try.prog 9 [p0, p1].toArray w0 (fun e w' => e = .returned (.bool r) ∧ Ext w0 w') := by
  have hE : Ext w0 w0 := Ext.refl w0
  unfold law04_MatrixMakes at H
  refine calls_W (n := 180) Try.func9 rfl rfl rfl ?_
  refine W_seq ?_
  refine W_reg (by kernel_rfl) ?_
  refine wla rfl rfl (q_assign (v := (.bool false)) rfl rfl) ?_
  refine wl_nil ?_
  refine W_th ?_
  refine W_seq ?_
  refine W_seq ?_
  refine W_reg (by kernel_rfl) ?_
  obtain ⟨r1, hr1, H⟩ := Option.bind_eq_some_iff.1 H
  refine wls rfl rfl (stp_call (vs := []) Try.func36 rfl rfl rfl (ar0 ) (law04_lives_calls   r1 _  hr1) ?_)
  rintro _ w1 ⟨rfl, x1⟩
  refine ⟨_, rfl, ?_⟩
  have e2 := hE.trans x1
  refine wla rfl rfl (q_not rfl rfl) ?_
  refine wlb rfl rfl (q_move (v := (.bool ((!r1)))) rfl rfl) (fun hb3 => ?_) (fun hb3 => ?_)
  · replace H := (if_pos hb3).symm.trans H
    refine wlk rfl rfl ?_
    refine wlk rfl rfl ?_
    refine wlk rfl rfl ?_
    refine wla rfl rfl (q_pick_t (v := (.bool true)) rfl rfl rfl) ?_
    refine wla rfl rfl (q_move (v := (.bool true)) rfl rfl) ?_
    refine wlk rfl rfl ?_
    refine wlk rfl rfl ?_
    refine wlk rfl rfl ?_
    refine wla rfl rfl (q_pick_t (v := (.bool true)) rfl rfl rfl) ?_
    refine wl_nil ?_
    refine W_th ?_
    refine W_cond true rfl rfl (fun _ => ?_) (fun hb => by cases hb)
    refine W_seq ?_
    refine W_reg (by kernel_rfl) ?_
    obtain ⟨r4, hr4, H⟩ := Option.bind_eq_some_iff.1 H
    refine wls rfl rfl (stp_call (vs := []) Try.func36 rfl rfl rfl (ar0 ) (law04_lives_calls   r4 _  hr4) ?_)
    rintro _ w4 ⟨rfl, x4⟩
    refine ⟨_, rfl, ?_⟩
    have e5 := e2.trans x4
    refine wla rfl rfl (q_assign (v := (.bool r4)) rfl rfl) ?_
    refine wl_nil ?_
    refine W_th ?_
    refine W_ret ?_
    refine th_r ?_
    obtain rfl := Option.some.inj H
    refine rt1 (.bool r4) rfl rfl rfl rfl ?_
    exact ⟨rfl, e5⟩
  · replace H := (if_neg (ne_true_of_eq_false hb3)).symm.trans H
    refine wla rfl rfl (q_move (v := p0) rfl rfl) ?_
    obtain ⟨r6, hr6, H⟩ := Option.bind_eq_some_iff.1 H
    refine wls rfl rfl (stp_call (vs := [p0]) Try.func37 rfl rfl rfl (ar1 rfl) (law04_few_calls a0l p0 r6 _ (hp0.lift (Lift.ext e2 _)) hr6) ?_)
    rintro _ w6 ⟨rfl, x6⟩
    refine ⟨_, rfl, ?_⟩
    have e7 := e2.trans x6
    refine wla rfl rfl (q_not rfl rfl) ?_
    refine wla rfl rfl (q_pick_f (v := (.bool ((!r6)))) rfl rfl rfl) ?_
    refine wlb rfl rfl (q_move (v := (.bool ((!r6)))) rfl rfl) (fun hb8 => ?_) (fun hb8 => ?_)
    · replace H := (if_pos hb8).symm.trans H
      refine wlk rfl rfl ?_
      refine wlk rfl rfl ?_
      refine wlk rfl rfl ?_
      refine wla rfl rfl (q_pick_t (v := (.bool true)) rfl rfl rfl) ?_
      refine wl_nil ?_
      refine W_th ?_
      refine W_cond true rfl rfl (fun _ => ?_) (fun hb => by cases hb)
      refine W_seq ?_
      refine W_reg (by kernel_rfl) ?_
      obtain ⟨r9, hr9, H⟩ := Option.bind_eq_some_iff.1 H
      refine wls rfl rfl (stp_call (vs := []) Try.func36 rfl rfl rfl (ar0 ) (law04_lives_calls   r9 _  hr9) ?_)
      rintro _ w9 ⟨rfl, x9⟩
      refine ⟨_, rfl, ?_⟩
      have e10 := e7.trans x9
      refine wla rfl rfl (q_assign (v := (.bool r9)) rfl rfl) ?_
      refine wl_nil ?_
      refine W_th ?_
      refine W_ret ?_
      refine th_r ?_
      obtain rfl := Option.some.inj H
      refine rt1 (.bool r9) rfl rfl rfl rfl ?_
      exact ⟨rfl, e10⟩
    · replace H := (if_neg (ne_true_of_eq_false hb8)).symm.trans H
      refine wla rfl rfl (q_move (v := p1) rfl rfl) ?_
      refine wla rfl rfl (q_len rfl T47.sl rfl (hp1.lift (Lift.ext e7 _))) ?_
      refine wla rfl rfl (q_gtI rfl rfl rfl) ?_
      refine wla rfl rfl (q_pick_f (v := (.bool ((decide (70 < (a1pick.length : Int)))))) rfl rfl rfl) ?_
      refine wl_nil ?_
      refine W_th ?_
      refine W_cond _ rfl rfl (fun hb11 => ?_) (fun hb11 => ?_)
      · replace H := (if_pos (of_decide_eq_true hb11)).symm.trans H
        refine W_seq ?_
        refine W_reg (by kernel_rfl) ?_
        obtain ⟨r12, hr12, H⟩ := Option.bind_eq_some_iff.1 H
        refine wls rfl rfl (stp_call (vs := []) Try.func36 rfl rfl rfl (ar0 ) (law04_lives_calls   r12 _  hr12) ?_)
        rintro _ w12 ⟨rfl, x12⟩
        refine ⟨_, rfl, ?_⟩
        have e13 := e7.trans x12
        refine wla rfl rfl (q_assign (v := (.bool r12)) rfl rfl) ?_
        refine wl_nil ?_
        refine W_th ?_
        refine W_ret ?_
        refine th_r ?_
        obtain rfl := Option.some.inj H
        refine rt1 (.bool r12) rfl rfl rfl rfl ?_
        exact ⟨rfl, e13⟩
      · replace H := (if_neg (of_decide_eq_false hb11)).symm.trans H
        refine W_skip ?_
        refine W_th ?_
        refine W_seq ?_
        refine W_reg (by kernel_rfl) ?_
        refine wla rfl rfl (q_move (v := p0) rfl rfl) ?_
        obtain ⟨r14, hr14, H⟩ := Option.bind_eq_some_iff.1 H
        refine wls rfl rfl (stp_call (vs := [p0]) Try.func38 rfl rfl rfl (ar1 rfl) (matrix_New_calls a0l p0 r14 _ [] (Old.nil _) (hp0.lift (Lift.ext e7 _)) hr14) ?_)
        rintro _ w14 ⟨v14_0, rfl, x14, i14_0⟩
        refine ⟨_, rfl, ?_⟩
        have e15 := e7.trans x14
        refine wla rfl rfl (q_move (v := (.tuple #[v14_0, (i64 r14.2)])) rfl rfl) ?_
        refine wla rfl rfl (q_extract rfl rfl rfl) ?_
        refine wla rfl rfl (q_extract rfl rfl rfl) ?_
        refine wla rfl rfl (q_assign (v := v14_0) rfl rfl) ?_
        refine wla rfl rfl (q_assign (v := (i64 r14.2)) rfl rfl) ?_
        refine wl_nil ?_
        refine W_th ?_
        refine W_seq ?_
        refine W_reg (by kernel_rfl) ?_
        refine wla rfl rfl (q_assign (v := (i64 0)) rfl rfl) ?_
        refine wl_nil ?_
        refine W_th ?_
        refine W_seq ?_
        obtain ⟨x16, H16, H⟩ := Option.bind_eq_some_iff.1 H
        refine W_mid (fun f w => f 0 = p0 ∧ f 1 = p1 ∧ f 5 = v14_0 ∧ f 6 = (i64 r14.2) ∧ f 7 = (i64 x16) ∧ f 180 = undef ∧ Ext w0 w ∧ Mx w [] v14_0 r14.1) ?_ ?_
        · refine W_block ?_
          refine W_seq ?_
          refine W_reg (by kernel_rfl) ?_
          refine wla rfl rfl (q_move (v := p0) rfl rfl) ?_
          refine wla rfl rfl (q_len rfl T46.sl rfl (hp0.lift (Lift.ext e15 _))) ?_
          refine wla rfl rfl (q_eqI rfl rfl rfl) ?_
          refine wlb rfl rfl (q_move (v := (.bool ((decide ((a0l.length : Int) = 0))))) rfl rfl) (fun hb17 => ?_) (fun hb17 => ?_)
          · replace H16 := (if_pos (of_decide_eq_true hb17)).symm.trans H16
            refine wlk rfl rfl ?_
            refine wlk rfl rfl ?_
            refine wlk rfl rfl ?_
            refine wla rfl rfl (q_pick_t (v := (.bool true)) rfl rfl rfl) ?_
            refine wla rfl rfl (q_move (v := (.bool true)) rfl rfl) ?_
            refine wlk rfl rfl ?_
            refine wlk rfl rfl ?_
            refine wlk rfl rfl ?_
            refine wlk rfl rfl ?_
            refine wlk rfl rfl ?_
            refine wla rfl rfl (q_pick_t (v := (.bool true)) rfl rfl rfl) ?_
            refine wla rfl rfl (q_move (v := (.bool true)) rfl rfl) ?_
            refine wlk rfl rfl ?_
            refine wlk rfl rfl ?_
            refine wlk rfl rfl ?_
            refine wlk rfl rfl ?_
            refine wlk rfl rfl ?_
            refine wla rfl rfl (q_pick_t (v := (.bool true)) rfl rfl rfl) ?_
            refine wla rfl rfl (q_assign (v := (.bool true)) rfl rfl) ?_
            refine wl_nil ?_
            refine W_th ?_
            refine W_cond true rfl rfl (fun _ => ?_) (fun hb => by cases hb)
            refine W_reg (by kernel_rfl) ?_
            refine wla rfl rfl (q_assign (v := (i64 2)) rfl rfl) ?_
            refine wl_nil ?_
            refine bk_n ?_
            obtain rfl := Option.some.inj H16
            exact ⟨rfl, rfl, rfl, rfl, rfl, rfl, e15, i14_0⟩
          · replace H16 := (if_neg (of_decide_eq_false hb17)).symm.trans H16
            refine wla rfl rfl (q_move (v := p0) rfl rfl) ?_
            refine wla rfl rfl (q_len rfl T46.sl rfl (hp0.lift (Lift.ext e15 _))) ?_
            refine wla rfl rfl (q_gtI rfl rfl rfl) ?_
            refine wla rfl rfl (q_pick_f (v := (.bool ((decide (64 < (a0l.length : Int)))))) rfl rfl rfl) ?_
            refine wlb rfl rfl (q_move (v := (.bool ((decide (64 < (a0l.length : Int)))))) rfl rfl) (fun hb18 => ?_) (fun hb18 => ?_)
            · replace H16 := (if_pos (of_decide_eq_true hb18)).symm.trans H16
              refine wlk rfl rfl ?_
              refine wlk rfl rfl ?_
              refine wlk rfl rfl ?_
              refine wlk rfl rfl ?_
              refine wlk rfl rfl ?_
              refine wla rfl rfl (q_pick_t (v := (.bool true)) rfl rfl rfl) ?_
              refine wla rfl rfl (q_move (v := (.bool true)) rfl rfl) ?_
              refine wlk rfl rfl ?_
              refine wlk rfl rfl ?_
              refine wlk rfl rfl ?_
              refine wlk rfl rfl ?_
              refine wlk rfl rfl ?_
              refine wla rfl rfl (q_pick_t (v := (.bool true)) rfl rfl rfl) ?_
              refine wla rfl rfl (q_assign (v := (.bool true)) rfl rfl) ?_
              refine wl_nil ?_
              refine W_th ?_
              refine W_cond true rfl rfl (fun _ => ?_) (fun hb => by cases hb)
              refine W_reg (by kernel_rfl) ?_
              refine wla rfl rfl (q_assign (v := (i64 2)) rfl rfl) ?_
              refine wl_nil ?_
              refine bk_n ?_
              obtain rfl := Option.some.inj H16
              exact ⟨rfl, rfl, rfl, rfl, rfl, rfl, e15, i14_0⟩
            · replace H16 := (if_neg (of_decide_eq_false hb18)).symm.trans H16
              refine wla rfl rfl (q_move (v := p0) rfl rfl) ?_
              obtain ⟨c19, hc19, H16⟩ := Option.bind_eq_some_iff.1 H16
              refine wla rfl rfl (q_adr rfl T46 rfl rfl (hp0.lift (Lift.ext e15 _)) hc19) ?_
              refine wlq_load rfl rfl rfl T46 rfl hp0 hc19 e15 (fun v20 ha20 => ?_)
              refine wla rfl rfl (q_len rfl T22.sl rfl (ha20.lift (Lift.ext e15 _))) ?_
              refine wla rfl rfl (q_eqI rfl rfl rfl) ?_
              refine wla rfl rfl (q_pick_f (v := (.bool ((decide ((c19.length : Int) = 0))))) rfl rfl rfl) ?_
              refine wlb rfl rfl (q_move (v := (.bool ((decide ((c19.length : Int) = 0))))) rfl rfl) (fun hb21 => ?_) (fun hb21 => ?_)
              · replace H16 := (if_pos (of_decide_eq_true hb21)).symm.trans H16
                refine wlk rfl rfl ?_
                refine wlk rfl rfl ?_
                refine wlk rfl rfl ?_
                refine wlk rfl rfl ?_
                refine wlk rfl rfl ?_
                refine wla rfl rfl (q_pick_t (v := (.bool true)) rfl rfl rfl) ?_
                refine wla rfl rfl (q_assign (v := (.bool true)) rfl rfl) ?_
                refine wl_nil ?_
                refine W_th ?_
                refine W_cond true rfl rfl (fun _ => ?_) (fun hb => by cases hb)
                refine W_reg (by kernel_rfl) ?_
                refine wla rfl rfl (q_assign (v := (i64 2)) rfl rfl) ?_
                refine wl_nil ?_
                refine bk_n ?_
                obtain rfl := Option.some.inj H16
                exact ⟨rfl, rfl, rfl, rfl, rfl, rfl, e15, i14_0⟩
              · replace H16 := (if_neg (of_decide_eq_false hb21)).symm.trans H16
                refine wla rfl rfl (q_move (v := p0) rfl rfl) ?_
                refine wla rfl rfl (q_adr rfl T46 rfl rfl (hp0.lift (Lift.ext e15 _)) hc19) ?_
                refine wlq_load rfl rfl rfl T46 rfl hp0 hc19 e15 (fun v22 ha22 => ?_)
                refine wla rfl rfl (q_len rfl T22.sl rfl (ha22.lift (Lift.ext e15 _))) ?_
                refine wla rfl rfl (q_gtI rfl rfl rfl) ?_
                refine wla rfl rfl (q_pick_f (v := (.bool ((decide (64 < (c19.length : Int)))))) rfl rfl rfl) ?_
                refine wla rfl rfl (q_assign (v := (.bool ((decide (64 < (c19.length : Int)))))) rfl rfl) ?_
                refine wl_nil ?_
                refine W_th ?_
                refine W_cond _ rfl rfl (fun hb23 => ?_) (fun hb23 => ?_)
                · replace H16 := (if_pos (of_decide_eq_true hb23)).symm.trans H16
                  refine W_reg (by kernel_rfl) ?_
                  refine wla rfl rfl (q_assign (v := (i64 2)) rfl rfl) ?_
                  refine wl_nil ?_
                  refine bk_n ?_
                  obtain rfl := Option.some.inj H16
                  exact ⟨rfl, rfl, rfl, rfl, rfl, rfl, e15, i14_0⟩
                · replace H16 := (if_neg (of_decide_eq_false hb23)).symm.trans H16
                  refine W_seq ?_
                  refine W_reg (by kernel_rfl) ?_
                  refine wla rfl rfl (q_move (v := p0) rfl rfl) ?_
                  refine wla rfl rfl (q_len rfl T46.sl rfl (hp0.lift (Lift.ext e15 _))) ?_
                  refine wla rfl rfl (q_move (v := (i64 0)) rfl rfl) ?_
                  refine wl_nil ?_
                  refine W_th ?_
                  obtain ⟨x24, G24, H16⟩ := Option.bind_eq_some_iff.1 H16
                  refine W_mid (fun f w => f 0 = p0 ∧ f 1 = p1 ∧ f 5 = v14_0 ∧ f 6 = (i64 r14.2) ∧ f 7 = (i64 x24) ∧ f 180 = undef ∧ Ext w0 w ∧ Mx w [] v14_0 r14.1) ?_ ?_
                  · refine W_block ?_
                    refine W_loop (fun s24 f w => f 0 = p0 ∧ f 1 = p1 ∧ f 5 = v14_0 ∧ f 6 = (i64 r14.2) ∧ f 7 = (i64 s24.1) ∧ f 37 = p0 ∧ f 38 = (i64 ((a0l.length : Int))) ∧ f 39 = (i64 s24.2) ∧ f 180 = undef ∧ Ext w0 w ∧ Mx w [] v14_0 r14.1) G24 ?_ ?_
                    · exact ⟨rfl, rfl, rfl, rfl, rfl, rfl, rfl, rfl, rfl, e15, i14_0⟩
                    · rintro s24 _ _ w25 ⟨s0_25, s1_25, s5_25, s6_25, s7_25, s37_25, s38_25, s39_25, s180_25, hE25, i0_25⟩ H24 hr24
                      refine W_seq ?_
                      refine W_reg (by kernel_rfl) ?_
                      refine wla rfl rfl (q_ltI rfl s39_25 s38_25) ?_
                      refine wl_nil ?_
                      refine W_th ?_
                      refine W_seq ?_
                      refine W_cond _ rfl rfl (fun hb26 => ?_) (fun hb26 => ?_)
                      · replace H24 := (if_pos (of_decide_eq_true hb26)).symm.trans H24
                        refine W_skip ?_
                        refine W_th ?_
                        refine W_seq ?_
                        refine W_block ?_
                        refine W_seq ?_
                        refine W_reg (by kernel_rfl) ?_
                        obtain ⟨c27, hc27, H24⟩ := Option.bind_eq_some_iff.1 H24
                        refine wla rfl rfl (q_adr rfl T46 s37_25 s39_25 (hp0.lift (Lift.ext hE25 _)) hc27) ?_
                        refine wlq_load rfl rfl rfl T46 rfl hp0 hc27 hE25 (fun v28 ha28 => ?_)
                        refine wla rfl rfl (q_assign (v := v28) rfl rfl) ?_
                        refine wl_nil ?_
                        refine W_th ?_
                        refine W_seq ?_
                        refine W_reg (by kernel_rfl) ?_
                        refine wla rfl rfl (q_move (v := v28) rfl rfl) ?_
                        refine wla rfl rfl (q_len rfl T22.sl rfl (ha28.lift (Lift.ext hE25 _))) ?_
                        refine wla rfl rfl (q_move (v := p0) rfl s0_25) ?_
                        obtain ⟨c29, hc29, H24⟩ := Option.bind_eq_some_iff.1 H24
                        refine wla rfl rfl (q_adr rfl T46 rfl rfl (hp0.lift (Lift.ext hE25 _)) hc29) ?_
                        refine wlq_load rfl rfl rfl T46 rfl hp0 hc29 hE25 (fun v30 ha30 => ?_)
                        refine wla rfl rfl (q_len rfl T22.sl rfl (ha30.lift (Lift.ext hE25 _))) ?_
                        refine wla rfl rfl (q_neI rfl rfl rfl) ?_
                        refine wl_nil ?_
                        refine W_th ?_
                        refine W_cond _ rfl rfl (fun hb31 => ?_) (fun hb31 => ?_)
                        · replace H24 := (if_neg (ndec_t hb31)).symm.trans H24
                          refine W_reg (by kernel_rfl) ?_
                          refine wla rfl rfl (q_assign (v := (i64 1)) rfl rfl) ?_
                          refine wl_nil ?_
                          refine bk_n ?_
                          refine W_th ?_
                          refine W_reg (by kernel_rfl) ?_
                          refine wla rfl rfl (q_addI rfl s39_25 rfl) ?_
                          refine wla rfl rfl (q_move (v := (i64 ((wI (s24.2 + 1))))) rfl rfl) ?_
                          refine wl_nil ?_
                          obtain rfl := Option.some.inj H24
                          exact ⟨_, rfl, s0_25, s1_25, s5_25, s6_25, rfl, s37_25, s38_25, rfl, s180_25, hE25, i0_25⟩
                        · replace H24 := (if_pos (ndec_f hb31)).symm.trans H24
                          refine W_skip ?_
                          refine bk_n ?_
                          refine W_th ?_
                          refine W_reg (by kernel_rfl) ?_
                          refine wla rfl rfl (q_addI rfl s39_25 rfl) ?_
                          refine wla rfl rfl (q_move (v := (i64 ((wI (s24.2 + 1))))) rfl rfl) ?_
                          refine wl_nil ?_
                          obtain rfl := Option.some.inj H24
                          exact ⟨_, rfl, s0_25, s1_25, s5_25, s6_25, s7_25, s37_25, s38_25, rfl, s180_25, hE25, i0_25⟩
                      · replace H24 := (if_neg (of_decide_eq_false hb26)).symm.trans H24
                        refine W_exit ?_
                        refine th_x ?_
                        obtain rfl := Option.some.inj H24
                        obtain rfl := hr24 _ rfl
                        refine th_x ?_
                        refine bk_x ?_
                        exact ⟨s0_25, s1_25, s5_25, s6_25, s7_25, s180_25, hE25, i0_25⟩
                  · rintro _ w33 ⟨s0_33, s1_33, s5_33, s6_33, s7_33, s180_33, hE33, i0_33⟩
                    refine bk_n ?_
                    obtain rfl := Option.some.inj H16
                    exact ⟨s0_33, s1_33, s5_33, s6_33, s7_33, s180_33, hE33, i0_33⟩
        · rintro _ w35 ⟨s0_35, s1_35, s5_35, s6_35, s7_35, s180_35, hE35, i0_35⟩
          refine W_th ?_
          refine W_seq ?_
          refine W_seq ?_
          refine W_reg (by kernel_rfl) ?_
          refine wla rfl rfl (q_move (v := (i64 r14.2)) rfl s6_35) ?_
          refine wla rfl rfl (q_move (v := (i64 x16)) rfl s7_35) ?_
          refine wla rfl rfl (q_neI rfl rfl rfl) ?_
          refine wlb rfl rfl (q_move (v := (.bool ((!decide (r14.2 = x16))))) rfl rfl) (fun hb36 => ?_) (fun hb36 => ?_)
          · replace H := (if_neg (ndec_t hb36)).symm.trans H
            refine wlk rfl rfl ?_
            refine wlk rfl rfl ?_
            refine wla rfl rfl (q_pick_t (v := (.bool true)) rfl rfl rfl) ?_
            refine wl_nil ?_
            refine W_th ?_
            refine W_cond true rfl rfl (fun _ => ?_) (fun hb => by cases hb)
            refine W_seq ?_
            refine W_reg (by kernel_rfl) ?_
            refine wla rfl rfl (q_move (v := v14_0) rfl s5_35) ?_
            obtain ⟨r37, hr37, H⟩ := Option.bind_eq_some_iff.1 H
            refine wls rfl rfl (stp_call (vs := [v14_0]) Try.func39 rfl rfl rfl (ar1 rfl) (matrix_Size_calls r14.1 v14_0 r37 _ (i0_35.lift (Lift.sub (fun _ _ => trivial))) hr37) ?_)
            rintro _ w37 ⟨rfl, x37⟩
            refine ⟨_, rfl, ?_⟩
            replace i0_35 := i0_35.lift (Lift.ext x37 _)
            have e38 := hE35.trans x37
            refine wla rfl rfl (q_move (v := (.tuple #[(i64 r37.1), (i64 r37.2)])) rfl rfl) ?_
            refine wla rfl rfl (q_extract rfl rfl rfl) ?_
            refine wla rfl rfl (q_extract rfl rfl rfl) ?_
            refine wla rfl rfl (q_assign (v := (i64 r37.1)) rfl rfl) ?_
            refine wla rfl rfl (q_assign (v := (i64 r37.2)) rfl rfl) ?_
            refine wl_nil ?_
            refine W_th ?_
            refine W_seq ?_
            refine W_reg (by kernel_rfl) ?_
            refine wla rfl rfl (q_move (v := (i64 r14.2)) rfl s6_35) ?_
            refine wla rfl rfl (q_move (v := (i64 x16)) rfl s7_35) ?_
            refine wla rfl rfl (q_eqI rfl rfl rfl) ?_
            refine wlb rfl rfl (q_move (v := (.bool ((decide (r14.2 = x16))))) rfl rfl) (fun hb39 => ?_) (fun hb39 => ?_)
            · replace H := (if_pos (of_decide_eq_true hb39)).symm.trans H
              refine wla rfl rfl (q_move (v := v14_0) rfl s5_35) ?_
              refine wla rfl rfl (q_eqM rfl rfl rfl rfl i0_35) ?_
              refine wla rfl rfl (q_pick_t (v := (.bool r14.1.isNone)) rfl rfl rfl) ?_
              refine wlb rfl rfl (q_move (v := (.bool r14.1.isNone)) rfl rfl) (fun hb40 => ?_) (fun hb40 => ?_)
              · replace H := (if_pos hb40).symm.trans H
                refine wla rfl rfl (q_move (v := (i64 r37.1)) rfl rfl) ?_
                refine wla rfl rfl (q_move (v := (i64 r37.2)) rfl rfl) ?_
                refine wla rfl rfl (q_addI rfl rfl rfl) ?_
                refine wla rfl rfl (q_eqI rfl rfl rfl) ?_
                refine wla rfl rfl (q_pick_t (v := (.bool ((decide ((wI (r37.1 + r37.2)) = 0))))) rfl rfl rfl) ?_
                refine wla rfl rfl (q_assign (v := (.bool ((decide ((wI (r37.1 + r37.2)) = 0))))) rfl rfl) ?_
                refine wl_nil ?_
                refine W_th ?_
                refine W_ret ?_
                refine th_r ?_
                obtain rfl := Option.some.inj H
                refine rt1 (.bool ((decide ((wI (r37.1 + r37.2)) = 0)))) rfl rfl rfl s180_35 ?_
                exact ⟨rfl, e38⟩
              · replace H := (if_neg (ne_true_of_eq_false hb40)).symm.trans H
                refine wlk rfl rfl ?_
                refine wlk rfl rfl ?_
                refine wlk rfl rfl ?_
                refine wlk rfl rfl ?_
                refine wla rfl rfl (q_pick_f (v := (.bool false)) rfl rfl rfl) ?_
                refine wla rfl rfl (q_assign (v := (.bool false)) rfl rfl) ?_
                refine wl_nil ?_
                refine W_th ?_
                refine W_ret ?_
                refine th_r ?_
                obtain rfl := Option.some.inj H
                refine rt1 (.bool false) rfl rfl rfl s180_35 ?_
                exact ⟨rfl, e38⟩
            · replace H := (if_neg (of_decide_eq_false hb39)).symm.trans H
              refine wlk rfl rfl ?_
              refine wlk rfl rfl ?_
              refine wla rfl rfl (q_pick_f (v := (.bool false)) rfl rfl rfl) ?_
              refine wla rfl rfl (q_move (v := (.bool false)) rfl rfl) ?_
              refine wlk rfl rfl ?_
              refine wlk rfl rfl ?_
              refine wlk rfl rfl ?_
              refine wlk rfl rfl ?_
              refine wla rfl rfl (q_pick_f (v := (.bool false)) rfl rfl rfl) ?_
              refine wla rfl rfl (q_assign (v := (.bool false)) rfl rfl) ?_
              refine wl_nil ?_
              refine W_th ?_
              refine W_ret ?_
              refine th_r ?_
              obtain rfl := Option.some.inj H
              refine rt1 (.bool false) rfl rfl rfl s180_35 ?_
              exact ⟨rfl, e38⟩
          · replace H := (if_pos (ndec_f hb36)).symm.trans H
            refine wla rfl rfl (q_move (v := (i64 x16)) rfl s7_35) ?_
            refine wla rfl rfl (q_neI rfl rfl rfl) ?_
            refine wla rfl rfl (q_pick_f (v := (.bool ((!decide (x16 = 0))))) rfl rfl rfl) ?_
            refine wl_nil ?_
            refine W_th ?_
            refine W_cond _ rfl rfl (fun hb41 => ?_) (fun hb41 => ?_)
            · replace H := (if_neg (ndec_t hb41)).symm.trans H
              refine W_seq ?_
              refine W_reg (by kernel_rfl) ?_
              refine wla rfl rfl (q_move (v := v14_0) rfl s5_35) ?_
              obtain ⟨r42, hr42, H⟩ := Option.bind_eq_some_iff.1 H
              refine wls rfl rfl (stp_call (vs := [v14_0]) Try.func39 rfl rfl rfl (ar1 rfl) (matrix_Size_calls r14.1 v14_0 r42 _ (i0_35.lift (Lift.sub (fun _ _ => trivial))) hr42) ?_)
              rintro _ w42 ⟨rfl, x42⟩
              refine ⟨_, rfl, ?_⟩
              replace i0_35 := i0_35.lift (Lift.ext x42 _)
              have e43 := hE35.trans x42
              refine wla rfl rfl (q_move (v := (.tuple #[(i64 r42.1), (i64 r42.2)])) rfl rfl) ?_
              refine wla rfl rfl (q_extract rfl rfl rfl) ?_
              refine wla rfl rfl (q_extract rfl rfl rfl) ?_
              refine wla rfl rfl (q_assign (v := (i64 r42.1)) rfl rfl) ?_
              refine wla rfl rfl (q_assign (v := (i64 r42.2)) rfl rfl) ?_
              refine wl_nil ?_
              refine W_th ?_
              refine W_seq ?_
              refine W_reg (by kernel_rfl) ?_
              refine wla rfl rfl (q_move (v := (i64 r14.2)) rfl s6_35) ?_
              refine wla rfl rfl (q_move (v := (i64 x16)) rfl s7_35) ?_
              refine wla rfl rfl (q_eqI rfl rfl rfl) ?_
              refine wlb rfl rfl (q_move (v := (.bool ((decide (r14.2 = x16))))) rfl rfl) (fun hb44 => ?_) (fun hb44 => ?_)
              · replace H := (if_pos (of_decide_eq_true hb44)).symm.trans H
                refine wla rfl rfl (q_move (v := v14_0) rfl s5_35) ?_
                refine wla rfl rfl (q_eqM rfl rfl rfl rfl i0_35) ?_
                refine wla rfl rfl (q_pick_t (v := (.bool r14.1.isNone)) rfl rfl rfl) ?_
                refine wlb rfl rfl (q_move (v := (.bool r14.1.isNone)) rfl rfl) (fun hb45 => ?_) (fun hb45 => ?_)
                · replace H := (if_pos hb45).symm.trans H
                  refine wla rfl rfl (q_move (v := (i64 r42.1)) rfl rfl) ?_
                  refine wla rfl rfl (q_move (v := (i64 r42.2)) rfl rfl) ?_
                  refine wla rfl rfl (q_addI rfl rfl rfl) ?_
                  refine wla rfl rfl (q_eqI rfl rfl rfl) ?_
                  refine wla rfl rfl (q_pick_t (v := (.bool ((decide ((wI (r42.1 + r42.2)) = 0))))) rfl rfl rfl) ?_
                  refine wla rfl rfl (q_assign (v := (.bool ((decide ((wI (r42.1 + r42.2)) = 0))))) rfl rfl) ?_
                  refine wl_nil ?_
                  refine W_th ?_
                  refine W_ret ?_
                  refine th_r ?_
                  obtain rfl := Option.some.inj H
                  refine rt1 (.bool ((decide ((wI (r42.1 + r42.2)) = 0)))) rfl rfl rfl s180_35 ?_
                  exact ⟨rfl, e43⟩
                · replace H := (if_neg (ne_true_of_eq_false hb45)).symm.trans H
                  refine wlk rfl rfl ?_
                  refine wlk rfl rfl ?_
                  refine wlk rfl rfl ?_
                  refine wlk rfl rfl ?_
                  refine wla rfl rfl (q_pick_f (v := (.bool false)) rfl rfl rfl) ?_
                  refine wla rfl rfl (q_assign (v := (.bool false)) rfl rfl) ?_
                  refine wl_nil ?_
                  refine W_th ?_
                  refine W_ret ?_
                  refine th_r ?_
                  obtain rfl := Option.some.inj H
                  refine rt1 (.bool false) rfl rfl rfl s180_35 ?_
                  exact ⟨rfl, e43⟩
              · replace H := (if_neg (of_decide_eq_false hb44)).symm.trans H
                refine wlk rfl rfl ?_
                refine wlk rfl rfl ?_
                refine wla rfl rfl (q_pick_f (v := (.bool false)) rfl rfl rfl) ?_
                refine wla rfl rfl (q_move (v := (.bool false)) rfl rfl) ?_
                refine wlk rfl rfl ?_
                refine wlk rfl rfl ?_
                refine wlk rfl rfl ?_
                refine wlk rfl rfl ?_
                refine wla rfl rfl (q_pick_f (v := (.bool false)) rfl rfl rfl) ?_
                refine wla rfl rfl (q_assign (v := (.bool false)) rfl rfl) ?_
                refine wl_nil ?_
                refine W_th ?_
                refine W_ret ?_
                refine th_r ?_
                obtain rfl := Option.some.inj H
                refine rt1 (.bool false) rfl rfl rfl s180_35 ?_
                exact ⟨rfl, e43⟩
            · replace H := (if_pos (ndec_f hb41)).symm.trans H
              refine W_skip ?_
              refine W_th ?_
              refine W_seq ?_
              refine W_reg (by kernel_rfl) ?_
              refine wla rfl rfl (q_move (v := v14_0) rfl s5_35) ?_
              refine wla rfl rfl (q_move (v := p1) rfl s1_35) ?_
              obtain ⟨r46, hr46, H⟩ := Option.bind_eq_some_iff.1 H
              refine wls rfl rfl (stp_call (vs := [v14_0, p1]) Try.func40 rfl rfl rfl (ar2 rfl rfl) (matrix_Pick_calls r14.1 a1pick v14_0 p1 r46 _ (i0_35.lift (Lift.sub (fun _ _ => trivial))) (hp1.lift (Lift.ext hE35 _)) hr46) ?_)
              rintro _ w46 ⟨v46_0, rfl, x46, i46_0⟩
              refine ⟨_, rfl, ?_⟩
              replace i0_35 := i0_35.lift (Lift.ext x46 _)
              have e47 := hE35.trans x46
              refine wla rfl rfl (q_move (v := (.tuple #[v46_0, (i64 r46.2)])) rfl rfl) ?_
              refine wla rfl rfl (q_extract rfl rfl rfl) ?_
              refine wla rfl rfl (q_extract rfl rfl rfl) ?_
              refine wla rfl rfl (q_assign (v := v46_0) rfl rfl) ?_
              refine wla rfl rfl (q_assign (v := (i64 r46.2)) rfl rfl) ?_
              refine wl_nil ?_
              refine W_th ?_
              refine W_seq ?_
              refine W_reg (by kernel_rfl) ?_
              refine wla rfl rfl (q_move (v := p1) rfl s1_35) ?_
              refine wla rfl rfl (q_len rfl T47.sl rfl (hp1.lift (Lift.ext e47 _))) ?_
              refine wla rfl rfl (q_geI rfl rfl rfl) ?_
              refine wlb rfl rfl (q_move (v := (.bool ((decide (1 ≤ (a1pick.length : Int)))))) rfl rfl) (fun hb48 => ?_) (fun hb48 => ?_)
              · replace H := (if_pos (of_decide_eq_true hb48)).symm.trans H
                refine wla rfl rfl (q_move (v := p1) rfl s1_35) ?_
                refine wla rfl rfl (q_len rfl T47.sl rfl (hp1.lift (Lift.ext e47 _))) ?_
                refine wla rfl rfl (q_leI rfl rfl rfl) ?_
                refine wla rfl rfl (q_pick_t (v := (.bool ((decide ((a1pick.length : Int) ≤ 64))))) rfl rfl rfl) ?_
                refine wla rfl rfl (q_assign (v := (.bool ((decide ((a1pick.length : Int) ≤ 64))))) rfl rfl) ?_
                refine wl_nil ?_
                refine W_th ?_
                refine W_seq ?_
                refine W_seq ?_
                refine W_reg (by kernel_rfl) ?_
                refine wla rfl rfl (q_move (v := p1) rfl s1_35) ?_
                refine wla rfl rfl (q_len rfl T47.sl rfl (hp1.lift (Lift.ext e47 _))) ?_
                refine wla rfl rfl (q_move (v := (i64 0)) rfl rfl) ?_
                refine wl_nil ?_
                refine W_th ?_
                obtain ⟨x49, G49, H⟩ := Option.bind_eq_some_iff.1 H
                refine W_mid (fun f w => f 0 = p0 ∧ f 1 = p1 ∧ f 5 = v14_0 ∧ f 12 = v46_0 ∧ f 13 = (i64 r46.2) ∧ f 14 = (.bool x49) ∧ f 180 = undef ∧ Ext w0 w ∧ Mx w [] v14_0 r14.1 ∧ Mx w [] v46_0 r46.1) ?_ ?_
                · refine W_block ?_
                  refine W_loop (fun s49 f w => f 0 = p0 ∧ f 1 = p1 ∧ f 5 = v14_0 ∧ f 12 = v46_0 ∧ f 13 = (i64 r46.2) ∧ f 14 = (.bool s49.1) ∧ f 113 = p1 ∧ f 114 = (i64 ((a1pick.length : Int))) ∧ f 115 = (i64 s49.2) ∧ f 180 = undef ∧ Ext w0 w ∧ Mx w [] v14_0 r14.1 ∧ Mx w [] v46_0 r46.1) G49 ?_ ?_
                  · exact ⟨s0_35, s1_35, s5_35, rfl, rfl, rfl, rfl, rfl, rfl, s180_35, e47, i0_35, i46_0⟩
                  · rintro s49 _ _ w50 ⟨s0_50, s1_50, s5_50, s12_50, s13_50, s14_50, s113_50, s114_50, s115_50, s180_50, hE50, i0_50, i1_50⟩ H49 hr49
                    refine W_seq ?_
                    refine W_reg (by kernel_rfl) ?_
                    refine wla rfl rfl (q_ltI rfl s115_50 s114_50) ?_
                    refine wl_nil ?_
                    refine W_th ?_
                    refine W_seq ?_
                    refine W_cond _ rfl rfl (fun hb51 => ?_) (fun hb51 => ?_)
                    · replace H49 := (if_pos (of_decide_eq_true hb51)).symm.trans H49
                      refine W_skip ?_
                      refine W_th ?_
                      refine W_seq ?_
                      refine W_block ?_
                      refine W_seq ?_
                      refine W_reg (by kernel_rfl) ?_
                      obtain ⟨c52, hc52, H49⟩ := Option.bind_eq_some_iff.1 H49
                      refine wla rfl rfl (q_adr rfl T47 s113_50 s115_50 (hp1.lift (Lift.ext hE50 _)) hc52) ?_
                      refine wlq rfl rfl (q_loadS rfl T47 rfl (hp1.lift (Lift.ext hE50 _)) hc52) ?_
                      refine wla rfl rfl (q_assign (v := (i64 c52)) rfl rfl) ?_
                      refine wl_nil ?_
                      refine W_th ?_
                      refine W_reg (by kernel_rfl) ?_
                      refine wla rfl rfl (q_move (v := (.bool s49.1)) rfl s14_50) ?_
                      refine wlb rfl rfl (q_move (v := (.bool s49.1)) rfl rfl) (fun hb53 => ?_) (fun hb53 => ?_)
                      · replace H49 := (if_pos hb53).symm.trans H49
                        refine wla rfl rfl (q_move (v := (i64 c52)) rfl rfl) ?_
                        refine wla rfl rfl (q_geI rfl rfl rfl) ?_
                        refine wla rfl rfl (q_pick_t (v := (.bool ((decide (0 ≤ c52))))) rfl rfl rfl) ?_
                        refine wlb rfl rfl (q_move (v := (.bool ((decide (0 ≤ c52))))) rfl rfl) (fun hb54 => ?_) (fun hb54 => ?_)
                        · replace H49 := (if_pos (of_decide_eq_true hb54)).symm.trans H49
                          refine wla rfl rfl (q_move (v := (i64 c52)) rfl rfl) ?_
                          refine wla rfl rfl (q_move (v := p0) rfl s0_50) ?_
                          refine wla rfl rfl (q_len rfl T46.sl rfl (hp0.lift (Lift.ext hE50 _))) ?_
                          refine wla rfl rfl (q_ltI rfl rfl rfl) ?_
                          refine wla rfl rfl (q_pick_t (v := (.bool ((decide (c52 < (a0l.length : Int)))))) rfl rfl rfl) ?_
                          refine wla rfl rfl (q_assign (v := (.bool ((decide (c52 < (a0l.length : Int)))))) rfl rfl) ?_
                          refine wl_nil ?_
                          refine bk_n ?_
                          refine W_th ?_
                          refine W_reg (by kernel_rfl) ?_
                          refine wla rfl rfl (q_addI rfl s115_50 rfl) ?_
                          refine wla rfl rfl (q_move (v := (i64 ((wI (s49.2 + 1))))) rfl rfl) ?_
                          refine wl_nil ?_
                          obtain rfl := Option.some.inj H49
                          exact ⟨_, rfl, s0_50, s1_50, s5_50, s12_50, s13_50, rfl, s113_50, s114_50, rfl, s180_50, hE50, i0_50, i1_50⟩
                        · replace H49 := (if_neg (of_decide_eq_false hb54)).symm.trans H49
                          refine wlk rfl rfl ?_
                          refine wlk rfl rfl ?_
                          refine wlk rfl rfl ?_
                          refine wlk rfl rfl ?_
                          refine wla rfl rfl (q_pick_f (v := (.bool false)) rfl rfl rfl) ?_
                          refine wla rfl rfl (q_assign (v := (.bool false)) rfl rfl) ?_
                          refine wl_nil ?_
                          refine bk_n ?_
                          refine W_th ?_
                          refine W_reg (by kernel_rfl) ?_
                          refine wla rfl rfl (q_addI rfl s115_50 rfl) ?_
                          refine wla rfl rfl (q_move (v := (i64 ((wI (s49.2 + 1))))) rfl rfl) ?_
                          refine wl_nil ?_
                          obtain rfl := Option.some.inj H49
                          exact ⟨_, rfl, s0_50, s1_50, s5_50, s12_50, s13_50, rfl, s113_50, s114_50, rfl, s180_50, hE50, i0_50, i1_50⟩
                      · replace H49 := (if_neg (ne_true_of_eq_false hb53)).symm.trans H49
                        refine wlk rfl rfl ?_
                        refine wlk rfl rfl ?_
                        refine wla rfl rfl (q_pick_f (v := (.bool false)) rfl rfl rfl) ?_
                        refine wla rfl rfl (q_move (v := (.bool false)) rfl rfl) ?_
                        refine wlk rfl rfl ?_
                        refine wlk rfl rfl ?_
                        refine wlk rfl rfl ?_
                        refine wlk rfl rfl ?_
                        refine wla rfl rfl (q_pick_f (v := (.bool false)) rfl rfl rfl) ?_
                        refine wla rfl rfl (q_assign (v := (.bool false)) rfl rfl) ?_
                        refine wl_nil ?_
                        refine bk_n ?_
                        refine W_th ?_
                        refine W_reg (by kernel_rfl) ?_
                        refine wla rfl rfl (q_addI rfl s115_50 rfl) ?_
                        refine wla rfl rfl (q_move (v := (i64 ((wI (s49.2 + 1))))) rfl rfl) ?_
                        refine wl_nil ?_
                        obtain rfl := Option.some.inj H49
                        exact ⟨_, rfl, s0_50, s1_50, s5_50, s12_50, s13_50, rfl, s113_50, s114_50, rfl, s180_50, hE50, i0_50, i1_50⟩
                    · replace H49 := (if_neg (of_decide_eq_false hb51)).symm.trans H49
                      refine W_exit ?_
                      refine th_x ?_
                      obtain rfl := Option.some.inj H49
                      obtain rfl := hr49 _ rfl
                      refine th_x ?_
                      refine bk_x ?_
                      exact ⟨s0_50, s1_50, s5_50, s12_50, s13_50, s14_50, s180_50, hE50, i0_50, i1_50⟩
                · rintro _ w56 ⟨s0_56, s1_56, s5_56, s12_56, s13_56, s14_56, s180_56, hE56, i0_56, i1_56⟩
                  refine W_th ?_
                  refine W_seq ?_
                  refine W_seq ?_
                  refine W_reg (by kernel_rfl) ?_
                  refine wla rfl rfl (q_move (v := (i64 r46.2)) rfl s13_56) ?_
                  refine wla rfl rfl (q_eqI rfl rfl rfl) ?_
                  refine wla rfl rfl (q_move (v := (.bool x49)) rfl s14_56) ?_
                  refine wla rfl rfl (q_neB rfl (by kernel_rfl) rfl rfl) ?_
                  refine wlb rfl rfl (q_move (v := (.bool ((!(((decide (r46.2 = 0))) == x49))))) rfl rfl) (fun hb57 => ?_) (fun hb57 => ?_)
                  · replace H := (if_pos hb57).symm.trans H
                    refine wlk rfl rfl ?_
                    refine wlk rfl rfl ?_
                    refine wlk rfl rfl ?_
                    refine wlk rfl rfl ?_
                    refine wlk rfl rfl ?_
                    refine wlk rfl rfl ?_
                    refine wla rfl rfl (q_pick_t (v := (.bool true)) rfl rfl rfl) ?_
                    refine wla rfl rfl (q_move (v := (.bool true)) rfl rfl) ?_
                    refine wlk rfl rfl ?_
                    refine wlk rfl rfl ?_
                    refine wlk rfl rfl ?_
                    refine wlk rfl rfl ?_
                    refine wlk rfl rfl ?_
                    refine wla rfl rfl (q_pick_t (v := (.bool true)) rfl rfl rfl) ?_
                    refine wl_nil ?_
                    refine W_th ?_
                    refine W_cond true rfl rfl (fun _ => ?_) (fun hb => by cases hb)
                    refine W_seq ?_
                    refine W_reg (by kernel_rfl) ?_
                    refine wla rfl rfl (q_assign (v := (.bool false)) rfl rfl) ?_
                    refine wl_nil ?_
                    refine W_th ?_
                    refine W_ret ?_
                    refine th_r ?_
                    obtain rfl := Option.some.inj H
                    refine rt1 (.bool false) rfl rfl rfl s180_56 ?_
                    exact ⟨rfl, hE56⟩
                  · replace H := (if_neg (ne_true_of_eq_false hb57)).symm.trans H
                    refine wla rfl rfl (q_move (v := (.bool x49)) rfl s14_56) ?_
                    refine wla rfl rfl (q_not rfl rfl) ?_
                    refine wlb rfl rfl (q_move (v := (.bool ((!x49)))) rfl rfl) (fun hb58 => ?_) (fun hb58 => ?_)
                    · replace H := (if_pos hb58).symm.trans H
                      refine wla rfl rfl (q_move (v := (i64 r46.2)) rfl s13_56) ?_
                      refine wla rfl rfl (q_neI rfl rfl rfl) ?_
                      refine wla rfl rfl (q_pick_t (v := (.bool ((!decide (r46.2 = 2))))) rfl rfl rfl) ?_
                      refine wla rfl rfl (q_pick_f (v := (.bool ((!decide (r46.2 = 2))))) rfl rfl rfl) ?_
                      refine wlb rfl rfl (q_move (v := (.bool ((!decide (r46.2 = 2))))) rfl rfl) (fun hb59 => ?_) (fun hb59 => ?_)
                      · replace H := (if_neg (ndec_t hb59)).symm.trans H
                        refine wlk rfl rfl ?_
                        refine wlk rfl rfl ?_
                        refine wlk rfl rfl ?_
                        refine wlk rfl rfl ?_
                        refine wlk rfl rfl ?_
                        refine wla rfl rfl (q_pick_t (v := (.bool true)) rfl rfl rfl) ?_
                        refine wl_nil ?_
                        refine W_th ?_
                        refine W_cond true rfl rfl (fun _ => ?_) (fun hb => by cases hb)
                        refine W_seq ?_
                        refine W_reg (by kernel_rfl) ?_
                        refine wla rfl rfl (q_assign (v := (.bool false)) rfl rfl) ?_
                        refine wl_nil ?_
                        refine W_th ?_
                        refine W_ret ?_
                        refine th_r ?_
                        obtain rfl := Option.some.inj H
                        refine rt1 (.bool false) rfl rfl rfl s180_56 ?_
                        exact ⟨rfl, hE56⟩
                      · replace H := (if_pos (ndec_f hb59)).symm.trans H
                        refine wla rfl rfl (q_move (v := v14_0) rfl s5_56) ?_
                        obtain ⟨r60, hr60, H⟩ := Option.bind_eq_some_iff.1 H
                        refine wls rfl rfl (stp_call (vs := [v14_0]) Try.func42 rfl rfl rfl (ar1 rfl) (law04_rows_calls r14.1 v14_0 r60 _ [] (Old.nil _) (i0_56.lift (Lift.sub (fun _ _ => trivial))) hr60) ?_)
                        rintro _ w60 ⟨v60, rfl, x60, n60_0, o60_0⟩
                        refine ⟨_, rfl, ?_⟩
                        have i60_0 : Rw w60 [] v60 r60 := OwK.slk (SlK.stab (Sc.stab _)) _ o60_0 (fun k hk => (Old.nil _) k (n60_0 k hk)) (fun _ h => h.2)
                        replace i0_56 := i0_56.lift (Lift.ext x60 _)
                        replace i1_56 := i1_56.lift (Lift.ext x60 _)
                        have e61 := hE56.trans x60
                        refine wla rfl rfl (q_move (v := p0) rfl s0_56) ?_
                        obtain ⟨r62, hr62, H⟩ := Option.bind_eq_some_iff.1 H
                        refine wls rfl rfl (stp_call (vs := [v60, p0]) Try.func41 rfl rfl rfl (ar2 rfl rfl) (law04_same_calls r60 a0l v60 p0 r62 _ (i60_0.lift (Lift.sub (fun _ _ => trivial))) (hp0.lift (Lift.ext e61 _)) hr62) ?_)
                        rintro _ w62 ⟨rfl, x62⟩
                        refine ⟨_, rfl, ?_⟩
                        replace i0_56 := i0_56.lift (Lift.ext x62 _)
                        replace i1_56 := i1_56.lift (Lift.ext x62 _)
                        replace i60_0 := i60_0.lift (Lift.ext x62 _)
                        have e63 := e61.trans x62
                        refine wla rfl rfl (q_not rfl rfl) ?_
                        refine wla rfl rfl (q_pick_f (v := (.bool ((!r62)))) rfl rfl rfl) ?_
                        refine wl_nil ?_
                        refine W_th ?_
                        refine W_cond _ rfl rfl (fun hb64 => ?_) (fun hb64 => ?_)
                        · replace H := (if_pos hb64).symm.trans H
                          refine W_seq ?_
                          refine W_reg (by kernel_rfl) ?_
                          refine wla rfl rfl (q_assign (v := (.bool false)) rfl rfl) ?_
                          refine wl_nil ?_
                          refine W_th ?_
                          refine W_ret ?_
                          refine th_r ?_
                          obtain rfl := Option.some.inj H
                          refine rt1 (.bool false) rfl rfl rfl s180_56 ?_
                          exact ⟨rfl, e63⟩
                        · replace H := (if_neg (ne_true_of_eq_false hb64)).symm.trans H
                          refine W_skip ?_
                          refine W_th ?_
                          refine W_seq ?_
                          refine W_seq ?_
                          refine W_reg (by kernel_rfl) ?_
                          refine wla rfl rfl (q_move (v := v46_0) rfl s12_56) ?_
                          obtain ⟨r65, hr65, H⟩ := Option.bind_eq_some_iff.1 H
                          refine wls rfl rfl (stp_call (vs := [v46_0]) Try.func42 rfl rfl rfl (ar1 rfl) (law04_rows_calls r46.1 v46_0 r65 _ [] (Old.nil _) (i1_56.lift (Lift.sub (fun _ _ => trivial))) hr65) ?_)
                          rintro _ w65 ⟨v65, rfl, x65, n65_0, o65_0⟩
                          refine ⟨_, rfl, ?_⟩
                          have i65_0 : Rw w65 [] v65 r65 := OwK.slk (SlK.stab (Sc.stab _)) _ o65_0 (fun k hk => (Old.nil _) k (n65_0 k hk)) (fun _ h => h.2)
                          replace i0_56 := i0_56.lift (Lift.ext x65 _)
                          replace i1_56 := i1_56.lift (Lift.ext x65 _)
                          replace i60_0 := i60_0.lift (Lift.ext x65 _)
                          have e66 := e63.trans x65
                          refine wla rfl rfl (q_len rfl T46.sl rfl i65_0) ?_
                          refine wla rfl rfl (q_move (v := (i64 0)) rfl rfl) ?_
                          refine wl_nil ?_
                          refine W_th ?_
                          obtain ⟨x67, G67, H⟩ := Option.bind_eq_some_iff.1 H
                          refine W_mid (fun f w => ∃ y67, x67 = .inl y67 ∧ f 0 = p0 ∧ f 5 = v14_0 ∧ f 180 = undef ∧ Ext w0 w ∧ Mx w [] v14_0 r14.1) ?_ ?_
                          · refine W_block ?_
                            refine W_loop (fun s67 f w => f 0 = p0 ∧ f 1 = p1 ∧ f 5 = v14_0 ∧ f 151 = v65 ∧ f 152 = (i64 ((r65.length : Int))) ∧ f 153 = (i64 s67) ∧ f 180 = undef ∧ Ext w0 w ∧ Mx w [] v14_0 r14.1 ∧ Rw w [] v65 r65) G67 ?_ ?_
                            · exact ⟨s0_56, s1_56, s5_56, rfl, rfl, rfl, s180_56, e66, i0_56, i65_0⟩
                            · rintro s67 _ _ w68 ⟨s0_68, s1_68, s5_68, s151_68, s152_68, s153_68, s180_68, hE68, i0_68, i1_68⟩ H67 hr67
                              refine W_seq ?_
                              refine W_reg (by kernel_rfl) ?_
                              refine wla rfl rfl (q_ltI rfl s153_68 s152_68) ?_
                              refine wl_nil ?_
                              refine W_th ?_
                              refine W_seq ?_
                              refine W_cond _ rfl rfl (fun hb69 => ?_) (fun hb69 => ?_)
                              · replace H67 := (if_pos (of_decide_eq_true hb69)).symm.trans H67
                                refine W_skip ?_
                                refine W_th ?_
                                refine W_seq ?_
                                refine W_block ?_
                                refine W_seq ?_
                                refine W_reg (by kernel_rfl) ?_
                                refine wla rfl rfl (q_move (v := (i64 s67)) rfl s153_68) ?_
                                obtain ⟨c70, hc70, H67⟩ := Option.bind_eq_some_iff.1 H67
                                refine wla rfl rfl (q_adr rfl T46 s151_68 s153_68 i1_68 hc70) ?_
                                refine wlq_load rfl rfl rfl T46 rfl i1_68 hc70 (Ext.refl _) (fun v71 i71 => ?_)
                                refine wla rfl rfl (q_assign (v := (i64 s67)) rfl rfl) ?_
                                refine wla rfl rfl (q_assign (v := v71) rfl rfl) ?_
                                refine wl_nil ?_
                                refine W_th ?_
                                refine W_seq ?_
                                refine W_draw [1, 6, 8, 9] [(0, 0), (1, 1), (2, 0), (3, 0), (4, 0), (5, 0), (6, 1), (7, 0), (8, 1), (9, 1), (10, 0)] mixed (by kernel_rfl) (by kernel_rfl) (by kernel_rfl) (by kernel_rfl) ?_
                                have x72 := Ext.drew w68
                                replace i0_68 := i0_68.lift (Lift.ext x72 _)
                                replace i1_68 := i1_68.lift (Lift.ext x72 _)
                                replace i71 := i71.lift (Lift.ext x72 _)
                                have e73 := hE68.trans x72
                                refine wsa rfl rfl rfl (q_move (v := v71) rfl rfl) ?_
                                refine wsq rfl rfl rfl (q_str rfl T22 rfl rfl rfl i71) ?_
                                refine wsa rfl rfl rfl (q_move (v := p0) rfl s0_68) ?_
                                refine wsa rfl rfl rfl (q_move (v := p1) rfl s1_68) ?_
                                refine wsa rfl rfl rfl (q_move (v := (i64 s67)) rfl rfl) ?_
                                obtain ⟨c74, hc74, H67⟩ := Option.bind_eq_some_iff.1 H67
                                refine wsa rfl rfl rfl (q_adr rfl T47 rfl rfl (hp1.lift (Lift.ext e73 _)) hc74) ?_
                                refine wsq rfl rfl rfl (q_loadS rfl T47 rfl (hp1.lift (Lift.ext e73 _)) hc74) ?_
                                obtain ⟨c75, hc75, H67⟩ := Option.bind_eq_some_iff.1 H67
                                refine wsa rfl rfl rfl (q_adr rfl T46 rfl rfl (hp0.lift (Lift.ext e73 _)) hc75) ?_
                                refine wsq_load rfl rfl rfl rfl T46 rfl hp0 hc75 e73 (fun v76 ha76 => ?_)
                                refine wsq rfl rfl rfl (q_str rfl T22 rfl rfl rfl (ha76.lift (Lift.ext e73 _))) ?_
                                refine wsa rfl rfl rfl (q_neS rfl rfl rfl) ?_
                                refine ws_nil ?_
                                refine W_th ?_
                                refine W_cond _ rfl rfl (fun hb77 => ?_) (fun hb77 => ?_)
                                · replace H67 := (if_neg (ndec_t hb77)).symm.trans H67
                                  refine W_seq ?_
                                  refine W_reg (by kernel_rfl) ?_
                                  refine wla rfl rfl (q_assign (v := (.bool false)) rfl rfl) ?_
                                  refine wl_nil ?_
                                  refine W_th ?_
                                  refine W_ret ?_
                                  refine bk_r ?_
                                  refine th_r ?_
                                  obtain rfl := Option.some.inj H67
                                  obtain rfl := hr67 _ rfl
                                  simp only [Sum.elim_inr] at H
                                  refine th_r ?_
                                  refine bk_r ?_
                                  refine th_r ?_
                                  refine th_r ?_
                                  obtain rfl := Option.some.inj H
                                  refine rt1 (.bool false) rfl rfl rfl s180_68 ?_
                                  exact ⟨rfl, e73⟩
                                · replace H67 := (if_pos (ndec_f hb77)).symm.trans H67
                                  refine W_skip ?_
                                  refine bk_n ?_
                                  refine W_th ?_
                                  refine W_reg (by kernel_rfl) ?_
                                  refine wla rfl rfl (q_addI rfl s153_68 rfl) ?_
                                  refine wla rfl rfl (q_move (v := (i64 ((wI (s67 + 1))))) rfl rfl) ?_
                                  refine wl_nil ?_
                                  obtain rfl := Option.some.inj H67
                                  exact ⟨_, rfl, s0_68, s1_68, s5_68, s151_68, s152_68, rfl, s180_68, e73, i0_68, i1_68⟩
                              · replace H67 := (if_neg (of_decide_eq_false hb69)).symm.trans H67
                                refine W_exit ?_
                                refine th_x ?_
                                obtain rfl := Option.some.inj H67
                                obtain rfl := hr67 _ rfl
                                refine th_x ?_
                                refine bk_x ?_
                                exact ⟨_, rfl, s0_68, s5_68, s180_68, hE68, i0_68⟩
                          · rintro _ w79 ⟨y67, rfl, s0_79, s5_79, s180_79, hE79, i0_79⟩
                            simp only [Sum.elim_inl] at H
                            refine W_th ?_
                            refine W_seq ?_
                            refine W_reg (by kernel_rfl) ?_
                            refine wla rfl rfl (q_move (v := v14_0) rfl s5_79) ?_
                            obtain ⟨r80, hr80, H⟩ := Option.bind_eq_some_iff.1 H
                            refine wls rfl rfl (stp_call (vs := [v14_0, (i64 (-1))]) Try.func43 rfl rfl rfl (ar2 rfl rfl) (matrix_Row_calls r14.1 (-1) v14_0 r80 _ (i0_79.lift (Lift.sub (fun _ _ => trivial))) hr80) ?_)
                            rintro _ w80 ⟨v80, rfl, x80, n80_0, o80_0⟩
                            refine ⟨_, rfl, ?_⟩
                            have i80_0 : By w80 [] v80 r80 := OwK.slk (Sc.stab _) _ (OwK.scal o80_0 (v80 :: [])) (fun k hk => (Old.nil _) k (n80_0 k hk)) (fun _ h => h.2)
                            replace i0_79 := i0_79.lift (Lift.ext x80 _)
                            have e81 := hE79.trans x80
                            refine wla rfl rfl (q_len rfl T22.sl rfl i80_0) ?_
                            refine wla rfl rfl (q_move (v := v14_0) rfl s5_79) ?_
                            refine wla rfl rfl (q_move (v := p0) rfl s0_79) ?_
                            refine wla rfl rfl (q_len rfl T46.sl rfl (hp0.lift (Lift.ext e81 _))) ?_
                            obtain ⟨r82, hr82, H⟩ := Option.bind_eq_some_iff.1 H
                            refine wls rfl rfl (stp_call (vs := [v14_0, (i64 ((a0l.length : Int)))]) Try.func43 rfl rfl rfl (ar2 rfl rfl) (matrix_Row_calls r14.1 (a0l.length : Int) v14_0 r82 _ (i0_79.lift (Lift.sub (fun _ _ => trivial))) hr82) ?_)
                            rintro _ w82 ⟨v82, rfl, x82, n82_0, o82_0⟩
                            refine ⟨_, rfl, ?_⟩
                            have i82_0 : By w82 [] v82 r82 := OwK.slk (Sc.stab _) _ (OwK.scal o82_0 (v82 :: [])) (fun k hk => (Old.nil _) k (n82_0 k hk)) (fun _ h => h.2)
                            replace i0_79 := i0_79.lift (Lift.ext x82 _)
                            replace i80_0 := i80_0.lift (Lift.ext x82 _)
                            have e83 := e81.trans x82
                            refine wla rfl rfl (q_len rfl T22.sl rfl i82_0) ?_
                            refine wla rfl rfl (q_addI rfl rfl rfl) ?_
                            refine wla rfl rfl (q_eqI rfl rfl rfl) ?_
                            refine wla rfl rfl (q_assign (v := (.bool ((decide ((wI ((r80.length : Int) + (r82.length : Int))) = 0))))) rfl rfl) ?_
                            refine wl_nil ?_
                            refine W_th ?_
                            refine W_ret ?_
                            obtain rfl := Option.some.inj H
                            refine rt1 (.bool ((decide ((wI ((r80.length : Int) + (r82.length : Int))) = 0)))) rfl rfl rfl s180_79 ?_
                            exact ⟨rfl, e83⟩
                    · replace H := (if_neg (ne_true_of_eq_false hb58)).symm.trans H
                      refine wlk rfl rfl ?_
                      refine wlk rfl rfl ?_
                      refine wla rfl rfl (q_pick_f (v := (.bool false)) rfl rfl rfl) ?_
                      refine wla rfl rfl (q_pick_f (v := (.bool false)) rfl rfl rfl) ?_
                      refine wla rfl rfl (q_move (v := (.bool false)) rfl rfl) ?_
                      refine wla rfl rfl (q_move (v := v14_0) rfl s5_56) ?_
                      obtain ⟨r85, hr85, H⟩ := Option.bind_eq_some_iff.1 H
                      refine wls rfl rfl (stp_call (vs := [v14_0]) Try.func42 rfl rfl rfl (ar1 rfl) (law04_rows_calls r14.1 v14_0 r85 _ [] (Old.nil _) (i0_56.lift (Lift.sub (fun _ _ => trivial))) hr85) ?_)
                      rintro _ w85 ⟨v85, rfl, x85, n85_0, o85_0⟩
                      refine ⟨_, rfl, ?_⟩
                      have i85_0 : Rw w85 [] v85 r85 := OwK.slk (SlK.stab (Sc.stab _)) _ o85_0 (fun k hk => (Old.nil _) k (n85_0 k hk)) (fun _ h => h.2)
                      replace i0_56 := i0_56.lift (Lift.ext x85 _)
                      replace i1_56 := i1_56.lift (Lift.ext x85 _)
                      have e86 := hE56.trans x85
                      refine wla rfl rfl (q_move (v := p0) rfl s0_56) ?_
                      obtain ⟨r87, hr87, H⟩ := Option.bind_eq_some_iff.1 H
                      refine wls rfl rfl (stp_call (vs := [v85, p0]) Try.func41 rfl rfl rfl (ar2 rfl rfl) (law04_same_calls r85 a0l v85 p0 r87 _ (i85_0.lift (Lift.sub (fun _ _ => trivial))) (hp0.lift (Lift.ext e86 _)) hr87) ?_)
                      rintro _ w87 ⟨rfl, x87⟩
                      refine ⟨_, rfl, ?_⟩
                      replace i0_56 := i0_56.lift (Lift.ext x87 _)
                      replace i1_56 := i1_56.lift (Lift.ext x87 _)
                      replace i85_0 := i85_0.lift (Lift.ext x87 _)
                      have e88 := e86.trans x87
                      refine wla rfl rfl (q_not rfl rfl) ?_
                      refine wla rfl rfl (q_pick_f (v := (.bool ((!r87)))) rfl rfl rfl) ?_
                      refine wl_nil ?_
                      refine W_th ?_
                      refine W_cond _ rfl rfl (fun hb89 => ?_) (fun hb89 => ?_)
                      · replace H := (if_pos hb89).symm.trans H
                        refine W_seq ?_
                        refine W_reg (by kernel_rfl) ?_
                        refine wla rfl rfl (q_assign (v := (.bool false)) rfl rfl) ?_
                        refine wl_nil ?_
                        refine W_th ?_
                        refine W_ret ?_
                        refine th_r ?_
                        obtain rfl := Option.some.inj H
                        refine rt1 (.bool false) rfl rfl rfl s180_56 ?_
                        exact ⟨rfl, e88⟩
                      · replace H := (if_neg (ne_true_of_eq_false hb89)).symm.trans H
                        refine W_skip ?_
                        refine W_th ?_
                        refine W_seq ?_
                        refine W_seq ?_
                        refine W_reg (by kernel_rfl) ?_
                        refine wla rfl rfl (q_move (v := v46_0) rfl s12_56) ?_
                        obtain ⟨r90, hr90, H⟩ := Option.bind_eq_some_iff.1 H
                        refine wls rfl rfl (stp_call (vs := [v46_0]) Try.func42 rfl rfl rfl (ar1 rfl) (law04_rows_calls r46.1 v46_0 r90 _ [] (Old.nil _) (i1_56.lift (Lift.sub (fun _ _ => trivial))) hr90) ?_)
                        rintro _ w90 ⟨v90, rfl, x90, n90_0, o90_0⟩
                        refine ⟨_, rfl, ?_⟩
                        have i90_0 : Rw w90 [] v90 r90 := OwK.slk (SlK.stab (Sc.stab _)) _ o90_0 (fun k hk => (Old.nil _) k (n90_0 k hk)) (fun _ h => h.2)
                        replace i0_56 := i0_56.lift (Lift.ext x90 _)
                        replace i1_56 := i1_56.lift (Lift.ext x90 _)
                        replace i85_0 := i85_0.lift (Lift.ext x90 _)
                        have e91 := e88.trans x90
                        refine wla rfl rfl (q_len rfl T46.sl rfl i90_0) ?_
                        refine wla rfl rfl (q_move (v := (i64 0)) rfl rfl) ?_
                        refine wl_nil ?_
                        refine W_th ?_
                        obtain ⟨x92, G92, H⟩ := Option.bind_eq_some_iff.1 H
                        refine W_mid (fun f w => ∃ y92, x92 = .inl y92 ∧ f 0 = p0 ∧ f 5 = v14_0 ∧ f 180 = undef ∧ Ext w0 w ∧ Mx w [] v14_0 r14.1) ?_ ?_
                        · refine W_block ?_
                          refine W_loop (fun s92 f w => f 0 = p0 ∧ f 1 = p1 ∧ f 5 = v14_0 ∧ f 151 = v90 ∧ f 152 = (i64 ((r90.length : Int))) ∧ f 153 = (i64 s92) ∧ f 180 = undef ∧ Ext w0 w ∧ Mx w [] v14_0 r14.1 ∧ Rw w [] v90 r90) G92 ?_ ?_
                          · exact ⟨s0_56, s1_56, s5_56, rfl, rfl, rfl, s180_56, e91, i0_56, i90_0⟩
                          · rintro s92 _ _ w93 ⟨s0_93, s1_93, s5_93, s151_93, s152_93, s153_93, s180_93, hE93, i0_93, i1_93⟩ H92 hr92
                            refine W_seq ?_
                            refine W_reg (by kernel_rfl) ?_
                            refine wla rfl rfl (q_ltI rfl s153_93 s152_93) ?_
                            refine wl_nil ?_
                            refine W_th ?_
                            refine W_seq ?_
                            refine W_cond _ rfl rfl (fun hb94 => ?_) (fun hb94 => ?_)
                            · replace H92 := (if_pos (of_decide_eq_true hb94)).symm.trans H92
                              refine W_skip ?_
                              refine W_th ?_
                              refine W_seq ?_
                              refine W_block ?_
                              refine W_seq ?_
                              refine W_reg (by kernel_rfl) ?_
                              refine wla rfl rfl (q_move (v := (i64 s92)) rfl s153_93) ?_
                              obtain ⟨c95, hc95, H92⟩ := Option.bind_eq_some_iff.1 H92
                              refine wla rfl rfl (q_adr rfl T46 s151_93 s153_93 i1_93 hc95) ?_
                              refine wlq_load rfl rfl rfl T46 rfl i1_93 hc95 (Ext.refl _) (fun v96 i96 => ?_)
                              refine wla rfl rfl (q_assign (v := (i64 s92)) rfl rfl) ?_
                              refine wla rfl rfl (q_assign (v := v96) rfl rfl) ?_
                              refine wl_nil ?_
                              refine W_th ?_
                              refine W_seq ?_
                              refine W_draw [1, 6, 8, 9] [(0, 0), (1, 1), (2, 0), (3, 0), (4, 0), (5, 0), (6, 1), (7, 0), (8, 1), (9, 1), (10, 0)] mixed (by kernel_rfl) (by kernel_rfl) (by kernel_rfl) (by kernel_rfl) ?_
                              have x97 := Ext.drew w93
                              replace i0_93 := i0_93.lift (Lift.ext x97 _)
                              replace i1_93 := i1_93.lift (Lift.ext x97 _)
                              replace i96 := i96.lift (Lift.ext x97 _)
                              have e98 := hE93.trans x97
                              refine wsa rfl rfl rfl (q_move (v := v96) rfl rfl) ?_
                              refine wsq rfl rfl rfl (q_str rfl T22 rfl rfl rfl i96) ?_
                              refine wsa rfl rfl rfl (q_move (v := p0) rfl s0_93) ?_
                              refine wsa rfl rfl rfl (q_move (v := p1) rfl s1_93) ?_
                              refine wsa rfl rfl rfl (q_move (v := (i64 s92)) rfl rfl) ?_
                              obtain ⟨c99, hc99, H92⟩ := Option.bind_eq_some_iff.1 H92
                              refine wsa rfl rfl rfl (q_adr rfl T47 rfl rfl (hp1.lift (Lift.ext e98 _)) hc99) ?_
                              refine wsq rfl rfl rfl (q_loadS rfl T47 rfl (hp1.lift (Lift.ext e98 _)) hc99) ?_
                              obtain ⟨c100, hc100, H92⟩ := Option.bind_eq_some_iff.1 H92
                              refine wsa rfl rfl rfl (q_adr rfl T46 rfl rfl (hp0.lift (Lift.ext e98 _)) hc100) ?_
                              refine wsq_load rfl rfl rfl rfl T46 rfl hp0 hc100 e98 (fun v101 ha101 => ?_)
                              refine wsq rfl rfl rfl (q_str rfl T22 rfl rfl rfl (ha101.lift (Lift.ext e98 _))) ?_
                              refine wsa rfl rfl rfl (q_neS rfl rfl rfl) ?_
                              refine ws_nil ?_
                              refine W_th ?_
                              refine W_cond _ rfl rfl (fun hb102 => ?_) (fun hb102 => ?_)
                              · replace H92 := (if_neg (ndec_t hb102)).symm.trans H92
                                refine W_seq ?_
                                refine W_reg (by kernel_rfl) ?_
                                refine wla rfl rfl (q_assign (v := (.bool false)) rfl rfl) ?_
                                refine wl_nil ?_
                                refine W_th ?_
                                refine W_ret ?_
                                refine bk_r ?_
                                refine th_r ?_
                                obtain rfl := Option.some.inj H92
                                obtain rfl := hr92 _ rfl
                                simp only [Sum.elim_inr] at H
                                refine th_r ?_
                                refine bk_r ?_
                                refine th_r ?_
                                refine th_r ?_
                                obtain rfl := Option.some.inj H
                                refine rt1 (.bool false) rfl rfl rfl s180_93 ?_
                                exact ⟨rfl, e98⟩
                              · replace H92 := (if_pos (ndec_f hb102)).symm.trans H92
                                refine W_skip ?_
                                refine bk_n ?_
                                refine W_th ?_
                                refine W_reg (by kernel_rfl) ?_
                                refine wla rfl rfl (q_addI rfl s153_93 rfl) ?_
                                refine wla rfl rfl (q_move (v := (i64 ((wI (s92 + 1))))) rfl rfl) ?_
                                refine wl_nil ?_
                                obtain rfl := Option.some.inj H92
                                exact ⟨_, rfl, s0_93, s1_93, s5_93, s151_93, s152_93, rfl, s180_93, e98, i0_93, i1_93⟩
                            · replace H92 := (if_neg (of_decide_eq_false hb94)).symm.trans H92
                              refine W_exit ?_
                              refine th_x ?_
                              obtain rfl := Option.some.inj H92
                              obtain rfl := hr92 _ rfl
                              refine th_x ?_
                              refine bk_x ?_
                              exact ⟨_, rfl, s0_93, s5_93, s180_93, hE93, i0_93⟩
                        · rintro _ w104 ⟨y92, rfl, s0_104, s5_104, s180_104, hE104, i0_104⟩
                          simp only [Sum.elim_inl] at H
                          refine W_th ?_
                          refine W_seq ?_
                          refine W_reg (by kernel_rfl) ?_
                          refine wla rfl rfl (q_move (v := v14_0) rfl s5_104) ?_
                          obtain ⟨r105, hr105, H⟩ := Option.bind_eq_some_iff.1 H
                          refine wls rfl rfl (stp_call (vs := [v14_0, (i64 (-1))]) Try.func43 rfl rfl rfl (ar2 rfl rfl) (matrix_Row_calls r14.1 (-1) v14_0 r105 _ (i0_104.lift (Lift.sub (fun _ _ => trivial))) hr105) ?_)
                          rintro _ w105 ⟨v105, rfl, x105, n105_0, o105_0⟩
                          refine ⟨_, rfl, ?_⟩
                          have i105_0 : By w105 [] v105 r105 := OwK.slk (Sc.stab _) _ (OwK.scal o105_0 (v105 :: [])) (fun k hk => (Old.nil _) k (n105_0 k hk)) (fun _ h => h.2)
                          replace i0_104 := i0_104.lift (Lift.ext x105 _)
                          have e106 := hE104.trans x105
                          refine wla rfl rfl (q_len rfl T22.sl rfl i105_0) ?_
                          refine wla rfl rfl (q_move (v := v14_0) rfl s5_104) ?_
                          refine wla rfl rfl (q_move (v := p0) rfl s0_104) ?_
                          refine wla rfl rfl (q_len rfl T46.sl rfl (hp0.lift (Lift.ext e106 _))) ?_
                          obtain ⟨r107, hr107, H⟩ := Option.bind_eq_some_iff.1 H
                          refine wls rfl rfl (stp_call (vs := [v14_0, (i64 ((a0l.length : Int)))]) Try.func43 rfl rfl rfl (ar2 rfl rfl) (matrix_Row_calls r14.1 (a0l.length : Int) v14_0 r107 _ (i0_104.lift (Lift.sub (fun _ _ => trivial))) hr107) ?_)
                          rintro _ w107 ⟨v107, rfl, x107, n107_0, o107_0⟩
                          refine ⟨_, rfl, ?_⟩
                          have i107_0 : By w107 [] v107 r107 := OwK.slk (Sc.stab _) _ (OwK.scal o107_0 (v107 :: [])) (fun k hk => (Old.nil _) k (n107_0 k hk)) (fun _ h => h.2)
                          replace i0_104 := i0_104.lift (Lift.ext x107 _)
                          replace i105_0 := i105_0.lift (Lift.ext x107 _)
                          have e108 := e106.trans x107
                          refine wla rfl rfl (q_len rfl T22.sl rfl i107_0) ?_
                          refine wla rfl rfl (q_addI rfl rfl rfl) ?_
                          refine wla rfl rfl (q_eqI rfl rfl rfl) ?_
                          refine wla rfl rfl (q_assign (v := (.bool ((decide ((wI ((r105.length : Int) + (r107.length : Int))) = 0))))) rfl rfl) ?_
                          refine wl_nil ?_
                          refine W_th ?_
                          refine W_ret ?_
                          obtain rfl := Option.some.inj H
                          refine rt1 (.bool ((decide ((wI ((r105.length : Int) + (r107.length : Int))) = 0)))) rfl rfl rfl s180_104 ?_
                          exact ⟨rfl, e108⟩
              · replace H := (if_neg (of_decide_eq_false hb48)).symm.trans H
                refine wlk rfl rfl ?_
                refine wlk rfl rfl ?_
                refine wlk rfl rfl ?_
                refine wla rfl rfl (q_pick_f (v := (.bool false)) rfl rfl rfl) ?_
                refine wla rfl rfl (q_assign (v := (.bool false)) rfl rfl) ?_
                refine wl_nil ?_
                refine W_th ?_
                refine W_seq ?_
                refine W_seq ?_
                refine W_reg (by kernel_rfl) ?_
                refine wla rfl rfl (q_move (v := p1) rfl s1_35) ?_
                refine wla rfl rfl (q_len rfl T47.sl rfl (hp1.lift (Lift.ext e47 _))) ?_
                refine wla rfl rfl (q_move (v := (i64 0)) rfl rfl) ?_
                refine wl_nil ?_
                refine W_th ?_
                obtain ⟨x111, G111, H⟩ := Option.bind_eq_some_iff.1 H
                refine W_mid (fun f w => f 0 = p0 ∧ f 1 = p1 ∧ f 5 = v14_0 ∧ f 12 = v46_0 ∧ f 13 = (i64 r46.2) ∧ f 14 = (.bool x111) ∧ f 180 = undef ∧ Ext w0 w ∧ Mx w [] v14_0 r14.1 ∧ Mx w [] v46_0 r46.1) ?_ ?_
                · refine W_block ?_
                  refine W_loop (fun s111 f w => f 0 = p0 ∧ f 1 = p1 ∧ f 5 = v14_0 ∧ f 12 = v46_0 ∧ f 13 = (i64 r46.2) ∧ f 14 = (.bool s111.1) ∧ f 113 = p1 ∧ f 114 = (i64 ((a1pick.length : Int))) ∧ f 115 = (i64 s111.2) ∧ f 180 = undef ∧ Ext w0 w ∧ Mx w [] v14_0 r14.1 ∧ Mx w [] v46_0 r46.1) G111 ?_ ?_
                  · exact ⟨s0_35, s1_35, s5_35, rfl, rfl, rfl, rfl, rfl, rfl, s180_35, e47, i0_35, i46_0⟩
                  · rintro s111 _ _ w112 ⟨s0_112, s1_112, s5_112, s12_112, s13_112, s14_112, s113_112, s114_112, s115_112, s180_112, hE112, i0_112, i1_112⟩ H111 hr111
                    refine W_seq ?_
                    refine W_reg (by kernel_rfl) ?_
                    refine wla rfl rfl (q_ltI rfl s115_112 s114_112) ?_
                    refine wl_nil ?_
                    refine W_th ?_
                    refine W_seq ?_
                    refine W_cond _ rfl rfl (fun hb113 => ?_) (fun hb113 => ?_)
                    · replace H111 := (if_pos (of_decide_eq_true hb113)).symm.trans H111
                      refine W_skip ?_
                      refine W_th ?_
                      refine W_seq ?_
                      refine W_block ?_
                      refine W_seq ?_
                      refine W_reg (by kernel_rfl) ?_
                      obtain ⟨c114, hc114, H111⟩ := Option.bind_eq_some_iff.1 H111
                      refine wla rfl rfl (q_adr rfl T47 s113_112 s115_112 (hp1.lift (Lift.ext hE112 _)) hc114) ?_
                      refine wlq rfl rfl (q_loadS rfl T47 rfl (hp1.lift (Lift.ext hE112 _)) hc114) ?_
                      refine wla rfl rfl (q_assign (v := (i64 c114)) rfl rfl) ?_
                      refine wl_nil ?_
                      refine W_th ?_
                      refine W_reg (by kernel_rfl) ?_
                      refine wla rfl rfl (q_move (v := (.bool s111.1)) rfl s14_112) ?_
                      refine wlb rfl rfl (q_move (v := (.bool s111.1)) rfl rfl) (fun hb115 => ?_) (fun hb115 => ?_)
                      · replace H111 := (if_pos hb115).symm.trans H111
                        refine wla rfl rfl (q_move (v := (i64 c114)) rfl rfl) ?_
                        refine wla rfl rfl (q_geI rfl rfl rfl) ?_
                        refine wla rfl rfl (q_pick_t (v := (.bool ((decide (0 ≤ c114))))) rfl rfl rfl) ?_
                        refine wlb rfl rfl (q_move (v := (.bool ((decide (0 ≤ c114))))) rfl rfl) (fun hb116 => ?_) (fun hb116 => ?_)
                        · replace H111 := (if_pos (of_decide_eq_true hb116)).symm.trans H111
                          refine wla rfl rfl (q_move (v := (i64 c114)) rfl rfl) ?_
                          refine wla rfl rfl (q_move (v := p0) rfl s0_112) ?_
                          refine wla rfl rfl (q_len rfl T46.sl rfl (hp0.lift (Lift.ext hE112 _))) ?_
                          refine wla rfl rfl (q_ltI rfl rfl rfl) ?_
                          refine wla rfl rfl (q_pick_t (v := (.bool ((decide (c114 < (a0l.length : Int)))))) rfl rfl rfl) ?_
                          refine wla rfl rfl (q_assign (v := (.bool ((decide (c114 < (a0l.length : Int)))))) rfl rfl) ?_
                          refine wl_nil ?_
                          refine bk_n ?_
                          refine W_th ?_
                          refine W_reg (by kernel_rfl) ?_
                          refine wla rfl rfl (q_addI rfl s115_112 rfl) ?_
                          refine wla rfl rfl (q_move (v := (i64 ((wI (s111.2 + 1))))) rfl rfl) ?_
                          refine wl_nil ?_
                          obtain rfl := Option.some.inj H111
                          exact ⟨_, rfl, s0_112, s1_112, s5_112, s12_112, s13_112, rfl, s113_112, s114_112, rfl, s180_112, hE112, i0_112, i1_112⟩
                        · replace H111 := (if_neg (of_decide_eq_false hb116)).symm.trans H111
                          refine wlk rfl rfl ?_
                          refine wlk rfl rfl ?_
                          refine wlk rfl rfl ?_
                          refine wlk rfl rfl ?_
                          refine wla rfl rfl (q_pick_f (v := (.bool false)) rfl rfl rfl) ?_
                          refine wla rfl rfl (q_assign (v := (.bool false)) rfl rfl) ?_
                          refine wl_nil ?_
                          refine bk_n ?_
                          refine W_th ?_
                          refine W_reg (by kernel_rfl) ?_
                          refine wla rfl rfl (q_addI rfl s115_112 rfl) ?_
                          refine wla rfl rfl (q_move (v := (i64 ((wI (s111.2 + 1))))) rfl rfl) ?_
                          refine wl_nil ?_
                          obtain rfl := Option.some.inj H111
                          exact ⟨_, rfl, s0_112, s1_112, s5_112, s12_112, s13_112, rfl, s113_112, s114_112, rfl, s180_112, hE112, i0_112, i1_112⟩
                      · replace H111 := (if_neg (ne_true_of_eq_false hb115)).symm.trans H111
                        refine wlk rfl rfl ?_
                        refine wlk rfl rfl ?_
                        refine wla rfl rfl (q_pick_f (v := (.bool false)) rfl rfl rfl) ?_
                        refine wla rfl rfl (q_move (v := (.bool false)) rfl rfl) ?_
                        refine wlk rfl rfl ?_
                        refine wlk rfl rfl ?_
                        refine wlk rfl rfl ?_
                        refine wlk rfl rfl ?_
                        refine wla rfl rfl (q_pick_f (v := (.bool false)) rfl rfl rfl) ?_
                        refine wla rfl rfl (q_assign (v := (.bool false)) rfl rfl) ?_
                        refine wl_nil ?_
                        refine bk_n ?_
                        refine W_th ?_
                        refine W_reg (by kernel_rfl) ?_
                        refine wla rfl rfl (q_addI rfl s115_112 rfl) ?_
                        refine wla rfl rfl (q_move (v := (i64 ((wI (s111.2 + 1))))) rfl rfl) ?_
                        refine wl_nil ?_
                        obtain rfl := Option.some.inj H111
                        exact ⟨_, rfl, s0_112, s1_112, s5_112, s12_112, s13_112, rfl, s113_112, s114_112, rfl, s180_112, hE112, i0_112, i1_112⟩
                    · replace H111 := (if_neg (of_decide_eq_false hb113)).symm.trans H111
                      refine W_exit ?_
                      refine th_x ?_
                      obtain rfl := Option.some.inj H111
                      obtain rfl := hr111 _ rfl
                      refine th_x ?_
                      refine bk_x ?_
                      exact ⟨s0_112, s1_112, s5_112, s12_112, s13_112, s14_112, s180_112, hE112, i0_112, i1_112⟩
                · rintro _ w118 ⟨s0_118, s1_118, s5_118, s12_118, s13_118, s14_118, s180_118, hE118, i0_118, i1_118⟩
                  refine W_th ?_
                  refine W_seq ?_
                  refine W_seq ?_
                  refine W_reg (by kernel_rfl) ?_
                  refine wla rfl rfl (q_move (v := (i64 r46.2)) rfl s13_118) ?_
                  refine wla rfl rfl (q_eqI rfl rfl rfl) ?_
                  refine wla rfl rfl (q_move (v := (.bool x111)) rfl s14_118) ?_
                  refine wla rfl rfl (q_neB rfl (by kernel_rfl) rfl rfl) ?_
                  refine wlb rfl rfl (q_move (v := (.bool ((!(((decide (r46.2 = 0))) == x111))))) rfl rfl) (fun hb119 => ?_) (fun hb119 => ?_)
                  · replace H := (if_pos hb119).symm.trans H
                    refine wlk rfl rfl ?_
                    refine wlk rfl rfl ?_
                    refine wlk rfl rfl ?_
                    refine wlk rfl rfl ?_
                    refine wlk rfl rfl ?_
                    refine wlk rfl rfl ?_
                    refine wla rfl rfl (q_pick_t (v := (.bool true)) rfl rfl rfl) ?_
                    refine wla rfl rfl (q_move (v := (.bool true)) rfl rfl) ?_
                    refine wlk rfl rfl ?_
                    refine wlk rfl rfl ?_
                    refine wlk rfl rfl ?_
                    refine wlk rfl rfl ?_
                    refine wlk rfl rfl ?_
                    refine wla rfl rfl (q_pick_t (v := (.bool true)) rfl rfl rfl) ?_
                    refine wl_nil ?_
                    refine W_th ?_
                    refine W_cond true rfl rfl (fun _ => ?_) (fun hb => by cases hb)
                    refine W_seq ?_
                    refine W_reg (by kernel_rfl) ?_
                    refine wla rfl rfl (q_assign (v := (.bool false)) rfl rfl) ?_
                    refine wl_nil ?_
                    refine W_th ?_
                    refine W_ret ?_
                    refine th_r ?_
                    obtain rfl := Option.some.inj H
                    refine rt1 (.bool false) rfl rfl rfl s180_118 ?_
                    exact ⟨rfl, hE118⟩
                  · replace H := (if_neg (ne_true_of_eq_false hb119)).symm.trans H
                    refine wla rfl rfl (q_move (v := (.bool x111)) rfl s14_118) ?_
                    refine wla rfl rfl (q_not rfl rfl) ?_
                    refine wlb rfl rfl (q_move (v := (.bool ((!x111)))) rfl rfl) (fun hb120 => ?_) (fun hb120 => ?_)
                    · replace H := (if_pos hb120).symm.trans H
                      refine wla rfl rfl (q_move (v := (i64 r46.2)) rfl s13_118) ?_
                      refine wla rfl rfl (q_neI rfl rfl rfl) ?_
                      refine wla rfl rfl (q_pick_t (v := (.bool ((!decide (r46.2 = 2))))) rfl rfl rfl) ?_
                      refine wla rfl rfl (q_pick_f (v := (.bool ((!decide (r46.2 = 2))))) rfl rfl rfl) ?_
                      refine wlb rfl rfl (q_move (v := (.bool ((!decide (r46.2 = 2))))) rfl rfl) (fun hb121 => ?_) (fun hb121 => ?_)
                      · replace H := (if_neg (ndec_t hb121)).symm.trans H
                        refine wlk rfl rfl ?_
                        refine wlk rfl rfl ?_
                        refine wlk rfl rfl ?_
                        refine wlk rfl rfl ?_
                        refine wlk rfl rfl ?_
                        refine wla rfl rfl (q_pick_t (v := (.bool true)) rfl rfl rfl) ?_
                        refine wl_nil ?_
                        refine W_th ?_
                        refine W_cond true rfl rfl (fun _ => ?_) (fun hb => by cases hb)
                        refine W_seq ?_
                        refine W_reg (by kernel_rfl) ?_
                        refine wla rfl rfl (q_assign (v := (.bool false)) rfl rfl) ?_
                        refine wl_nil ?_
                        refine W_th ?_
                        refine W_ret ?_
                        refine th_r ?_
                        obtain rfl := Option.some.inj H
                        refine rt1 (.bool false) rfl rfl rfl s180_118 ?_
                        exact ⟨rfl, hE118⟩
                      · replace H := (if_pos (ndec_f hb121)).symm.trans H
                        refine wla rfl rfl (q_move (v := v14_0) rfl s5_118) ?_
                        obtain ⟨r122, hr122, H⟩ := Option.bind_eq_some_iff.1 H
                        refine wls rfl rfl (stp_call (vs := [v14_0]) Try.func42 rfl rfl rfl (ar1 rfl) (law04_rows_calls r14.1 v14_0 r122 _ [] (Old.nil _) (i0_118.lift (Lift.sub (fun _ _ => trivial))) hr122) ?_)
                        rintro _ w122 ⟨v122, rfl, x122, n122_0, o122_0⟩
                        refine ⟨_, rfl, ?_⟩
                        have i122_0 : Rw w122 [] v122 r122 := OwK.slk (SlK.stab (Sc.stab _)) _ o122_0 (fun k hk => (Old.nil _) k (n122_0 k hk)) (fun _ h => h.2)
                        replace i0_118 := i0_118.lift (Lift.ext x122 _)
                        replace i1_118 := i1_118.lift (Lift.ext x122 _)
                        have e123 := hE118.trans x122
                        refine wla rfl rfl (q_move (v := p0) rfl s0_118) ?_
                        obtain ⟨r124, hr124, H⟩ := Option.bind_eq_some_iff.1 H
                        refine wls rfl rfl (stp_call (vs := [v122, p0]) Try.func41 rfl rfl rfl (ar2 rfl rfl) (law04_same_calls r122 a0l v122 p0 r124 _ (i122_0.lift (Lift.sub (fun _ _ => trivial))) (hp0.lift (Lift.ext e123 _)) hr124) ?_)
                        rintro _ w124 ⟨rfl, x124⟩
                        refine ⟨_, rfl, ?_⟩
                        replace i0_118 := i0_118.lift (Lift.ext x124 _)
                        replace i1_118 := i1_118.lift (Lift.ext x124 _)
                        replace i122_0 := i122_0.lift (Lift.ext x124 _)
                        have e125 := e123.trans x124
                        refine wla rfl rfl (q_not rfl rfl) ?_
                        refine wla rfl rfl (q_pick_f (v := (.bool ((!r124)))) rfl rfl rfl) ?_
                        refine wl_nil ?_
                        refine W_th ?_
                        refine W_cond _ rfl rfl (fun hb126 => ?_) (fun hb126 => ?_)
                        · replace H := (if_pos hb126).symm.trans H
                          refine W_seq ?_
                          refine W_reg (by kernel_rfl) ?_
                          refine wla rfl rfl (q_assign (v := (.bool false)) rfl rfl) ?_
                          refine wl_nil ?_
                          refine W_th ?_
                          refine W_ret ?_
                          refine th_r ?_
                          obtain rfl := Option.some.inj H
                          refine rt1 (.bool false) rfl rfl rfl s180_118 ?_
                          exact ⟨rfl, e125⟩
                        · replace H := (if_neg (ne_true_of_eq_false hb126)).symm.trans H
                          refine W_skip ?_
                          refine W_th ?_
                          refine W_seq ?_
                          refine W_seq ?_
                          refine W_reg (by kernel_rfl) ?_
                          refine wla rfl rfl (q_move (v := v46_0) rfl s12_118) ?_
                          obtain ⟨r127, hr127, H⟩ := Option.bind_eq_some_iff.1 H
                          refine wls rfl rfl (stp_call (vs := [v46_0]) Try.func42 rfl rfl rfl (ar1 rfl) (law04_rows_calls r46.1 v46_0 r127 _ [] (Old.nil _) (i1_118.lift (Lift.sub (fun _ _ => trivial))) hr127) ?_)
                          rintro _ w127 ⟨v127, rfl, x127, n127_0, o127_0⟩
                          refine ⟨_, rfl, ?_⟩
                          have i127_0 : Rw w127 [] v127 r127 := OwK.slk (SlK.stab (Sc.stab _)) _ o127_0 (fun k hk => (Old.nil _) k (n127_0 k hk)) (fun _ h => h.2)
                          replace i0_118 := i0_118.lift (Lift.ext x127 _)
                          replace i1_118 := i1_118.lift (Lift.ext x127 _)
                          replace i122_0 := i122_0.lift (Lift.ext x127 _)
                          have e128 := e125.trans x127
                          refine wla rfl rfl (q_len rfl T46.sl rfl i127_0) ?_
                          refine wla rfl rfl (q_move (v := (i64 0)) rfl rfl) ?_
                          refine wl_nil ?_
                          refine W_th ?_
                          obtain ⟨x129, G129, H⟩ := Option.bind_eq_some_iff.1 H
                          refine W_mid (fun f w => ∃ y129, x129 = .inl y129 ∧ f 0 = p0 ∧ f 5 = v14_0 ∧ f 180 = undef ∧ Ext w0 w ∧ Mx w [] v14_0 r14.1) ?_ ?_
                          · refine W_block ?_
                            refine W_loop (fun s129 f w => f 0 = p0 ∧ f 1 = p1 ∧ f 5 = v14_0 ∧ f 151 = v127 ∧ f 152 = (i64 ((r127.length : Int))) ∧ f 153 = (i64 s129) ∧ f 180 = undef ∧ Ext w0 w ∧ Mx w [] v14_0 r14.1 ∧ Rw w [] v127 r127) G129 ?_ ?_
                            · exact ⟨s0_118, s1_118, s5_118, rfl, rfl, rfl, s180_118, e128, i0_118, i127_0⟩
                            · rintro s129 _ _ w130 ⟨s0_130, s1_130, s5_130, s151_130, s152_130, s153_130, s180_130, hE130, i0_130, i1_130⟩ H129 hr129
                              refine W_seq ?_
                              refine W_reg (by kernel_rfl) ?_
                              refine wla rfl rfl (q_ltI rfl s153_130 s152_130) ?_
                              refine wl_nil ?_
                              refine W_th ?_
                              refine W_seq ?_
                              refine W_cond _ rfl rfl (fun hb131 => ?_) (fun hb131 => ?_)
                              · replace H129 := (if_pos (of_decide_eq_true hb131)).symm.trans H129
                                refine W_skip ?_
                                refine W_th ?_
                                refine W_seq ?_
                                refine W_block ?_
                                refine W_seq ?_
                                refine W_reg (by kernel_rfl) ?_
                                refine wla rfl rfl (q_move (v := (i64 s129)) rfl s153_130) ?_
                                obtain ⟨c132, hc132, H129⟩ := Option.bind_eq_some_iff.1 H129
                                refine wla rfl rfl (q_adr rfl T46 s151_130 s153_130 i1_130 hc132) ?_
                                refine wlq_load rfl rfl rfl T46 rfl i1_130 hc132 (Ext.refl _) (fun v133 i133 => ?_)
                                refine wla rfl rfl (q_assign (v := (i64 s129)) rfl rfl) ?_
                                refine wla rfl rfl (q_assign (v := v133) rfl rfl) ?_
                                refine wl_nil ?_
                                refine W_th ?_
                                refine W_seq ?_
                                refine W_draw [1, 6, 8, 9] [(0, 0), (1, 1), (2, 0), (3, 0), (4, 0), (5, 0), (6, 1), (7, 0), (8, 1), (9, 1), (10, 0)] mixed (by kernel_rfl) (by kernel_rfl) (by kernel_rfl) (by kernel_rfl) ?_
                                have x134 := Ext.drew w130
                                replace i0_130 := i0_130.lift (Lift.ext x134 _)
                                replace i1_130 := i1_130.lift (Lift.ext x134 _)
                                replace i133 := i133.lift (Lift.ext x134 _)
                                have e135 := hE130.trans x134
                                refine wsa rfl rfl rfl (q_move (v := v133) rfl rfl) ?_
                                refine wsq rfl rfl rfl (q_str rfl T22 rfl rfl rfl i133) ?_
                                refine wsa rfl rfl rfl (q_move (v := p0) rfl s0_130) ?_
                                refine wsa rfl rfl rfl (q_move (v := p1) rfl s1_130) ?_
                                refine wsa rfl rfl rfl (q_move (v := (i64 s129)) rfl rfl) ?_
                                obtain ⟨c136, hc136, H129⟩ := Option.bind_eq_some_iff.1 H129
                                refine wsa rfl rfl rfl (q_adr rfl T47 rfl rfl (hp1.lift (Lift.ext e135 _)) hc136) ?_
                                refine wsq rfl rfl rfl (q_loadS rfl T47 rfl (hp1.lift (Lift.ext e135 _)) hc136) ?_
                                obtain ⟨c137, hc137, H129⟩ := Option.bind_eq_some_iff.1 H129
                                refine wsa rfl rfl rfl (q_adr rfl T46 rfl rfl (hp0.lift (Lift.ext e135 _)) hc137) ?_
                                refine wsq_load rfl rfl rfl rfl T46 rfl hp0 hc137 e135 (fun v138 ha138 => ?_)
                                refine wsq rfl rfl rfl (q_str rfl T22 rfl rfl rfl (ha138.lift (Lift.ext e135 _))) ?_
                                refine wsa rfl rfl rfl (q_neS rfl rfl rfl) ?_
                                refine ws_nil ?_
                                refine W_th ?_
                                refine W_cond _ rfl rfl (fun hb139 => ?_) (fun hb139 => ?_)
                                · replace H129 := (if_neg (ndec_t hb139)).symm.trans H129
                                  refine W_seq ?_
                                  refine W_reg (by kernel_rfl) ?_
                                  refine wla rfl rfl (q_assign (v := (.bool false)) rfl rfl) ?_
                                  refine wl_nil ?_
                                  refine W_th ?_
                                  refine W_ret ?_
                                  refine bk_r ?_
                                  refine th_r ?_
                                  obtain rfl := Option.some.inj H129
                                  obtain rfl := hr129 _ rfl
                                  simp only [Sum.elim_inr] at H
                                  refine th_r ?_
                                  refine bk_r ?_
                                  refine th_r ?_
                                  refine th_r ?_
                                  obtain rfl := Option.some.inj H
                                  refine rt1 (.bool false) rfl rfl rfl s180_130 ?_
                                  exact ⟨rfl, e135⟩
                                · replace H129 := (if_pos (ndec_f hb139)).symm.trans H129
                                  refine W_skip ?_
                                  refine bk_n ?_
                                  refine W_th ?_
                                  refine W_reg (by kernel_rfl) ?_
                                  refine wla rfl rfl (q_addI rfl s153_130 rfl) ?_
                                  refine wla rfl rfl (q_move (v := (i64 ((wI (s129 + 1))))) rfl rfl) ?_
                                  refine wl_nil ?_
                                  obtain rfl := Option.some.inj H129
                                  exact ⟨_, rfl, s0_130, s1_130, s5_130, s151_130, s152_130, rfl, s180_130, e135, i0_130, i1_130⟩
                              · replace H129 := (if_neg (of_decide_eq_false hb131)).symm.trans H129
                                refine W_exit ?_
                                refine th_x ?_
                                obtain rfl := Option.some.inj H129
                                obtain rfl := hr129 _ rfl
                                refine th_x ?_
                                refine bk_x ?_
                                exact ⟨_, rfl, s0_130, s5_130, s180_130, hE130, i0_130⟩
                          · rintro _ w141 ⟨y129, rfl, s0_141, s5_141, s180_141, hE141, i0_141⟩
                            simp only [Sum.elim_inl] at H
                            refine W_th ?_
                            refine W_seq ?_
                            refine W_reg (by kernel_rfl) ?_
                            refine wla rfl rfl (q_move (v := v14_0) rfl s5_141) ?_
                            obtain ⟨r142, hr142, H⟩ := Option.bind_eq_some_iff.1 H
                            refine wls rfl rfl (stp_call (vs := [v14_0, (i64 (-1))]) Try.func43 rfl rfl rfl (ar2 rfl rfl) (matrix_Row_calls r14.1 (-1) v14_0 r142 _ (i0_141.lift (Lift.sub (fun _ _ => trivial))) hr142) ?_)
                            rintro _ w142 ⟨v142, rfl, x142, n142_0, o142_0⟩
                            refine ⟨_, rfl, ?_⟩
                            have i142_0 : By w142 [] v142 r142 := OwK.slk (Sc.stab _) _ (OwK.scal o142_0 (v142 :: [])) (fun k hk => (Old.nil _) k (n142_0 k hk)) (fun _ h => h.2)
                            replace i0_141 := i0_141.lift (Lift.ext x142 _)
                            have e143 := hE141.trans x142
                            refine wla rfl rfl (q_len rfl T22.sl rfl i142_0) ?_
                            refine wla rfl rfl (q_move (v := v14_0) rfl s5_141) ?_
                            refine wla rfl rfl (q_move (v := p0) rfl s0_141) ?_
                            refine wla rfl rfl (q_len rfl T46.sl rfl (hp0.lift (Lift.ext e143 _))) ?_
                            obtain ⟨r144, hr144, H⟩ := Option.bind_eq_some_iff.1 H
                            refine wls rfl rfl (stp_call (vs := [v14_0, (i64 ((a0l.length : Int)))]) Try.func43 rfl rfl rfl (ar2 rfl rfl) (matrix_Row_calls r14.1 (a0l.length : Int) v14_0 r144 _ (i0_141.lift (Lift.sub (fun _ _ => trivial))) hr144) ?_)
                            rintro _ w144 ⟨v144, rfl, x144, n144_0, o144_0⟩
                            refine ⟨_, rfl, ?_⟩
                            have i144_0 : By w144 [] v144 r144 := OwK.slk (Sc.stab _) _ (OwK.scal o144_0 (v144 :: [])) (fun k hk => (Old.nil _) k (n144_0 k hk)) (fun _ h => h.2)
                            replace i0_141 := i0_141.lift (Lift.ext x144 _)
                            replace i142_0 := i142_0.lift (Lift.ext x144 _)
                            have e145 := e143.trans x144
                            refine wla rfl rfl (q_len rfl T22.sl rfl i144_0) ?_
                            refine wla rfl rfl (q_addI rfl rfl rfl) ?_
                            refine wla rfl rfl (q_eqI rfl rfl rfl) ?_
                            refine wla rfl rfl (q_assign (v := (.bool ((decide ((wI ((r142.length : Int) + (r144.length : Int))) = 0))))) rfl rfl) ?_
                            refine wl_nil ?_
                            refine W_th ?_
                            refine W_ret ?_
                            obtain rfl := Option.some.inj H
                            refine rt1 (.bool ((decide ((wI ((r142.length : Int) + (r144.length : Int))) = 0)))) rfl rfl rfl s180_141 ?_
                            exact ⟨rfl, e145⟩
                    · replace H := (if_neg (ne_true_of_eq_false hb120)).symm.trans H
                      refine wlk rfl rfl ?_
                      refine wlk rfl rfl ?_
                      refine wla rfl rfl (q_pick_f (v := (.bool false)) rfl rfl rfl) ?_
                      refine wla rfl rfl (q_pick_f (v := (.bool false)) rfl rfl rfl) ?_
                      refine wla rfl rfl (q_move (v := (.bool false)) rfl rfl) ?_
                      refine wla rfl rfl (q_move (v := v14_0) rfl s5_118) ?_
                      obtain ⟨r147, hr147, H⟩ := Option.bind_eq_some_iff.1 H
                      refine wls rfl rfl (stp_call (vs := [v14_0]) Try.func42 rfl rfl rfl (ar1 rfl) (law04_rows_calls r14.1 v14_0 r147 _ [] (Old.nil _) (i0_118.lift (Lift.sub (fun _ _ => trivial))) hr147) ?_)
                      rintro _ w147 ⟨v147, rfl, x147, n147_0, o147_0⟩
                      refine ⟨_, rfl, ?_⟩
                      have i147_0 : Rw w147 [] v147 r147 := OwK.slk (SlK.stab (Sc.stab _)) _ o147_0 (fun k hk => (Old.nil _) k (n147_0 k hk)) (fun _ h => h.2)
                      replace i0_118 := i0_118.lift (Lift.ext x147 _)
                      replace i1_118 := i1_118.lift (Lift.ext x147 _)
                      have e148 := hE118.trans x147
                      refine wla rfl rfl (q_move (v := p0) rfl s0_118) ?_
                      obtain ⟨r149, hr149, H⟩ := Option.bind_eq_some_iff.1 H
                      refine wls rfl rfl (stp_call (vs := [v147, p0]) Try.func41 rfl rfl rfl (ar2 rfl rfl) (law04_same_calls r147 a0l v147 p0 r149 _ (i147_0.lift (Lift.sub (fun _ _ => trivial))) (hp0.lift (Lift.ext e148 _)) hr149) ?_)
                      rintro _ w149 ⟨rfl, x149⟩
                      refine ⟨_, rfl, ?_⟩
                      replace i0_118 := i0_118.lift (Lift.ext x149 _)
                      replace i1_118 := i1_118.lift (Lift.ext x149 _)
                      replace i147_0 := i147_0.lift (Lift.ext x149 _)
                      have e150 := e148.trans x149
                      refine wla rfl rfl (q_not rfl rfl) ?_
                      refine wla rfl rfl (q_pick_f (v := (.bool ((!r149)))) rfl rfl rfl) ?_
                      refine wl_nil ?_
                      refine W_th ?_
                      refine W_cond _ rfl rfl (fun hb151 => ?_) (fun hb151 => ?_)
                      · replace H := (if_pos hb151).symm.trans H
                        refine W_seq ?_
                        refine W_reg (by kernel_rfl) ?_
                        refine wla rfl rfl (q_assign (v := (.bool false)) rfl rfl) ?_
                        refine wl_nil ?_
                        refine W_th ?_
                        refine W_ret ?_
                        refine th_r ?_
                        obtain rfl := Option.some.inj H
                        refine rt1 (.bool false) rfl rfl rfl s180_118 ?_
                        exact ⟨rfl, e150⟩
                      · replace H := (if_neg (ne_true_of_eq_false hb151)).symm.trans H
                        refine W_skip ?_
                        refine W_th ?_
                        refine W_seq ?_
                        refine W_seq ?_
                        refine W_reg (by kernel_rfl) ?_
                        refine wla rfl rfl (q_move (v := v46_0) rfl s12_118) ?_
                        obtain ⟨r152, hr152, H⟩ := Option.bind_eq_some_iff.1 H
                        refine wls rfl rfl (stp_call (vs := [v46_0]) Try.func42 rfl rfl rfl (ar1 rfl) (law04_rows_calls r46.1 v46_0 r152 _ [] (Old.nil _) (i1_118.lift (Lift.sub (fun _ _ => trivial))) hr152) ?_)
                        rintro _ w152 ⟨v152, rfl, x152, n152_0, o152_0⟩
                        refine ⟨_, rfl, ?_⟩
                        have i152_0 : Rw w152 [] v152 r152 := OwK.slk (SlK.stab (Sc.stab _)) _ o152_0 (fun k hk => (Old.nil _) k (n152_0 k hk)) (fun _ h => h.2)
                        replace i0_118 := i0_118.lift (Lift.ext x152 _)
                        replace i1_118 := i1_118.lift (Lift.ext x152 _)
                        replace i147_0 := i147_0.lift (Lift.ext x152 _)
                        have e153 := e150.trans x152
                        refine wla rfl rfl (q_len rfl T46.sl rfl i152_0) ?_
                        refine wla rfl rfl (q_move (v := (i64 0)) rfl rfl) ?_
                        refine wl_nil ?_
                        refine W_th ?_
                        obtain ⟨x154, G154, H⟩ := Option.bind_eq_some_iff.1 H
                        refine W_mid (fun f w => ∃ y154, x154 = .inl y154 ∧ f 0 = p0 ∧ f 5 = v14_0 ∧ f 180 = undef ∧ Ext w0 w ∧ Mx w [] v14_0 r14.1) ?_ ?_
                        · refine W_block ?_
                          refine W_loop (fun s154 f w => f 0 = p0 ∧ f 1 = p1 ∧ f 5 = v14_0 ∧ f 151 = v152 ∧ f 152 = (i64 ((r152.length : Int))) ∧ f 153 = (i64 s154) ∧ f 180 = undef ∧ Ext w0 w ∧ Mx w [] v14_0 r14.1 ∧ Rw w [] v152 r152) G154 ?_ ?_
                          · exact ⟨s0_118, s1_118, s5_118, rfl, rfl, rfl, s180_118, e153, i0_118, i152_0⟩
                          · rintro s154 _ _ w155 ⟨s0_155, s1_155, s5_155, s151_155, s152_155, s153_155, s180_155, hE155, i0_155, i1_155⟩ H154 hr154
                            refine W_seq ?_
                            refine W_reg (by kernel_rfl) ?_
                            refine wla rfl rfl (q_ltI rfl s153_155 s152_155) ?_
                            refine wl_nil ?_
                            refine W_th ?_
                            refine W_seq ?_
                            refine W_cond _ rfl rfl (fun hb156 => ?_) (fun hb156 => ?_)
                            · replace H154 := (if_pos (of_decide_eq_true hb156)).symm.trans H154
                              refine W_skip ?_
                              refine W_th ?_
                              refine W_seq ?_
                              refine W_block ?_
                              refine W_seq ?_
                              refine W_reg (by kernel_rfl) ?_
                              refine wla rfl rfl (q_move (v := (i64 s154)) rfl s153_155) ?_
                              obtain ⟨c157, hc157, H154⟩ := Option.bind_eq_some_iff.1 H154
                              refine wla rfl rfl (q_adr rfl T46 s151_155 s153_155 i1_155 hc157) ?_
                              refine wlq_load rfl rfl rfl T46 rfl i1_155 hc157 (Ext.refl _) (fun v158 i158 => ?_)
                              refine wla rfl rfl (q_assign (v := (i64 s154)) rfl rfl) ?_
                              refine wla rfl rfl (q_assign (v := v158) rfl rfl) ?_
                              refine wl_nil ?_
                              refine W_th ?_
                              refine W_seq ?_
                              refine W_draw [1, 6, 8, 9] [(0, 0), (1, 1), (2, 0), (3, 0), (4, 0), (5, 0), (6, 1), (7, 0), (8, 1), (9, 1), (10, 0)] mixed (by kernel_rfl) (by kernel_rfl) (by kernel_rfl) (by kernel_rfl) ?_
                              have x159 := Ext.drew w155
                              replace i0_155 := i0_155.lift (Lift.ext x159 _)
                              replace i1_155 := i1_155.lift (Lift.ext x159 _)
                              replace i158 := i158.lift (Lift.ext x159 _)
                              have e160 := hE155.trans x159
                              refine wsa rfl rfl rfl (q_move (v := v158) rfl rfl) ?_
                              refine wsq rfl rfl rfl (q_str rfl T22 rfl rfl rfl i158) ?_
                              refine wsa rfl rfl rfl (q_move (v := p0) rfl s0_155) ?_
                              refine wsa rfl rfl rfl (q_move (v := p1) rfl s1_155) ?_
                              refine wsa rfl rfl rfl (q_move (v := (i64 s154)) rfl rfl) ?_
                              obtain ⟨c161, hc161, H154⟩ := Option.bind_eq_some_iff.1 H154
                              refine wsa rfl rfl rfl (q_adr rfl T47 rfl rfl (hp1.lift (Lift.ext e160 _)) hc161) ?_
                              refine wsq rfl rfl rfl (q_loadS rfl T47 rfl (hp1.lift (Lift.ext e160 _)) hc161) ?_
                              obtain ⟨c162, hc162, H154⟩ := Option.bind_eq_some_iff.1 H154
                              refine wsa rfl rfl rfl (q_adr rfl T46 rfl rfl (hp0.lift (Lift.ext e160 _)) hc162) ?_
                              refine wsq_load rfl rfl rfl rfl T46 rfl hp0 hc162 e160 (fun v163 ha163 => ?_)
                              refine wsq rfl rfl rfl (q_str rfl T22 rfl rfl rfl (ha163.lift (Lift.ext e160 _))) ?_
                              refine wsa rfl rfl rfl (q_neS rfl rfl rfl) ?_
                              refine ws_nil ?_
                              refine W_th ?_
                              refine W_cond _ rfl rfl (fun hb164 => ?_) (fun hb164 => ?_)
                              · replace H154 := (if_neg (ndec_t hb164)).symm.trans H154
                                refine W_seq ?_
                                refine W_reg (by kernel_rfl) ?_
                                refine wla rfl rfl (q_assign (v := (.bool false)) rfl rfl) ?_
                                refine wl_nil ?_
                                refine W_th ?_
                                refine W_ret ?_
                                refine bk_r ?_
                                refine th_r ?_
                                obtain rfl := Option.some.inj H154
                                obtain rfl := hr154 _ rfl
                                simp only [Sum.elim_inr] at H
                                refine th_r ?_
                                refine bk_r ?_
                                refine th_r ?_
                                refine th_r ?_
                                obtain rfl := Option.some.inj H
                                refine rt1 (.bool false) rfl rfl rfl s180_155 ?_
                                exact ⟨rfl, e160⟩
                              · replace H154 := (if_pos (ndec_f hb164)).symm.trans H154
                                refine W_skip ?_
                                refine bk_n ?_
                                refine W_th ?_
                                refine W_reg (by kernel_rfl) ?_
                                refine wla rfl rfl (q_addI rfl s153_155 rfl) ?_
                                refine wla rfl rfl (q_move (v := (i64 ((wI (s154 + 1))))) rfl rfl) ?_
                                refine wl_nil ?_
                                obtain rfl := Option.some.inj H154
                                exact ⟨_, rfl, s0_155, s1_155, s5_155, s151_155, s152_155, rfl, s180_155, e160, i0_155, i1_155⟩
                            · replace H154 := (if_neg (of_decide_eq_false hb156)).symm.trans H154
                              refine W_exit ?_
                              refine th_x ?_
                              obtain rfl := Option.some.inj H154
                              obtain rfl := hr154 _ rfl
                              refine th_x ?_
                              refine bk_x ?_
                              exact ⟨_, rfl, s0_155, s5_155, s180_155, hE155, i0_155⟩
                        · rintro _ w166 ⟨y154, rfl, s0_166, s5_166, s180_166, hE166, i0_166⟩
                          simp only [Sum.elim_inl] at H
                          refine W_th ?_
                          refine W_seq ?_
                          refine W_reg (by kernel_rfl) ?_
                          refine wla rfl rfl (q_move (v := v14_0) rfl s5_166) ?_
                          obtain ⟨r167, hr167, H⟩ := Option.bind_eq_some_iff.1 H
                          refine wls rfl rfl (stp_call (vs := [v14_0, (i64 (-1))]) Try.func43 rfl rfl rfl (ar2 rfl rfl) (matrix_Row_calls r14.1 (-1) v14_0 r167 _ (i0_166.lift (Lift.sub (fun _ _ => trivial))) hr167) ?_)
                          rintro _ w167 ⟨v167, rfl, x167, n167_0, o167_0⟩
                          refine ⟨_, rfl, ?_⟩
                          have i167_0 : By w167 [] v167 r167 := OwK.slk (Sc.stab _) _ (OwK.scal o167_0 (v167 :: [])) (fun k hk => (Old.nil _) k (n167_0 k hk)) (fun _ h => h.2)
                          replace i0_166 := i0_166.lift (Lift.ext x167 _)
                          have e168 := hE166.trans x167
                          refine wla rfl rfl (q_len rfl T22.sl rfl i167_0) ?_
                          refine wla rfl rfl (q_move (v := v14_0) rfl s5_166) ?_
                          refine wla rfl rfl (q_move (v := p0) rfl s0_166) ?_
                          refine wla rfl rfl (q_len rfl T46.sl rfl (hp0.lift (Lift.ext e168 _))) ?_
                          obtain ⟨r169, hr169, H⟩ := Option.bind_eq_some_iff.1 H
                          refine wls rfl rfl (stp_call (vs := [v14_0, (i64 ((a0l.length : Int)))]) Try.func43 rfl rfl rfl (ar2 rfl rfl) (matrix_Row_calls r14.1 (a0l.length : Int) v14_0 r169 _ (i0_166.lift (Lift.sub (fun _ _ => trivial))) hr169) ?_)
                          rintro _ w169 ⟨v169, rfl, x169, n169_0, o169_0⟩
                          refine ⟨_, rfl, ?_⟩
                          have i169_0 : By w169 [] v169 r169 := OwK.slk (Sc.stab _) _ (OwK.scal o169_0 (v169 :: [])) (fun k hk => (Old.nil _) k (n169_0 k hk)) (fun _ h => h.2)
                          replace i0_166 := i0_166.lift (Lift.ext x169 _)
                          replace i167_0 := i167_0.lift (Lift.ext x169 _)
                          have e170 := e168.trans x169
                          refine wla rfl rfl (q_len rfl T22.sl rfl i169_0) ?_
                          refine wla rfl rfl (q_addI rfl rfl rfl) ?_
                          refine wla rfl rfl (q_eqI rfl rfl rfl) ?_
                          refine wla rfl rfl (q_assign (v := (.bool ((decide ((wI ((r167.length : Int) + (r169.length : Int))) = 0))))) rfl rfl) ?_
                          refine wl_nil ?_
                          refine W_th ?_
                          refine W_ret ?_
                          obtain rfl := Option.some.inj H
                          refine rt1 (.bool ((decide ((wI ((r167.length : Int) + (r169.length : Int))) = 0)))) rfl rfl rfl s180_166 ?_
                          exact ⟨rfl, e170⟩

end Gk

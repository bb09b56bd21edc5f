/- Printed by gen.py: for each Go function a pure function, and that the Go code comes to it. No condition beside the equation that says what the pure function gives. -/
import Derived.Test.YtabcmfkmddlaaaaF9
set_option linter.unusedVariables false
set_option linter.unusedSimpArgs false
namespace Gk
open Go Go.Proofs

/-! largesse/largesselaw09.lives -/
noncomputable def law09_lives  : Option Bool :=
((field_New ).bind fun r1 =>
((code_Encode r1 3 ([([(1 : UInt8)] : List UInt8), ([(2 : UInt8)] : List UInt8)] : List (List UInt8))).bind fun r9 =>
(if r9.2 = 0 then
(if (r9.1.length : Int) = 3 then
((idx r9.1 1).bind fun c13 =>
(if c13 = ([2] : List UInt8) then
((idx r9.1 2).bind fun c16 => some (decide (c16 = ([3] : List UInt8))))
else some false))
else some false)
else some false)))
set_option maxRecDepth 100000 in
set_option maxHeartbeats 8000000 in
theorem law09_lives_calls  (r : Bool) (w0 : World) (H : law09_lives = some r) :
    Calls Try.prog 30 [].toArray w0 (fun e w' => e = .returned (.bool r) ∧ Ext w0 w') := by
  have hE : Ext w0 w0 := Ext.refl w0
  unfold law09_lives at H
  refine calls_W (n := 32) Try.func30 rfl rfl rfl ?_
  refine W_seq ?_
  refine W_reg (by kernel_rfl) ?_
  refine wla rfl rfl (q_assign (v := (.bool false)) rfl rfl) ?_
  refine wl_nil ?_
  refine W_th ?_
  refine W_seq ?_
  refine W_reg (by kernel_rfl) ?_
  obtain ⟨r1, hr1, H⟩ := Option.bind_eq_some_iff.1 H
  refine wls rfl rfl (stp_call (vs := []) Try.func14 rfl rfl rfl (ar0 ) (field_New_calls   r1 _ [] (Old.nil _)  hr1) ?_)
  rintro _ w1 ⟨v1, rfl, x1, i1_0⟩
  refine ⟨_, rfl, ?_⟩
  have e2 := hE.trans x1
  refine wls rfl rfl (stp_lit (L := []) (R := (Sc u8)) [(u8 1)] ([(1 : UInt8)] : List UInt8) rfl T22 rfl (by exact ⟨rfl, (cst8 (1 : UInt8) rfl), trivial⟩) rfl (litC u8 (oneC_u8) (us := [(u8 1)]) (l := ([(1 : UInt8)] : List UInt8)) rfl) rfl (litS u8 (us := [(u8 1)]) (l := ([(1 : UInt8)] : List UInt8)) rfl) ?_)
  intro v3 w3 o3 n3 g3 l3
  have x3 := grown_ext g3
  have i3 : By w3 [] v3 (([(1 : UInt8)] : List UInt8)) := OwK.slk (Sc.stab _) _ o3 (fun k hk => (Old.nil _) k (n3 k hk)) (fun _ h => h.2)
  replace i1_0 := i1_0.lift (Lift.ext x3 _)
  have e4 := e2.trans x3
  refine wls rfl rfl (stp_lit (L := []) (R := (Sc u8)) [(u8 2)] ([(2 : UInt8)] : List UInt8) rfl T22 rfl (by exact ⟨rfl, (cst8 (2 : UInt8) rfl), trivial⟩) rfl (litC u8 (oneC_u8) (us := [(u8 2)]) (l := ([(2 : UInt8)] : List UInt8)) rfl) rfl (litS u8 (us := [(u8 2)]) (l := ([(2 : UInt8)] : List UInt8)) rfl) ?_)
  intro v5 w5 o5 n5 g5 l5
  have x5 := grown_ext g5
  have i5 : By w5 [] v5 (([(2 : UInt8)] : List UInt8)) := OwK.slk (Sc.stab _) _ o5 (fun k hk => (Old.nil _) k (n5 k hk)) (fun _ h => h.2)
  replace i1_0 := i1_0.lift (Lift.ext x5 _)
  replace i3 := i3.lift (Lift.ext x5 _)
  have e6 := e4.trans x5
  refine wls rfl rfl (stp_lit (L := []) (R := By) [v3, v5] ([([(1 : UInt8)] : List UInt8), ([(2 : UInt8)] : List UInt8)] : List (List UInt8)) rfl T23 rfl (by exact ⟨rfl, rfl, rfl, rfl, trivial⟩) rfl (LitR.cells (LitR.cons i3 (LitR.cons i5 LitR.nil)) (fun u x h => cells_sl u x h)) rfl (LitR.all (SlK.stab (Sc.stab _)) (LitR.cons i3 (LitR.cons i5 LitR.nil))) ?_)
  intro v7 w7 o7 n7 g7 l7
  have x7 := grown_ext g7
  have i7 : Rw w7 [] v7 (([([(1 : UInt8)] : List UInt8), ([(2 : UInt8)] : List UInt8)] : List (List UInt8))) := OwK.slk (SlK.stab (Sc.stab _)) _ o7 (fun k hk => (Old.nil _) k (n7 k hk)) (fun _ h => h.2)
  replace i1_0 := i1_0.lift (Lift.ext x7 _)
  replace i3 := i3.lift (Lift.ext x7 _)
  replace i5 := i5.lift (Lift.ext x7 _)
  have e8 := e6.trans x7
  obtain ⟨r9, hr9, H⟩ := Option.bind_eq_some_iff.1 H
  refine wls rfl rfl (stp_call (vs := [v1, (i64 3), v7]) Try.func33 rfl rfl rfl (ar3 rfl rfl rfl) (code_Encode_calls r1 3 ([([(1 : UInt8)] : List UInt8), ([(2 : UInt8)] : List UInt8)] : List (List UInt8)) v1 v7 r9 _ [] (Old.nil _) (i1_0.lift (Lift.sub (fun _ _ => trivial))) (i7.lift (Lift.sub (fun _ _ => trivial))) hr9) ?_)
  rintro _ w9 ⟨v9_0, rfl, x9, n9_0, o9_0⟩
  refine ⟨_, rfl, ?_⟩
  have i9_0 : Rw w9 [] v9_0 r9.1 := OwK.slk (SlK.stab (Sc.stab _)) _ o9_0 (fun k hk => (Old.nil _) k (n9_0 k hk)) (fun _ h => h.2)
  replace i1_0 := i1_0.lift (Lift.ext x9 _)
  replace i3 := i3.lift (Lift.ext x9 _)
  replace i5 := i5.lift (Lift.ext x9 _)
  replace i7 := i7.lift (Lift.ext x9 _)
  have e10 := e8.trans x9
  refine wla rfl rfl (q_move (v := (.tuple #[v9_0, (i64 r9.2)])) rfl rfl) ?_
  refine wla rfl rfl (q_extract rfl rfl rfl) ?_
  refine wla rfl rfl (q_extract rfl rfl rfl) ?_
  refine wla rfl rfl (q_assign (v := v9_0) rfl rfl) ?_
  refine wla rfl rfl (q_assign (v := (i64 r9.2)) rfl rfl) ?_
  refine wl_nil ?_
  refine W_th ?_
  refine W_seq ?_
  refine W_reg (by kernel_rfl) ?_
  refine wla rfl rfl (q_move (v := (i64 r9.2)) rfl rfl) ?_
  refine wla rfl rfl (q_eqI rfl rfl rfl) ?_
  refine wlb rfl rfl (q_move (v := (.bool ((decide (r9.2 = 0))))) rfl rfl) (fun hb11 => ?_) (fun hb11 => ?_)
  · replace H := (if_pos (of_decide_eq_true hb11)).symm.trans H
    refine wla rfl rfl (q_move (v := v9_0) rfl rfl) ?_
    refine wla rfl rfl (q_len rfl T23.sl rfl i9_0) ?_
    refine wla rfl rfl (q_eqI rfl rfl rfl) ?_
    refine wla rfl rfl (q_pick_t (v := (.bool ((decide ((r9.1.length : Int) = 3))))) rfl rfl rfl) ?_
    refine wlb rfl rfl (q_move (v := (.bool ((decide ((r9.1.length : Int) = 3))))) rfl rfl) (fun hb12 => ?_) (fun hb12 => ?_)
    · replace H := (if_pos (of_decide_eq_true hb12)).symm.trans H
      refine wla rfl rfl (q_move (v := v9_0) rfl rfl) ?_
      obtain ⟨c13, hc13, H⟩ := Option.bind_eq_some_iff.1 H
      refine wla rfl rfl (q_adr rfl T23 rfl rfl i9_0 hc13) ?_
      refine wlq_load rfl rfl rfl T23 rfl i9_0 hc13 (Ext.refl _) (fun v14 i14 => ?_)
      refine wlq rfl rfl (q_str rfl T22 rfl rfl rfl i14) ?_
      refine wla rfl rfl (q_eqS rfl rfl rfl) ?_
      refine wla rfl rfl (q_pick_t (v := (.bool ((decide (c13 = ([2] : List UInt8)))))) rfl rfl rfl) ?_
      refine wlb rfl rfl (q_move (v := (.bool ((decide (c13 = ([2] : List UInt8)))))) rfl rfl) (fun hb15 => ?_) (fun hb15 => ?_)
      · replace H := (if_pos (of_decide_eq_true hb15)).symm.trans H
        refine wla rfl rfl (q_move (v := v9_0) rfl rfl) ?_
        obtain ⟨c16, hc16, H⟩ := Option.bind_eq_some_iff.1 H
        refine wla rfl rfl (q_adr rfl T23 rfl rfl i9_0 hc16) ?_
        refine wlq_load rfl rfl rfl T23 rfl i9_0 hc16 (Ext.refl _) (fun v17 i17 => ?_)
        refine wlq rfl rfl (q_str rfl T22 rfl rfl rfl i17) ?_
        refine wla rfl rfl (q_eqS rfl rfl rfl) ?_
        refine wla rfl rfl (q_pick_t (v := (.bool ((decide (c16 = ([3] : List UInt8)))))) rfl rfl rfl) ?_
        refine wla rfl rfl (q_assign (v := (.bool ((decide (c16 = ([3] : List UInt8)))))) rfl rfl) ?_
        refine wl_nil ?_
        refine W_th ?_
        refine W_ret ?_
        obtain rfl := Option.some.inj H
        refine rt1 (.bool ((decide (c16 = ([3] : List UInt8))))) rfl rfl rfl rfl ?_
        exact ⟨rfl, e10⟩
      · replace H := (if_neg (of_decide_eq_false hb15)).symm.trans H
        refine wlk rfl rfl ?_
        refine wlk rfl rfl ?_
        refine wlk rfl rfl ?_
        refine wlk rfl rfl ?_
        refine wlk rfl rfl ?_
        refine wla rfl rfl (q_pick_f (v := (.bool false)) rfl rfl rfl) ?_
        refine wla rfl rfl (q_assign (v := (.bool false)) rfl rfl) ?_
        refine wl_nil ?_
        refine W_th ?_
        refine W_ret ?_
        obtain rfl := Option.some.inj H
        refine rt1 (.bool false) rfl rfl rfl rfl ?_
        exact ⟨rfl, e10⟩
    · replace H := (if_neg (of_decide_eq_false hb12)).symm.trans H
      refine wlk rfl rfl ?_
      refine wlk rfl rfl ?_
      refine wlk rfl rfl ?_
      refine wlk rfl rfl ?_
      refine wlk rfl rfl ?_
      refine wla rfl rfl (q_pick_f (v := (.bool false)) rfl rfl rfl) ?_
      refine wla rfl rfl (q_move (v := (.bool false)) rfl rfl) ?_
      refine wlk rfl rfl ?_
      refine wlk rfl rfl ?_
      refine wlk rfl rfl ?_
      refine wlk rfl rfl ?_
      refine wlk rfl rfl ?_
      refine wla rfl rfl (q_pick_f (v := (.bool false)) rfl rfl rfl) ?_
      refine wla rfl rfl (q_assign (v := (.bool false)) rfl rfl) ?_
      refine wl_nil ?_
      refine W_th ?_
      refine W_ret ?_
      obtain rfl := Option.some.inj H
      refine rt1 (.bool false) rfl rfl rfl rfl ?_
      exact ⟨rfl, e10⟩
  · replace H := (if_neg (of_decide_eq_false hb11)).symm.trans H
    refine wlk rfl rfl ?_
    refine wlk rfl rfl ?_
    refine wlk rfl rfl ?_
    refine wla rfl rfl (q_pick_f (v := (.bool false)) rfl rfl rfl) ?_
    refine wla rfl rfl (q_move (v := (.bool false)) rfl rfl) ?_
    refine wlk rfl rfl ?_
    refine wlk rfl rfl ?_
    refine wlk rfl rfl ?_
    refine wlk rfl rfl ?_
    refine wlk rfl rfl ?_
    refine wla rfl rfl (q_pick_f (v := (.bool false)) rfl rfl rfl) ?_
    refine wla rfl rfl (q_move (v := (.bool false)) rfl rfl) ?_
    refine wlk rfl rfl ?_
    refine wlk rfl rfl ?_
    refine wlk rfl rfl ?_
    refine wlk rfl rfl ?_
    refine wlk rfl rfl ?_
    refine wla rfl rfl (q_pick_f (v := (.bool false)) rfl rfl rfl) ?_
    refine wla rfl rfl (q_assign (v := (.bool false)) rfl rfl) ?_
    refine wl_nil ?_
    refine W_th ?_
    refine W_ret ?_
    obtain rfl := Option.some.inj H
    refine rt1 (.bool false) rfl rfl rfl rfl ?_
    exact ⟨rfl, e10⟩

/-! largesse/largesselaw09.few -/
noncomputable def law09_few (a0l : List (List UInt8)) : Option Bool :=
(if 12 < (a0l.length : Int) then some false
else
((iterC (fun s2 : Int =>
(if s2 < (a0l.length : Int) then
((idx a0l s2).bind fun c5 =>
(if 20 < (c5.length : Int) then some (.inr (.inr false))
else some (.inl (wI (s2 + 1)))))
else some (.inr (.inl ())))) 0).bind (Sum.elim (fun y2 => some true) (fun q2 => some q2))))
set_option maxRecDepth 100000 in
set_option maxHeartbeats 8000000 in
theorem law09_few_calls (a0l : List (List UInt8)) (p0 : Value) (r : Bool) (w0 : World) (hp0 : Rw w0 [] p0 a0l) (H : law09_few a0l = some r) :
    Calls Try.prog 31 [p0].toArray w0 (fun e w' => e = .returned (.bool r) ∧ Ext w0 w') := by
  have hE : Ext w0 w0 := Ext.refl w0
  unfold law09_few at H
  refine calls_W (n := 18) Try.func31 rfl rfl rfl ?_
  refine W_seq ?_
  refine W_reg (by kernel_rfl) ?_
  refine wla rfl rfl (q_assign (v := (.bool false)) rfl rfl) ?_
  refine wl_nil ?_
  refine W_th ?_
  refine W_seq ?_
  refine W_seq ?_
  refine W_reg (by kernel_rfl) ?_
  refine wla rfl rfl (q_move (v := p0) rfl rfl) ?_
  refine wla rfl rfl (q_len rfl T23.sl rfl (hp0.lift (Lift.ext hE _))) ?_
  refine wla rfl rfl (q_gtI rfl rfl rfl) ?_
  refine wl_nil ?_
  refine W_th ?_
  refine W_cond _ rfl rfl (fun hb1 => ?_) (fun hb1 => ?_)
  · replace H := (if_pos (of_decide_eq_true hb1)).symm.trans H
    refine W_seq ?_
    refine W_reg (by kernel_rfl) ?_
    refine wla rfl rfl (q_assign (v := (.bool false)) rfl rfl) ?_
    refine wl_nil ?_
    refine W_th ?_
    refine W_ret ?_
    refine th_r ?_
    obtain rfl := Option.some.inj H
    refine rt1 (.bool false) rfl rfl rfl rfl ?_
    exact ⟨rfl, hE⟩
  · replace H := (if_neg (of_decide_eq_false hb1)).symm.trans H
    refine W_skip ?_
    refine W_th ?_
    refine W_seq ?_
    refine W_seq ?_
    refine W_reg (by kernel_rfl) ?_
    refine wla rfl rfl (q_move (v := p0) rfl rfl) ?_
    refine wla rfl rfl (q_len rfl T23.sl rfl (hp0.lift (Lift.ext hE _))) ?_
    refine wla rfl rfl (q_move (v := (i64 0)) rfl rfl) ?_
    refine wl_nil ?_
    refine W_th ?_
    obtain ⟨x2, G2, H⟩ := Option.bind_eq_some_iff.1 H
    refine W_mid (fun f w => ∃ y2, x2 = .inl y2 ∧ f 18 = undef ∧ Ext w0 w) ?_ ?_
    · refine W_block ?_
      refine W_loop (fun s2 f w => f 8 = p0 ∧ f 9 = (i64 ((a0l.length : Int))) ∧ f 10 = (i64 s2) ∧ f 18 = undef ∧ Ext w0 w) G2 ?_ ?_
      · exact ⟨rfl, rfl, rfl, rfl, hE⟩
      · rintro s2 _ _ w3 ⟨s8_3, s9_3, s10_3, s18_3, hE3⟩ H2 hr2
        refine W_seq ?_
        refine W_reg (by kernel_rfl) ?_
        refine wla rfl rfl (q_ltI rfl s10_3 s9_3) ?_
        refine wl_nil ?_
        refine W_th ?_
        refine W_seq ?_
        refine W_cond _ rfl rfl (fun hb4 => ?_) (fun hb4 => ?_)
        · replace H2 := (if_pos (of_decide_eq_true hb4)).symm.trans H2
          refine W_skip ?_
          refine W_th ?_
          refine W_seq ?_
          refine W_block ?_
          refine W_seq ?_
          refine W_reg (by kernel_rfl) ?_
          obtain ⟨c5, hc5, H2⟩ := Option.bind_eq_some_iff.1 H2
          refine wla rfl rfl (q_adr rfl T23 s8_3 s10_3 (hp0.lift (Lift.ext hE3 _)) hc5) ?_
          refine wlq_load rfl rfl rfl T23 rfl hp0 hc5 hE3 (fun v6 ha6 => ?_)
          refine wla rfl rfl (q_assign (v := v6) rfl rfl) ?_
          refine wl_nil ?_
          refine W_th ?_
          refine W_seq ?_
          refine W_reg (by kernel_rfl) ?_
          refine wla rfl rfl (q_move (v := v6) rfl rfl) ?_
          refine wla rfl rfl (q_len rfl T22.sl rfl (ha6.lift (Lift.ext hE3 _))) ?_
          refine wla rfl rfl (q_gtI rfl rfl rfl) ?_
          refine wl_nil ?_
          refine W_th ?_
          refine W_cond _ rfl rfl (fun hb7 => ?_) (fun hb7 => ?_)
          · replace H2 := (if_pos (of_decide_eq_true hb7)).symm.trans H2
            refine W_seq ?_
            refine W_reg (by kernel_rfl) ?_
            refine wla rfl rfl (q_assign (v := (.bool false)) rfl rfl) ?_
            refine wl_nil ?_
            refine W_th ?_
            refine W_ret ?_
            refine bk_r ?_
            refine th_r ?_
            obtain rfl := Option.some.inj H2
            obtain rfl := hr2 _ rfl
            simp only [Sum.elim_inr] at H
            refine th_r ?_
            refine bk_r ?_
            refine th_r ?_
            refine th_r ?_
            obtain rfl := Option.some.inj H
            refine rt1 (.bool false) rfl rfl rfl s18_3 ?_
            exact ⟨rfl, hE3⟩
          · replace H2 := (if_neg (of_decide_eq_false hb7)).symm.trans H2
            refine W_skip ?_
            refine bk_n ?_
            refine W_th ?_
            refine W_reg (by kernel_rfl) ?_
            refine wla rfl rfl (q_addI rfl s10_3 rfl) ?_
            refine wla rfl rfl (q_move (v := (i64 ((wI (s2 + 1))))) rfl rfl) ?_
            refine wl_nil ?_
            obtain rfl := Option.some.inj H2
            exact ⟨_, rfl, s8_3, s9_3, rfl, s18_3, hE3⟩
        · replace H2 := (if_neg (of_decide_eq_false hb4)).symm.trans H2
          refine W_exit ?_
          refine th_x ?_
          obtain rfl := Option.some.inj H2
          obtain rfl := hr2 _ rfl
          refine th_x ?_
          refine bk_x ?_
          exact ⟨_, rfl, s18_3, hE3⟩
    · rintro _ w9 ⟨y2, rfl, s18_9, hE9⟩
      simp only [Sum.elim_inl] at H
      refine W_th ?_
      refine W_seq ?_
      refine W_reg (by kernel_rfl) ?_
      refine wla rfl rfl (q_assign (v := (.bool true)) rfl rfl) ?_
      refine wl_nil ?_
      refine W_th ?_
      refine W_ret ?_
      obtain rfl := Option.some.inj H
      refine rt1 (.bool true) rfl rfl rfl s18_9 ?_
      exact ⟨rfl, hE9⟩

/-! largesse/largesselaw09.unlike -/
noncomputable def law09_unlike (a0l : List (List UInt8)) : Option Bool :=
((iterC (fun s1 : Int =>
(if s1 < (a0l.length : Int) then
((idx a0l s1).bind fun c4 =>
((idx a0l 0).bind fun c6 =>
(if (c4.length : Int) = (c6.length : Int) then some (.inl (wI (s1 + 1)))
else some (.inr (.inr true)))))
else some (.inr (.inl ())))) 0).bind (Sum.elim (fun y1 => some false) (fun q1 => some q1)))
set_option maxRecDepth 100000 in
set_option maxHeartbeats 8000000 in
theorem law09_unlike_calls (a0l : List (List UInt8)) (p0 : Value) (r : Bool) (w0 : World) (hp0 : Rw w0 [] p0 a0l) (H : law09_unlike a0l = some r) :
    Calls Try.prog 32 [p0].toArray w0 (fun e w' => e = .returned (.bool r) ∧ Ext w0 w') := by
  have hE : Ext w0 w0 := Ext.refl w0
  unfold law09_unlike at H
  refine calls_W (n := 19) Try.func32 rfl rfl rfl ?_
  refine W_seq ?_
  refine W_reg (by kernel_rfl) ?_
  refine wla rfl rfl (q_assign (v := (.bool false)) rfl rfl) ?_
  refine wl_nil ?_
  refine W_th ?_
  refine W_seq ?_
  refine W_seq ?_
  refine W_reg (by kernel_rfl) ?_
  refine wla rfl rfl (q_move (v := p0) rfl rfl) ?_
  refine wla rfl rfl (q_len rfl T23.sl rfl (hp0.lift (Lift.ext hE _))) ?_
  refine wla rfl rfl (q_move (v := (i64 0)) rfl rfl) ?_
  refine wl_nil ?_
  refine W_th ?_
  obtain ⟨x1, G1, H⟩ := Option.bind_eq_some_iff.1 H
  refine W_mid (fun f w => ∃ y1, x1 = .inl y1 ∧ f 19 = undef ∧ Ext w0 w) ?_ ?_
  · refine W_block ?_
    refine W_loop (fun s1 f w => f 0 = p0 ∧ f 5 = p0 ∧ f 6 = (i64 ((a0l.length : Int))) ∧ f 7 = (i64 s1) ∧ f 19 = undef ∧ Ext w0 w) G1 ?_ ?_
    · exact ⟨rfl, rfl, rfl, rfl, rfl, hE⟩
    · rintro s1 _ _ w2 ⟨s0_2, s5_2, s6_2, s7_2, s19_2, hE2⟩ H1 hr1
      refine W_seq ?_
      refine W_reg (by kernel_rfl) ?_
      refine wla rfl rfl (q_ltI rfl s7_2 s6_2) ?_
      refine wl_nil ?_
      refine W_th ?_
      refine W_seq ?_
      refine W_cond _ rfl rfl (fun hb3 => ?_) (fun hb3 => ?_)
      · replace H1 := (if_pos (of_decide_eq_true hb3)).symm.trans H1
        refine W_skip ?_
        refine W_th ?_
        refine W_seq ?_
        refine W_block ?_
        refine W_seq ?_
        refine W_reg (by kernel_rfl) ?_
        obtain ⟨c4, hc4, H1⟩ := Option.bind_eq_some_iff.1 H1
        refine wla rfl rfl (q_adr rfl T23 s5_2 s7_2 (hp0.lift (Lift.ext hE2 _)) hc4) ?_
        refine wlq_load rfl rfl rfl T23 rfl hp0 hc4 hE2 (fun v5 ha5 => ?_)
        refine wla rfl rfl (q_assign (v := v5) rfl rfl) ?_
        refine wl_nil ?_
        refine W_th ?_
        refine W_seq ?_
        refine W_reg (by kernel_rfl) ?_
        refine wla rfl rfl (q_move (v := v5) rfl rfl) ?_
        refine wla rfl rfl (q_len rfl T22.sl rfl (ha5.lift (Lift.ext hE2 _))) ?_
        refine wla rfl rfl (q_move (v := p0) rfl s0_2) ?_
        obtain ⟨c6, hc6, H1⟩ := Option.bind_eq_some_iff.1 H1
        refine wla rfl rfl (q_adr rfl T23 rfl rfl (hp0.lift (Lift.ext hE2 _)) hc6) ?_
        refine wlq_load rfl rfl rfl T23 rfl hp0 hc6 hE2 (fun v7 ha7 => ?_)
        refine wla rfl rfl (q_len rfl T22.sl rfl (ha7.lift (Lift.ext hE2 _))) ?_
        refine wla rfl rfl (q_neI rfl rfl rfl) ?_
        refine wl_nil ?_
        refine W_th ?_
        refine W_cond _ rfl rfl (fun hb8 => ?_) (fun hb8 => ?_)
        · replace H1 := (if_neg (ndec_t hb8)).symm.trans H1
          refine W_seq ?_
          refine W_reg (by kernel_rfl) ?_
          refine wla rfl rfl (q_assign (v := (.bool true)) rfl rfl) ?_
          refine wl_nil ?_
          refine W_th ?_
          refine W_ret ?_
          refine bk_r ?_
          refine th_r ?_
          obtain rfl := Option.some.inj H1
          obtain rfl := hr1 _ rfl
          simp only [Sum.elim_inr] at H
          refine th_r ?_
          refine bk_r ?_
          refine th_r ?_
          refine th_r ?_
          obtain rfl := Option.some.inj H
          refine rt1 (.bool true) rfl rfl rfl s19_2 ?_
          exact ⟨rfl, hE2⟩
        · replace H1 := (if_pos (ndec_f hb8)).symm.trans H1
          refine W_skip ?_
          refine bk_n ?_
          refine W_th ?_
          refine W_reg (by kernel_rfl) ?_
          refine wla rfl rfl (q_addI rfl s7_2 rfl) ?_
          refine wla rfl rfl (q_move (v := (i64 ((wI (s1 + 1))))) rfl rfl) ?_
          refine wl_nil ?_
          obtain rfl := Option.some.inj H1
          exact ⟨_, rfl, s0_2, s5_2, s6_2, rfl, s19_2, hE2⟩
      · replace H1 := (if_neg (of_decide_eq_false hb3)).symm.trans H1
        refine W_exit ?_
        refine th_x ?_
        obtain rfl := Option.some.inj H1
        obtain rfl := hr1 _ rfl
        refine th_x ?_
        refine bk_x ?_
        exact ⟨_, rfl, s19_2, hE2⟩
  · rintro _ w10 ⟨y1, rfl, s19_10, hE10⟩
    simp only [Sum.elim_inl] at H
    refine W_th ?_
    refine W_seq ?_
    refine W_reg (by kernel_rfl) ?_
    refine wla rfl rfl (q_assign (v := (.bool false)) rfl rfl) ?_
    refine wl_nil ?_
    refine W_th ?_
    refine W_ret ?_
    obtain rfl := Option.some.inj H
    refine rt1 (.bool false) rfl rfl rfl s19_10 ?_
    exact ⟨rfl, hE10⟩

end Gk

/- Printed by gen.py: for each Go function a pure function, and that the Go code comes to it. No condition beside the equation that says what the pure function gives. -/
import Derived.Test.YteinpdignnpbgaaH4
import Derived.Test.YteinpdignnpbgaaFb
import Derived.Test.YteinpdignnpbgaaF0
set_option linter.unusedVariables false
set_option linter.unusedSimpArgs false
namespace Gk
open Go Go.Proofs

/-! largesse/largesselaw04.lives -/
noncomputable def law04_lives  : Option Bool :=
((field_New ).bind fun r1 =>
((matrix_Vandermonde r1 ([(1 : UInt8), (2 : UInt8)] : List UInt8) 2).bind fun r5 =>
(if r5.2 = 0 then
((matrix_Row r5.1 1).bind fun r8 => some (decide (r8 = ([1, 2] : List UInt8))))
else some false)))
set_option maxRecDepth 100000 in
set_option maxHeartbeats 8000000 in
theorem law04_lives_calls  (r : Bool) (w0 : World) (H : law04_lives = some r) :
    Calls Try.prog 36 [].toArray w0 (fun e w' => e = .returned (.bool r) ∧ Ext w0 w') := by
  have hE : Ext w0 w0 := Ext.refl w0
  unfold law04_lives at H
  refine calls_W (n := 17) Try.func36 rfl rfl rfl ?_
  refine W_seq ?_
  refine W_reg (by kernel_rfl) ?_
  refine wla rfl rfl (q_assign (v := (.bool false)) rfl rfl) ?_
  refine wl_nil ?_
  refine W_th ?_
  refine W_seq ?_
  refine W_reg (by kernel_rfl) ?_
  obtain ⟨r1, hr1, H⟩ := Option.bind_eq_some_iff.1 H
  refine wls rfl rfl (stp_call (vs := []) Try.func18 rfl rfl rfl (ar0 ) (field_New_calls   r1 _ [] (Old.nil _)  hr1) ?_)
  rintro _ w1 ⟨v1, rfl, x1, i1_0⟩
  refine ⟨_, rfl, ?_⟩
  have e2 := hE.trans x1
  refine wls rfl rfl (stp_lit (L := []) (R := (Sc u8)) [(u8 1), (u8 2)] ([(1 : UInt8), (2 : UInt8)] : List UInt8) rfl T22 rfl (by exact ⟨rfl, (cst8 (1 : UInt8) rfl), rfl, (cst8 (2 : UInt8) rfl), trivial⟩) rfl (litC u8 (oneC_u8) (us := [(u8 1), (u8 2)]) (l := ([(1 : UInt8), (2 : UInt8)] : List UInt8)) rfl) rfl (litS u8 (us := [(u8 1), (u8 2)]) (l := ([(1 : UInt8), (2 : UInt8)] : List UInt8)) rfl) ?_)
  intro v3 w3 o3 n3 g3 l3
  have x3 := grown_ext g3
  have i3 : By w3 [] v3 (([(1 : UInt8), (2 : UInt8)] : List UInt8)) := OwK.slk (Sc.stab _) _ o3 (fun k hk => (Old.nil _) k (n3 k hk)) (fun _ h => h.2)
  replace i1_0 := i1_0.lift (Lift.ext x3 _)
  have e4 := e2.trans x3
  obtain ⟨r5, hr5, H⟩ := Option.bind_eq_some_iff.1 H
  refine wls rfl rfl (stp_call (vs := [v1, v3, (i64 2)]) Try.func55 rfl rfl rfl (ar3 rfl rfl rfl) (matrix_Vandermonde_calls r1 ([(1 : UInt8), (2 : UInt8)] : List UInt8) 2 v1 v3 r5 _ [] (Old.nil _) (i1_0.lift (Lift.sub (fun _ _ => trivial))) (i3.lift (Lift.sub (fun _ _ => trivial))) hr5) ?_)
  rintro _ w5 ⟨v5_0, rfl, x5, i5_0⟩
  refine ⟨_, rfl, ?_⟩
  replace i1_0 := i1_0.lift (Lift.ext x5 _)
  replace i3 := i3.lift (Lift.ext x5 _)
  have e6 := e4.trans x5
  refine wla rfl rfl (q_move (v := (.tuple #[v5_0, (i64 r5.2)])) rfl rfl) ?_
  refine wla rfl rfl (q_extract rfl rfl rfl) ?_
  refine wla rfl rfl (q_extract rfl rfl rfl) ?_
  refine wla rfl rfl (q_assign (v := v5_0) rfl rfl) ?_
  refine wla rfl rfl (q_assign (v := (i64 r5.2)) rfl rfl) ?_
  refine wl_nil ?_
  refine W_th ?_
  refine W_seq ?_
  refine W_reg (by kernel_rfl) ?_
  refine wla rfl rfl (q_move (v := (i64 r5.2)) rfl rfl) ?_
  refine wla rfl rfl (q_eqI rfl rfl rfl) ?_
  refine wlb rfl rfl (q_move (v := (.bool ((decide (r5.2 = 0))))) rfl rfl) (fun hb7 => ?_) (fun hb7 => ?_)
  · replace H := (if_pos (of_decide_eq_true hb7)).symm.trans H
    refine wla rfl rfl (q_move (v := v5_0) rfl rfl) ?_
    obtain ⟨r8, hr8, H⟩ := Option.bind_eq_some_iff.1 H
    refine wls rfl rfl (stp_call (vs := [v5_0, (i64 1)]) Try.func43 rfl rfl rfl (ar2 rfl rfl) (matrix_Row_calls r5.1 1 v5_0 r8 _ (i5_0.lift (Lift.sub (fun _ _ => trivial))) hr8) ?_)
    rintro _ w8 ⟨v8, rfl, x8, n8_0, o8_0⟩
    refine ⟨_, rfl, ?_⟩
    have i8_0 : By w8 [] v8 r8 := OwK.slk (Sc.stab _) _ (OwK.scal o8_0 (v8 :: [])) (fun k hk => (Old.nil _) k (n8_0 k hk)) (fun _ h => h.2)
    replace i1_0 := i1_0.lift (Lift.ext x8 _)
    replace i3 := i3.lift (Lift.ext x8 _)
    replace i5_0 := i5_0.lift (Lift.ext x8 _)
    have e9 := e6.trans x8
    refine wlq rfl rfl (q_str rfl T22 rfl rfl rfl i8_0) ?_
    refine wla rfl rfl (q_eqS rfl rfl rfl) ?_
    refine wla rfl rfl (q_pick_t (v := (.bool ((decide (r8 = ([1, 2] : List UInt8)))))) rfl rfl rfl) ?_
    refine wla rfl rfl (q_assign (v := (.bool ((decide (r8 = ([1, 2] : List UInt8)))))) rfl rfl) ?_
    refine wl_nil ?_
    refine W_th ?_
    refine W_ret ?_
    obtain rfl := Option.some.inj H
    refine rt1 (.bool ((decide (r8 = ([1, 2] : List UInt8))))) rfl rfl rfl rfl ?_
    exact ⟨rfl, e9⟩
  · replace H := (if_neg (of_decide_eq_false hb7)).symm.trans H
    refine wlk rfl rfl ?_
    refine wlk rfl rfl ?_
    refine wlk rfl rfl ?_
    refine wlk rfl rfl ?_
    refine wla rfl rfl (q_pick_f (v := (.bool false)) rfl rfl rfl) ?_
    refine wla rfl rfl (q_assign (v := (.bool false)) rfl rfl) ?_
    refine wl_nil ?_
    refine W_th ?_
    refine W_ret ?_
    obtain rfl := Option.some.inj H
    refine rt1 (.bool false) rfl rfl rfl rfl ?_
    exact ⟨rfl, e6⟩

/-! largesse/largesselaw04.rows -/
noncomputable def law04_rows (a0m : Option (List (List UInt8))) : Option (List (List UInt8)) :=
((matrix_Size a0m).bind fun r1 =>
((iterC (fun s3 : List (List UInt8) × Int =>
(if s3.2 < r1.1 then
((matrix_Row a0m s3.2).bind fun r6 =>
((appL s3.1 (([r6] : List (List UInt8)))).bind fun c10 => some (.inl (c10, (wI (s3.2 + 1))))))
else some (.inr s3.1))) (([] : List (List UInt8)), 0)).bind fun x3 => some x3))
set_option maxRecDepth 100000 in
set_option maxHeartbeats 8000000 in
theorem law04_rows_calls (a0m : Option (List (List UInt8))) (p0 : Value) (r : List (List UInt8)) (w0 : World) (L0 : List Value) (hL0 : Old w0 L0) (hp0 : Mx w0 [] p0 a0m) (H : law04_rows a0m = some r) :
    Calls Try.prog 42 [p0].toArray w0 (fun e w' => ∃ u0 : Value, e = .returned u0 ∧ Ext w0 w' ∧ Nw w0 u0 ∧ OwK By w' (u0 :: L0) 22 u0 r) := by
  have hE : Ext w0 w0 := Ext.refl w0
  unfold law04_rows at H
  refine calls_W (n := 24) Try.func42 rfl rfl rfl ?_
  refine W_seq ?_
  refine W_reg (by kernel_rfl) ?_
  refine wla rfl rfl (q_assign (v := (.slice none 0 0)) rfl rfl) ?_
  refine wl_nil ?_
  refine W_th ?_
  refine W_seq ?_
  refine W_reg (by kernel_rfl) ?_
  refine wla rfl rfl (q_assign (v := (.slice none 0 0)) rfl rfl) ?_
  refine wl_nil ?_
  refine W_th ?_
  refine W_seq ?_
  refine W_reg (by kernel_rfl) ?_
  refine wla rfl rfl (q_move (v := p0) rfl rfl) ?_
  obtain ⟨r1, hr1, H⟩ := Option.bind_eq_some_iff.1 H
  refine wls rfl rfl (stp_call (vs := [p0]) Try.func39 rfl rfl rfl (ar1 rfl) (matrix_Size_calls a0m p0 r1 _ (hp0.lift (Lift.ext hE _)) hr1) ?_)
  rintro _ w1 ⟨rfl, x1⟩
  refine ⟨_, rfl, ?_⟩
  have e2 := hE.trans x1
  refine wla rfl rfl (q_move (v := (.tuple #[(i64 r1.1), (i64 r1.2)])) rfl rfl) ?_
  refine wla rfl rfl (q_extract rfl rfl rfl) ?_
  refine wla rfl rfl (q_extract rfl rfl rfl) ?_
  refine wla rfl rfl (q_assign (v := (i64 r1.1)) rfl rfl) ?_
  refine wla rfl rfl (q_assign (v := (i64 r1.2)) rfl rfl) ?_
  refine wl_nil ?_
  refine W_th ?_
  refine W_seq ?_
  refine W_seq ?_
  refine W_reg (by kernel_rfl) ?_
  refine wla rfl rfl (q_move (v := (i64 r1.1)) rfl rfl) ?_
  refine wla rfl rfl (q_move (v := (i64 0)) rfl rfl) ?_
  refine wl_nil ?_
  refine W_th ?_
  obtain ⟨x3, G3, H⟩ := Option.bind_eq_some_iff.1 H
  refine W_mid (fun f w => ∃ v3_15 : Value, f 3 = v3_15 ∧ f 24 = undef ∧ Ext w0 w ∧ OwK By w (v3_15 :: L0) 22 v3_15 x3 ∧ Nw w0 v3_15) ?_ ?_
  · refine W_block ?_
    refine W_loop (fun s3 f w => ∃ v3_13 : Value, f 0 = p0 ∧ f 3 = v3_13 ∧ f 12 = (i64 r1.1) ∧ f 13 = (i64 s3.2) ∧ f 24 = undef ∧ Ext w0 w ∧ OwK By w (v3_13 :: L0) 22 v3_13 s3.1 ∧ Nw w0 v3_13) G3 ?_ ?_
    · exact ⟨(.slice none 0 0), rfl, rfl, rfl, rfl, rfl, e2, (OwK.nil _ _ _ _), (Nw.nil _)⟩
    · rintro s3 _ _ w4 ⟨v3_4, s0_4, s3_4, s12_4, s13_4, s24_4, hE4, o0_4, n0_4⟩ H3 hr3
      refine W_seq ?_
      refine W_reg (by kernel_rfl) ?_
      refine wla rfl rfl (q_ltI rfl s13_4 s12_4) ?_
      refine wl_nil ?_
      refine W_th ?_
      refine W_seq ?_
      refine W_cond _ rfl rfl (fun hb5 => ?_) (fun hb5 => ?_)
      · replace H3 := (if_pos (of_decide_eq_true hb5)).symm.trans H3
        refine W_skip ?_
        refine W_th ?_
        refine W_seq ?_
        refine W_block ?_
        refine W_seq ?_
        refine W_reg (by kernel_rfl) ?_
        refine wla rfl rfl (q_move (v := (i64 s3.2)) rfl s13_4) ?_
        refine wla rfl rfl (q_assign (v := (i64 s3.2)) rfl rfl) ?_
        refine wl_nil ?_
        refine W_th ?_
        refine W_reg (by kernel_rfl) ?_
        refine wla rfl rfl (q_move (v := v3_4) rfl s3_4) ?_
        refine wla rfl rfl (q_move (v := p0) rfl s0_4) ?_
        refine wla rfl rfl (q_move (v := (i64 s3.2)) rfl rfl) ?_
        obtain ⟨r6, hr6, H3⟩ := Option.bind_eq_some_iff.1 H3
        refine wls rfl rfl (stp_call (vs := [p0, (i64 s3.2)]) Try.func43 rfl rfl rfl (ar2 rfl rfl) (matrix_Row_calls a0m s3.2 p0 r6 _ (hp0.lift (Lift.ext hE4 _)) hr6) ?_)
        rintro _ w6 ⟨v6, rfl, x6, n6_0, o6_0⟩
        refine ⟨_, rfl, ?_⟩
        have i6_0 : By w6 (v3_4 :: L0) v6 r6 := OwK.slk (Sc.stab _) _ (OwK.scal o6_0 (v6 :: (v3_4 :: L0))) (fun k hk => (Old.cons (hL0.ext hE4) o0_4.lt) k (n6_0 k hk)) (fun _ h => h.2)
        replace o0_4 := o0_4.extL (SlK.stab (Sc.stab _)) x6 (Lift.ext x6 _)
        have e7 := hE4.trans x6
        refine wls rfl rfl (stp_lit (L := (v3_4 :: L0)) (R := By) [v6] ([r6] : List (List UInt8)) rfl T46 rfl (by exact ⟨rfl, rfl, trivial⟩) rfl (LitR.cells (R := By) (w := w6) (L := (v3_4 :: L0)) (l := ([r6] : List (List UInt8))) (LitR.cons i6_0 LitR.nil) (fun u x h => cells_sl u x h)) rfl (LitR.all (R := By) (w := w6) (L := (v3_4 :: L0)) (l := ([r6] : List (List UInt8))) (SlK.stab (Sc.stab _)) (LitR.cons i6_0 LitR.nil)) ?_)
        intro v8 w8 o8 n8 g8 l8
        have x8 := grown_ext g8
        have i8 : Rw w8 (v3_4 :: L0) v8 (([r6] : List (List UInt8))) := OwK.slk (SlK.stab (Sc.stab _)) _ o8 (fun k hk => (Old.cons (hL0.ext e7) o0_4.lt) k (n8 k hk)) (fun _ h => h.2)
        replace i6_0 := i6_0.lift (Lift.ext x8 _)
        replace o0_4 := o0_4.extL (SlK.stab (Sc.stab _)) x8 (Lift.ext x8 _)
        have e9 := e7.trans x8
        obtain ⟨c10, hc10, H3⟩ := Option.bind_eq_some_iff.1 H3
        refine wls rfl rfl (stp_append (R := By) (v := v3_4) (u := v8) (SlK.stab (Sc.stab _)) [] (L0) rfl T46 rfl rfl o0_4 i8 (fun _ _ h => h) hc10 oc_sl ?_)
        intro v10 w10 o10 g10 nx10 l10
        replace i6_0 := i6_0.lift l10
        replace i8 := i8.lift l10
        have e11 := e9.grown g10 n0_4
        have n12 := Nw.nxt e9 n0_4 nx10
        refine wla rfl rfl (q_assign (v := v10) rfl rfl) ?_
        refine wl_nil ?_
        refine bk_n ?_
        refine W_th ?_
        refine W_reg (by kernel_rfl) ?_
        refine wla rfl rfl (q_addI rfl s13_4 rfl) ?_
        refine wla rfl rfl (q_move (v := (i64 ((wI (s3.2 + 1))))) rfl rfl) ?_
        refine wl_nil ?_
        obtain rfl := Option.some.inj H3
        exact ⟨_, rfl, v10, s0_4, rfl, s12_4, rfl, s24_4, e11, o10, n12⟩
      · replace H3 := (if_neg (of_decide_eq_false hb5)).symm.trans H3
        refine W_exit ?_
        refine th_x ?_
        obtain rfl := Option.some.inj H3
        obtain rfl := hr3 _ rfl
        refine th_x ?_
        refine bk_x ?_
        exact ⟨v3_4, s3_4, s24_4, hE4, o0_4, n0_4⟩
  · rintro _ w14 ⟨v3_14, s3_14, s24_14, hE14, o0_14, n0_14⟩
    refine W_th ?_
    refine W_seq ?_
    refine W_reg (by kernel_rfl) ?_
    refine wla rfl rfl (q_move (v := v3_14) rfl s3_14) ?_
    refine wla rfl rfl (q_assign (v := v3_14) rfl rfl) ?_
    refine wl_nil ?_
    refine W_th ?_
    refine W_ret ?_
    obtain rfl := Option.some.inj H
    refine rt1 v3_14 rfl rfl rfl s24_14 ?_
    exact ⟨v3_14, rfl, hE14, n0_14, (o0_14.weak (SlK.stab (Sc.stab _)) (fun _ h => ⟨h.1, h.2⟩))⟩

/-! largesse/largesselaw04.same -/
noncomputable def law04_same (a0a : List (List UInt8)) (a1b : List (List UInt8)) : Option Bool :=
(if (a0a.length : Int) = (a1b.length : Int) then
((iterC (fun s2 : Int =>
(if s2 < (a0a.length : Int) then
((idx a0a s2).bind fun c7 =>
((idx a1b s2).bind fun c9 =>
(if c7 = c9 then some (.inl (wI (s2 + 1)))
else some (.inr (.inr false)))))
else some (.inr (.inl ())))) 0).bind (Sum.elim (fun y2 => some true) (fun q2 => some q2)))
else some false)
set_option maxRecDepth 100000 in
set_option maxHeartbeats 8000000 in
theorem law04_same_calls (a0a : List (List UInt8)) (a1b : List (List UInt8)) (p0 : Value) (p1 : Value) (r : Bool) (w0 : World) (hp0 : Rw w0 [] p0 a0a) (hp1 : Rw w0 [] p1 a1b) (H : law04_same a0a a1b = some r) :
    Calls Try.prog 41 [p0, p1].toArray w0 (fun e w' => e = .returned (.bool r) ∧ Ext w0 w') := by
  have hE : Ext w0 w0 := Ext.refl w0
  unfold law04_same at H
  refine calls_W (n := 28) Try.func41 rfl rfl rfl ?_
  refine W_seq ?_
  refine W_reg (by kernel_rfl) ?_
  refine wla rfl rfl (q_assign (v := (.bool false)) rfl rfl) ?_
  refine wl_nil ?_
  refine W_th ?_
  refine W_seq ?_
  refine W_seq ?_
  refine W_reg (by kernel_rfl) ?_
  refine wla rfl rfl (q_move (v := p0) rfl rfl) ?_
  refine wla rfl rfl (q_len rfl T46.sl rfl (hp0.lift (Lift.ext hE _))) ?_
  refine wla rfl rfl (q_move (v := p1) rfl rfl) ?_
  refine wla rfl rfl (q_len rfl T46.sl rfl (hp1.lift (Lift.ext hE _))) ?_
  refine wla rfl rfl (q_neI rfl rfl rfl) ?_
  refine wl_nil ?_
  refine W_th ?_
  refine W_cond _ rfl rfl (fun hb1 => ?_) (fun hb1 => ?_)
  · replace H := (if_neg (ndec_t hb1)).symm.trans H
    refine W_seq ?_
    refine W_reg (by kernel_rfl) ?_
    refine wla rfl rfl (q_assign (v := (.bool false)) rfl rfl) ?_
    refine wl_nil ?_
    refine W_th ?_
    refine W_ret ?_
    refine th_r ?_
    obtain rfl := Option.some.inj H
    refine rt1 (.bool false) rfl rfl rfl rfl ?_
    exact ⟨rfl, hE⟩
  · replace H := (if_pos (ndec_f hb1)).symm.trans H
    refine W_skip ?_
    refine W_th ?_
    refine W_seq ?_
    refine W_seq ?_
    refine W_reg (by kernel_rfl) ?_
    refine wla rfl rfl (q_move (v := p0) rfl rfl) ?_
    refine wla rfl rfl (q_len rfl T46.sl rfl (hp0.lift (Lift.ext hE _))) ?_
    refine wla rfl rfl (q_move (v := (i64 0)) rfl rfl) ?_
    refine wl_nil ?_
    refine W_th ?_
    obtain ⟨x2, G2, H⟩ := Option.bind_eq_some_iff.1 H
    refine W_mid (fun f w => ∃ y2, x2 = .inl y2 ∧ f 28 = undef ∧ Ext w0 w) ?_ ?_
    · refine W_block ?_
      refine W_loop (fun s2 f w => f 0 = p0 ∧ f 1 = p1 ∧ f 12 = (i64 ((a0a.length : Int))) ∧ f 13 = (i64 s2) ∧ f 28 = undef ∧ Ext w0 w) G2 ?_ ?_
      · exact ⟨rfl, rfl, rfl, rfl, rfl, hE⟩
      · rintro s2 _ _ w3 ⟨s0_3, s1_3, s12_3, s13_3, s28_3, hE3⟩ H2 hr2
        refine W_seq ?_
        refine W_reg (by kernel_rfl) ?_
        refine wla rfl rfl (q_ltI rfl s13_3 s12_3) ?_
        refine wl_nil ?_
        refine W_th ?_
        refine W_seq ?_
        refine W_cond _ rfl rfl (fun hb4 => ?_) (fun hb4 => ?_)
        · replace H2 := (if_pos (of_decide_eq_true hb4)).symm.trans H2
          refine W_skip ?_
          refine W_th ?_
          refine W_seq ?_
          refine W_block ?_
          refine W_seq ?_
          refine W_reg (by kernel_rfl) ?_
          refine wla rfl rfl (q_move (v := (i64 s2)) rfl s13_3) ?_
          refine wla rfl rfl (q_assign (v := (i64 s2)) rfl rfl) ?_
          refine wl_nil ?_
          refine W_th ?_
          refine W_seq ?_
          refine W_draw [3, 4, 8, 9] [(0, 0), (1, 0), (2, 0), (3, 1), (4, 1), (5, 0), (6, 0), (7, 0), (8, 1), (9, 1), (10, 0)] mixed (by kernel_rfl) (by kernel_rfl) (by kernel_rfl) (by kernel_rfl) ?_
          have x5 := Ext.drew w3
          have e6 := hE3.trans x5
          refine wsa rfl rfl rfl (q_move (v := p0) rfl s0_3) ?_
          refine wsa rfl rfl rfl (q_move (v := (i64 s2)) rfl rfl) ?_
          obtain ⟨c7, hc7, H2⟩ := Option.bind_eq_some_iff.1 H2
          refine wsa rfl rfl rfl (q_adr rfl T46 rfl rfl (hp0.lift (Lift.ext e6 _)) hc7) ?_
          refine wsq_load rfl rfl rfl rfl T46 rfl hp0 hc7 e6 (fun v8 ha8 => ?_)
          refine wsq rfl rfl rfl (q_str rfl T22 rfl rfl rfl (ha8.lift (Lift.ext e6 _))) ?_
          refine wsa rfl rfl rfl (q_move (v := p1) rfl s1_3) ?_
          refine wsa rfl rfl rfl (q_move (v := (i64 s2)) rfl rfl) ?_
          obtain ⟨c9, hc9, H2⟩ := Option.bind_eq_some_iff.1 H2
          refine wsa rfl rfl rfl (q_adr rfl T46 rfl rfl (hp1.lift (Lift.ext e6 _)) hc9) ?_
          refine wsq_load rfl rfl rfl rfl T46 rfl hp1 hc9 e6 (fun v10 ha10 => ?_)
          refine wsq rfl rfl rfl (q_str rfl T22 rfl rfl rfl (ha10.lift (Lift.ext e6 _))) ?_
          refine wsa rfl rfl rfl (q_neS rfl rfl rfl) ?_
          refine ws_nil ?_
          refine W_th ?_
          refine W_cond _ rfl rfl (fun hb11 => ?_) (fun hb11 => ?_)
          · replace H2 := (if_neg (ndec_t hb11)).symm.trans H2
            refine W_seq ?_
            refine W_reg (by kernel_rfl) ?_
            refine wla rfl rfl (q_assign (v := (.bool false)) rfl rfl) ?_
            refine wl_nil ?_
            refine W_th ?_
            refine W_ret ?_
            refine bk_r ?_
            refine th_r ?_
            obtain rfl := Option.some.inj H2
            obtain rfl := hr2 _ rfl
            simp only [Sum.elim_inr] at H
            refine th_r ?_
            refine bk_r ?_
            refine th_r ?_
            refine th_r ?_
            obtain rfl := Option.some.inj H
            refine rt1 (.bool false) rfl rfl rfl s28_3 ?_
            exact ⟨rfl, e6⟩
          · replace H2 := (if_pos (ndec_f hb11)).symm.trans H2
            refine W_skip ?_
            refine bk_n ?_
            refine W_th ?_
            refine W_reg (by kernel_rfl) ?_
            refine wla rfl rfl (q_addI rfl s13_3 rfl) ?_
            refine wla rfl rfl (q_move (v := (i64 ((wI (s2 + 1))))) rfl rfl) ?_
            refine wl_nil ?_
            obtain rfl := Option.some.inj H2
            exact ⟨_, rfl, s0_3, s1_3, s12_3, rfl, s28_3, e6⟩
        · replace H2 := (if_neg (of_decide_eq_false hb4)).symm.trans H2
          refine W_exit ?_
          refine th_x ?_
          obtain rfl := Option.some.inj H2
          obtain rfl := hr2 _ rfl
          refine th_x ?_
          refine bk_x ?_
          exact ⟨_, rfl, s28_3, hE3⟩
    · rintro _ w13 ⟨y2, rfl, s28_13, hE13⟩
      simp only [Sum.elim_inl] at H
      refine W_th ?_
      refine W_seq ?_
      refine W_reg (by kernel_rfl) ?_
      refine wla rfl rfl (q_assign (v := (.bool true)) rfl rfl) ?_
      refine wl_nil ?_
      refine W_th ?_
      refine W_ret ?_
      obtain rfl := Option.some.inj H
      refine rt1 (.bool true) rfl rfl rfl s28_13 ?_
      exact ⟨rfl, hE13⟩

/-! largesse/largesselaw04.few -/
noncomputable def law04_few (a0l : List (List UInt8)) : Option Bool :=
(if 66 < (a0l.length : Int) then some false
else
((iterC (fun s2 : Int =>
(if s2 < (a0l.length : Int) then
((idx a0l s2).bind fun c5 =>
(if 66 < (c5.length : Int) then some (.inr (.inr false))
else some (.inl (wI (s2 + 1)))))
else some (.inr (.inl ())))) 0).bind (Sum.elim (fun y2 => some true) (fun q2 => some q2))))
set_option maxRecDepth 100000 in
set_option maxHeartbeats 8000000 in
theorem law04_few_calls (a0l : List (List UInt8)) (p0 : Value) (r : Bool) (w0 : World) (hp0 : Rw w0 [] p0 a0l) (H : law04_few a0l = some r) :
    Calls Try.prog 37 [p0].toArray w0 (fun e w' => e = .returned (.bool r) ∧ Ext w0 w') := by
  have hE : Ext w0 w0 := Ext.refl w0
  unfold law04_few at H
  refine calls_W (n := 18) Try.func37 rfl rfl rfl ?_
  refine W_seq ?_
  refine W_reg (by kernel_rfl) ?_
  refine wla rfl rfl (q_assign (v := (.bool false)) rfl rfl) ?_
  refine wl_nil ?_
  refine W_th ?_
  refine W_seq ?_
  refine W_seq ?_
  refine W_reg (by kernel_rfl) ?_
  refine wla rfl rfl (q_move (v := p0) rfl rfl) ?_
  refine wla rfl rfl (q_len rfl T46.sl rfl (hp0.lift (Lift.ext hE _))) ?_
  refine wla rfl rfl (q_gtI rfl rfl rfl) ?_
  refine wl_nil ?_
  refine W_th ?_
  refine W_cond _ rfl rfl (fun hb1 => ?_) (fun hb1 => ?_)
  · replace H := (if_pos (of_decide_eq_true hb1)).symm.trans H
    refine W_seq ?_
    refine W_reg (by kernel_rfl) ?_
    refine wla rfl rfl (q_assign (v := (.bool false)) rfl rfl) ?_
    refine wl_nil ?_
    refine W_th ?_
    refine W_ret ?_
    refine th_r ?_
    obtain rfl := Option.some.inj H
    refine rt1 (.bool false) rfl rfl rfl rfl ?_
    exact ⟨rfl, hE⟩
  · replace H := (if_neg (of_decide_eq_false hb1)).symm.trans H
    refine W_skip ?_
    refine W_th ?_
    refine W_seq ?_
    refine W_seq ?_
    refine W_reg (by kernel_rfl) ?_
    refine wla rfl rfl (q_move (v := p0) rfl rfl) ?_
    refine wla rfl rfl (q_len rfl T46.sl rfl (hp0.lift (Lift.ext hE _))) ?_
    refine wla rfl rfl (q_move (v := (i64 0)) rfl rfl) ?_
    refine wl_nil ?_
    refine W_th ?_
    obtain ⟨x2, G2, H⟩ := Option.bind_eq_some_iff.1 H
    refine W_mid (fun f w => ∃ y2, x2 = .inl y2 ∧ f 18 = undef ∧ Ext w0 w) ?_ ?_
    · refine W_block ?_
      refine W_loop (fun s2 f w => f 8 = p0 ∧ f 9 = (i64 ((a0l.length : Int))) ∧ f 10 = (i64 s2) ∧ f 18 = undef ∧ Ext w0 w) G2 ?_ ?_
      · exact ⟨rfl, rfl, rfl, rfl, hE⟩
      · rintro s2 _ _ w3 ⟨s8_3, s9_3, s10_3, s18_3, hE3⟩ H2 hr2
        refine W_seq ?_
        refine W_reg (by kernel_rfl) ?_
        refine wla rfl rfl (q_ltI rfl s10_3 s9_3) ?_
        refine wl_nil ?_
        refine W_th ?_
        refine W_seq ?_
        refine W_cond _ rfl rfl (fun hb4 => ?_) (fun hb4 => ?_)
        · replace H2 := (if_pos (of_decide_eq_true hb4)).symm.trans H2
          refine W_skip ?_
          refine W_th ?_
          refine W_seq ?_
          refine W_block ?_
          refine W_seq ?_
          refine W_reg (by kernel_rfl) ?_
          obtain ⟨c5, hc5, H2⟩ := Option.bind_eq_some_iff.1 H2
          refine wla rfl rfl (q_adr rfl T46 s8_3 s10_3 (hp0.lift (Lift.ext hE3 _)) hc5) ?_
          refine wlq_load rfl rfl rfl T46 rfl hp0 hc5 hE3 (fun v6 ha6 => ?_)
          refine wla rfl rfl (q_assign (v := v6) rfl rfl) ?_
          refine wl_nil ?_
          refine W_th ?_
          refine W_seq ?_
          refine W_reg (by kernel_rfl) ?_
          refine wla rfl rfl (q_move (v := v6) rfl rfl) ?_
          refine wla rfl rfl (q_len rfl T22.sl rfl (ha6.lift (Lift.ext hE3 _))) ?_
          refine wla rfl rfl (q_gtI rfl rfl rfl) ?_
          refine wl_nil ?_
          refine W_th ?_
          refine W_cond _ rfl rfl (fun hb7 => ?_) (fun hb7 => ?_)
          · replace H2 := (if_pos (of_decide_eq_true hb7)).symm.trans H2
            refine W_seq ?_
            refine W_reg (by kernel_rfl) ?_
            refine wla rfl rfl (q_assign (v := (.bool false)) rfl rfl) ?_
            refine wl_nil ?_
            refine W_th ?_
            refine W_ret ?_
            refine bk_r ?_
            refine th_r ?_
            obtain rfl := Option.some.inj H2
            obtain rfl := hr2 _ rfl
            simp only [Sum.elim_inr] at H
            refine th_r ?_
            refine bk_r ?_
            refine th_r ?_
            refine th_r ?_
            obtain rfl := Option.some.inj H
            refine rt1 (.bool false) rfl rfl rfl s18_3 ?_
            exact ⟨rfl, hE3⟩
          · replace H2 := (if_neg (of_decide_eq_false hb7)).symm.trans H2
            refine W_skip ?_
            refine bk_n ?_
            refine W_th ?_
            refine W_reg (by kernel_rfl) ?_
            refine wla rfl rfl (q_addI rfl s10_3 rfl) ?_
            refine wla rfl rfl (q_move (v := (i64 ((wI (s2 + 1))))) rfl rfl) ?_
            refine wl_nil ?_
            obtain rfl := Option.some.inj H2
            exact ⟨_, rfl, s8_3, s9_3, rfl, s18_3, hE3⟩
        · replace H2 := (if_neg (of_decide_eq_false hb4)).symm.trans H2
          refine W_exit ?_
          refine th_x ?_
          obtain rfl := Option.some.inj H2
          obtain rfl := hr2 _ rfl
          refine th_x ?_
          refine bk_x ?_
          exact ⟨_, rfl, s18_3, hE3⟩
    · rintro _ w9 ⟨y2, rfl, s18_9, hE9⟩
      simp only [Sum.elim_inl] at H
      refine W_th ?_
      refine W_seq ?_
      refine W_reg (by kernel_rfl) ?_
      refine wla rfl rfl (q_assign (v := (.bool true)) rfl rfl) ?_
      refine wl_nil ?_
      refine W_th ?_
      refine W_ret ?_
      obtain rfl := Option.some.inj H
      refine rt1 (.bool true) rfl rfl rfl s18_9 ?_
      exact ⟨rfl, hE9⟩

/-! largesse/largesselaw04.square -/
noncomputable def law04_square (a0b : List UInt8) (a1n : Int) (a2columns : Int) : Option (List (List UInt8)) :=
((makeL a1n ([] : List UInt8)).bind fun c1 =>
((iterC (fun s5 : List (List UInt8) × Int =>
(if s5.2 < (c1.length : Int) then
((makeL a2columns (0 : UInt8)).bind fun c8 =>
((idx s5.1 s5.2).bind fun c12 =>
((idx ((s5.1.set (s5.2 : Int).toNat c8)) s5.2).bind fun c17 =>
((iterC (fun s19 : List (List UInt8) × Int =>
(if s19.2 < (c17.length : Int) then
(if (wI ((wI (s5.2 * a2columns)) + s19.2)) < (a0b.length : Int) then
((idx s19.1 s5.2).bind fun c25 =>
((idx a0b ((wI ((wI (s5.2 * a2columns)) + s19.2)))).bind fun c27 =>
((idx c25 s19.2).bind fun c28 => some (.inl ((s19.1.set (s5.2 : Int).toNat (c25.set (s19.2 : Int).toNat c27)), (wI (s19.2 + 1)))))))
else some (.inl (s19.1, (wI (s19.2 + 1)))))
else some (.inr s19.1))) ((s5.1.set (s5.2 : Int).toNat c8), 0)).bind fun x19 => some (.inl (x19, (wI (s5.2 + 1))))))))
else some (.inr s5.1))) (c1, 0)).bind fun x5 => some x5))
set_option maxRecDepth 100000 in
set_option maxHeartbeats 8000000 in
theorem law04_square_calls (a0b : List UInt8) (a1n : Int) (a2columns : Int) (p0 : Value) (r : List (List UInt8)) (w0 : World) (L0 : List Value) (hL0 : Old w0 L0) (hp0 : By w0 [] p0 a0b) (H : law04_square a0b a1n a2columns = some r) :
    Calls Try.prog 44 [p0, (i64 a1n), (i64 a2columns)].toArray w0 (fun e w' => ∃ u0 : Value, e = .returned u0 ∧ Ext w0 w' ∧ Nw w0 u0 ∧ OwK By w' (u0 :: L0) 22 u0 r) := by
  have hE : Ext w0 w0 := Ext.refl w0
  unfold law04_square at H
  refine calls_W (n := 53) Try.func44 rfl rfl rfl ?_
  refine W_seq ?_
  refine W_reg (by kernel_rfl) ?_
  refine wla rfl rfl (q_assign (v := (.slice none 0 0)) rfl rfl) ?_
  refine wl_nil ?_
  refine W_th ?_
  refine W_seq ?_
  refine W_reg (by kernel_rfl) ?_
  refine wla rfl rfl (q_move (v := (i64 a1n)) rfl rfl) ?_
  obtain ⟨c1, hc1, H⟩ := Option.bind_eq_some_iff.1 H
  refine wls rfl rfl (stp_makeD (e2 := 5) (L0) rfl T46 rfl rfl hc1 ?_)
  intro G2 v2 w2 o2 n2 g2 l2
  have x2 := grown_ext g2
  have n4 := Nw.ext hE n2
  have e3 := hE.trans x2
  refine wla rfl rfl (q_assign (v := v2) rfl rfl) ?_
  refine wl_nil ?_
  refine W_th ?_
  refine W_seq ?_
  refine W_seq ?_
  refine W_reg (by kernel_rfl) ?_
  refine wla rfl rfl (q_move (v := v2) rfl rfl) ?_
  refine wla rfl rfl (q_len rfl T46.sl rfl o2.rd) ?_
  refine wla rfl rfl (q_move (v := (i64 0)) rfl rfl) ?_
  refine wl_nil ?_
  refine W_th ?_
  obtain ⟨x5, G5, H⟩ := Option.bind_eq_some_iff.1 H
  refine W_mid (fun f w => ∃ G7_36 : Value, f 7 = v2 ∧ f 53 = undef ∧ Ext w0 w ∧ OwD w 22 5 G7_36 v2 x5 ∧ Nw w0 G7_36) ?_ ?_
  · refine W_block ?_
    refine W_loop (fun s5 f w => ∃ G7_34 : Value, f 0 = p0 ∧ f 2 = (i64 a2columns) ∧ f 7 = v2 ∧ f 14 = (i64 ((c1.length : Int))) ∧ f 15 = (i64 s5.2) ∧ f 53 = undef ∧ Ext w0 w ∧ OwD w 22 5 G7_34 v2 s5.1 ∧ Nw w0 G7_34) G5 ?_ ?_
    · exact ⟨G2, rfl, rfl, rfl, rfl, rfl, rfl, e3, o2, n4⟩
    · rintro s5 _ _ w6 ⟨G7_6, s0_6, s2_6, s7_6, s14_6, s15_6, s53_6, hE6, o0_6, n0_6⟩ H5 hr5
      refine W_seq ?_
      refine W_reg (by kernel_rfl) ?_
      refine wla rfl rfl (q_ltI rfl s15_6 s14_6) ?_
      refine wl_nil ?_
      refine W_th ?_
      refine W_seq ?_
      refine W_cond _ rfl rfl (fun hb7 => ?_) (fun hb7 => ?_)
      · replace H5 := (if_pos (of_decide_eq_true hb7)).symm.trans H5
        refine W_skip ?_
        refine W_th ?_
        refine W_seq ?_
        refine W_block ?_
        refine W_seq ?_
        refine W_reg (by kernel_rfl) ?_
        refine wla rfl rfl (q_move (v := (i64 s5.2)) rfl s15_6) ?_
        refine wla rfl rfl (q_assign (v := (i64 s5.2)) rfl rfl) ?_
        refine wl_nil ?_
        refine W_th ?_
        refine W_seq ?_
        refine W_reg (by kernel_rfl) ?_
        refine wla rfl rfl (q_move (v := v2) rfl s7_6) ?_
        refine wla rfl rfl (q_move (v := (i64 s5.2)) rfl rfl) ?_
        refine wla rfl rfl (q_move (v := (i64 a2columns)) rfl s2_6) ?_
        obtain ⟨c8, hc8, H5⟩ := Option.bind_eq_some_iff.1 H5
        refine wls rfl rfl (stp_make (L := (G7_6 :: L0)) (R := (Sc u8)) rfl T22 rfl rfl hc8 (fun _ _ => rfl) ?_)
        intro v8 w8 o8 n8 g8 l8
        have x8 := grown_ext g8
        have q9 : Nq G7_6 v8 := o0_6.nq n8
        replace o0_6 := o0_6.ext x8
        have n11 := Nw.ext hE6 n8
        have e10 := hE6.trans x8
        obtain ⟨c12, hc12, H5⟩ := Option.bind_eq_some_iff.1 H5
        refine wla rfl rfl (q_adr rfl T46 rfl rfl o0_6.rd hc12) ?_
        refine wln rfl rfl (stp_storeRow (x := v8) [v8] (L0) rfl T46 rfl rfl o0_6 hc12 o8 q9.symm ?_)
        intro G14 w13 o13 g13 hG13 l13
        replace o8 := o8.other (Sc.stab _) g13 q9.symm l13
        have e15 := e10.grown g13 n0_6
        have n16 : Nw w0 G14 := fun k hk => (hG13 k hk).elim (n0_6 k) (n11 k)
        refine wl_nil ?_
        refine W_th ?_
        refine W_seq ?_
        refine W_reg (by kernel_rfl) ?_
        refine wla rfl rfl (q_move (v := v2) rfl s7_6) ?_
        refine wla rfl rfl (q_move (v := (i64 s5.2)) rfl rfl) ?_
        obtain ⟨c17, hc17, H5⟩ := Option.bind_eq_some_iff.1 H5
        refine wla rfl rfl (q_adr rfl T46 rfl rfl o13.rd hc17) ?_
        refine wlq_loadD rfl rfl rfl T46 rfl o13 hc17 (fun v18 hD18 => ?_)
        refine wla rfl rfl (q_len rfl T22.sl rfl (OwD.rowrd o13 hD18 hc17)) ?_
        refine wla rfl rfl (q_move (v := (i64 0)) rfl rfl) ?_
        refine wl_nil ?_
        refine W_th ?_
        obtain ⟨x19, G19, H5⟩ := Option.bind_eq_some_iff.1 H5
        refine W_mid (fun f w => ∃ G7_33 : Value, f 0 = p0 ∧ f 2 = (i64 a2columns) ∧ f 7 = v2 ∧ f 14 = (i64 ((c1.length : Int))) ∧ f 15 = (i64 s5.2) ∧ f 53 = undef ∧ Ext w0 w ∧ OwD w 22 5 G7_33 v2 x19 ∧ Nw w0 G7_33) ?_ ?_
        · refine W_block ?_
          refine W_loop (fun s19 f w => ∃ G7_31 : Value, f 0 = p0 ∧ f 2 = (i64 a2columns) ∧ f 7 = v2 ∧ f 8 = (i64 s5.2) ∧ f 14 = (i64 ((c1.length : Int))) ∧ f 15 = (i64 s5.2) ∧ f 27 = (i64 ((c17.length : Int))) ∧ f 28 = (i64 s19.2) ∧ f 53 = undef ∧ Ext w0 w ∧ OwD w 22 5 G7_31 v2 s19.1 ∧ Nw w0 G7_31) G19 ?_ ?_
          · exact ⟨G14, s0_6, s2_6, s7_6, rfl, s14_6, s15_6, rfl, rfl, s53_6, e15, o13, n16⟩
          · rintro s19 _ _ w20 ⟨G7_20, s0_20, s2_20, s7_20, s8_20, s14_20, s15_20, s27_20, s28_20, s53_20, hE20, o0_20, n0_20⟩ H19 hr19
            refine W_seq ?_
            refine W_reg (by kernel_rfl) ?_
            refine wla rfl rfl (q_ltI rfl s28_20 s27_20) ?_
            refine wl_nil ?_
            refine W_th ?_
            refine W_seq ?_
            refine W_cond _ rfl rfl (fun hb21 => ?_) (fun hb21 => ?_)
            · replace H19 := (if_pos (of_decide_eq_true hb21)).symm.trans H19
              refine W_skip ?_
              refine W_th ?_
              refine W_seq ?_
              refine W_block ?_
              refine W_seq ?_
              refine W_reg (by kernel_rfl) ?_
              refine wla rfl rfl (q_move (v := (i64 s19.2)) rfl s28_20) ?_
              refine wla rfl rfl (q_assign (v := (i64 s19.2)) rfl rfl) ?_
              refine wl_nil ?_
              refine W_th ?_
              refine W_seq ?_
              refine W_reg (by kernel_rfl) ?_
              refine wla rfl rfl (q_move (v := (i64 s5.2)) rfl s8_20) ?_
              refine wla rfl rfl (q_move (v := (i64 a2columns)) rfl s2_20) ?_
              refine wla rfl rfl (q_mulI rfl rfl rfl) ?_
              refine wla rfl rfl (q_move (v := (i64 s19.2)) rfl rfl) ?_
              refine wla rfl rfl (q_addI rfl rfl rfl) ?_
              refine wla rfl rfl (q_assign (v := (i64 ((wI ((wI (s5.2 * a2columns)) + s19.2))))) rfl rfl) ?_
              refine wl_nil ?_
              refine W_th ?_
              refine W_seq ?_
              refine W_reg (by kernel_rfl) ?_
              refine wla rfl rfl (q_move (v := (i64 ((wI ((wI (s5.2 * a2columns)) + s19.2))))) rfl rfl) ?_
              refine wla rfl rfl (q_move (v := p0) rfl s0_20) ?_
              refine wla rfl rfl (q_len rfl T22.sl rfl (hp0.lift (Lift.ext hE20 _))) ?_
              refine wla rfl rfl (q_ltI rfl rfl rfl) ?_
              refine wl_nil ?_
              refine W_th ?_
              refine W_cond _ rfl rfl (fun hb22 => ?_) (fun hb22 => ?_)
              · replace H19 := (if_pos (of_decide_eq_true hb22)).symm.trans H19
                refine W_draw [3, 8] [(0, 0), (1, 0), (2, 0), (3, 1), (4, 0), (5, 0), (6, 0), (7, 0), (8, 1), (9, 0), (10, 2)] mixed (by kernel_rfl) (by kernel_rfl) (by kernel_rfl) (by kernel_rfl) ?_
                have x23 := Ext.drew w20
                replace o0_20 := o0_20.ext x23
                have e24 := hE20.trans x23
                refine wsa rfl rfl rfl (q_move (v := v2) rfl s7_20) ?_
                refine wsa rfl rfl rfl (q_move (v := (i64 s5.2)) rfl s8_20) ?_
                obtain ⟨c25, hc25, H19⟩ := Option.bind_eq_some_iff.1 H19
                refine wsa rfl rfl rfl (q_adr rfl T46 rfl rfl o0_20.rd hc25) ?_
                refine wsq_loadD rfl rfl rfl rfl T46 rfl o0_20 hc25 (fun v26 hD26 => ?_)
                refine wsa rfl rfl rfl (q_move (v := (i64 s19.2)) rfl rfl) ?_
                refine wsa rfl rfl rfl (q_move (v := p0) rfl s0_20) ?_
                refine wsa rfl rfl rfl (q_move (v := (i64 ((wI ((wI (s5.2 * a2columns)) + s19.2))))) rfl rfl) ?_
                obtain ⟨c27, hc27, H19⟩ := Option.bind_eq_some_iff.1 H19
                refine wsa rfl rfl rfl (q_adr rfl T22 rfl rfl (hp0.lift (Lift.ext e24 _)) hc27) ?_
                refine wsq rfl rfl rfl (q_loadS rfl T22 rfl (hp0.lift (Lift.ext e24 _)) hc27) ?_
                obtain ⟨c28, hc28, H19⟩ := Option.bind_eq_some_iff.1 H19
                refine wsa rfl rfl rfl (q_adr rfl T22 rfl rfl (OwD.rowrd o0_20 hD26 hc25) hc28) ?_
                refine wsn rfl (by kernel_rfl) rfl rfl (stp_storeD [] (L0) rfl T22 rfl rfl o0_20 hD26 hc25 hc28 ?_)
                intro w29 o29 g29 l29
                have e30 := e24.grown g29 n0_20
                refine ws_nil ?_
                refine bk_n ?_
                refine W_th ?_
                refine W_reg (by kernel_rfl) ?_
                refine wla rfl rfl (q_addI rfl s28_20 rfl) ?_
                refine wla rfl rfl (q_move (v := (i64 ((wI (s19.2 + 1))))) rfl rfl) ?_
                refine wl_nil ?_
                obtain rfl := Option.some.inj H19
                exact ⟨_, rfl, G7_20, s0_20, s2_20, s7_20, s8_20, s14_20, s15_20, s27_20, rfl, s53_20, e30, o29, n0_20⟩
              · replace H19 := (if_neg (of_decide_eq_false hb22)).symm.trans H19
                refine W_skip ?_
                refine bk_n ?_
                refine W_th ?_
                refine W_reg (by kernel_rfl) ?_
                refine wla rfl rfl (q_addI rfl s28_20 rfl) ?_
                refine wla rfl rfl (q_move (v := (i64 ((wI (s19.2 + 1))))) rfl rfl) ?_
                refine wl_nil ?_
                obtain rfl := Option.some.inj H19
                exact ⟨_, rfl, G7_20, s0_20, s2_20, s7_20, s8_20, s14_20, s15_20, s27_20, rfl, s53_20, hE20, o0_20, n0_20⟩
            · replace H19 := (if_neg (of_decide_eq_false hb21)).symm.trans H19
              refine W_exit ?_
              refine th_x ?_
              obtain rfl := Option.some.inj H19
              obtain rfl := hr19 _ rfl
              refine th_x ?_
              refine bk_x ?_
              exact ⟨G7_20, s0_20, s2_20, s7_20, s14_20, s15_20, s53_20, hE20, o0_20, n0_20⟩
        · rintro _ w32 ⟨G7_32, s0_32, s2_32, s7_32, s14_32, s15_32, s53_32, hE32, o0_32, n0_32⟩
          refine bk_n ?_
          refine W_th ?_
          refine W_reg (by kernel_rfl) ?_
          refine wla rfl rfl (q_addI rfl s15_32 rfl) ?_
          refine wla rfl rfl (q_move (v := (i64 ((wI (s5.2 + 1))))) rfl rfl) ?_
          refine wl_nil ?_
          obtain rfl := Option.some.inj H5
          exact ⟨_, rfl, G7_32, s0_32, s2_32, s7_32, s14_32, rfl, s53_32, hE32, o0_32, n0_32⟩
      · replace H5 := (if_neg (of_decide_eq_false hb7)).symm.trans H5
        refine W_exit ?_
        refine th_x ?_
        obtain rfl := Option.some.inj H5
        obtain rfl := hr5 _ rfl
        refine th_x ?_
        refine bk_x ?_
        exact ⟨G7_6, s7_6, s53_6, hE6, o0_6, n0_6⟩
  · rintro _ w35 ⟨G7_35, s7_35, s53_35, hE35, o0_35, n0_35⟩
    refine W_th ?_
    refine W_seq ?_
    refine W_reg (by kernel_rfl) ?_
    refine wla rfl rfl (q_move (v := v2) rfl s7_35) ?_
    refine wla rfl rfl (q_assign (v := v2) rfl rfl) ?_
    refine wl_nil ?_
    refine W_th ?_
    refine W_ret ?_
    obtain rfl := Option.some.inj H
    refine rt1 v2 rfl rfl rfl s53_35 ?_
    exact ⟨v2, rfl, hE35, (OwD.nwu o0_35 n0_35), (o0_35.owk L0 (fun k hk => hL0 k (n0_35 k hk)))⟩

/-! largesse/largesseref04.Times -/
noncomputable def ref04_Times (a0m : List (List UInt8)) (a1v : List UInt8) : Option (List UInt8) :=
((iterC (fun s4 : List UInt8 × Int =>
(if s4.2 < (a0m.length : Int) then
((idx a0m s4.2).bind fun c7 =>
((iterC (fun s9 : UInt8 × Int =>
(if s9.2 < (c7.length : Int) then
((idx c7 s9.2).bind fun c14 =>
((idx a1v s9.2).bind fun c15 =>
((ref02_Mul c14 c15).bind fun r16 => some (.inl ((s9.1 ^^^ r16), (wI (s9.2 + 1)))))))
else some (.inr s9.1))) ((0 : UInt8), 0)).bind fun x9 =>
((appL s4.1 (([x9] : List UInt8))).bind fun c22 => some (.inl (c22, (wI (s4.2 + 1)))))))
else some (.inr s4.1))) (([] : List UInt8), 0)).bind fun x4 => some x4)
set_option maxRecDepth 100000 in
set_option maxHeartbeats 8000000 in
theorem ref04_Times_calls (a0m : List (List UInt8)) (a1v : List UInt8) (p0 : Value) (p1 : Value) (r : List UInt8) (w0 : World) (hp0 : Rw w0 [] p0 a0m) (hp1 : By w0 [] p1 a1v) (H : ref04_Times a0m a1v = some r) :
    Calls Try.prog 48 [p0, p1].toArray w0 (fun e w' => ∃ u0 : Value, e = .returned u0 ∧ Ext w0 w' ∧ Nw w0 u0 ∧ OwK (Sc u8) w' [] 5 u0 r) := by
  have hE : Ext w0 w0 := Ext.refl w0
  unfold ref04_Times at H
  refine calls_W (n := 40) Try.func48 rfl rfl rfl ?_
  refine W_seq ?_
  refine W_reg (by kernel_rfl) ?_
  refine wla rfl rfl (q_assign (v := (.slice none 0 0)) rfl rfl) ?_
  refine wl_nil ?_
  refine W_th ?_
  refine W_seq ?_
  refine W_reg (by kernel_rfl) ?_
  refine wls rfl rfl (stp_lit (L := []) (R := (Sc u8)) [] ([] : List UInt8) rfl T22 rfl (by exact trivial) rfl (litC u8 (oneC_u8) (us := []) (l := ([] : List UInt8)) rfl) rfl (litS u8 (us := []) (l := ([] : List UInt8)) rfl) ?_)
  intro v1 w1 o1 n1 g1 l1
  have x1 := grown_ext g1
  have n3 := Nw.ext hE n1
  have e2 := hE.trans x1
  refine wla rfl rfl (q_assign (v := v1) rfl rfl) ?_
  refine wl_nil ?_
  refine W_th ?_
  refine W_seq ?_
  refine W_seq ?_
  refine W_reg (by kernel_rfl) ?_
  refine wla rfl rfl (q_move (v := p0) rfl rfl) ?_
  refine wla rfl rfl (q_len rfl T46.sl rfl (hp0.lift (Lift.ext e2 _))) ?_
  refine wla rfl rfl (q_move (v := (i64 0)) rfl rfl) ?_
  refine wl_nil ?_
  refine W_th ?_
  obtain ⟨x4, G4, H⟩ := Option.bind_eq_some_iff.1 H
  refine W_mid (fun f w => ∃ v5_28 : Value, f 5 = v5_28 ∧ f 40 = undef ∧ Ext w0 w ∧ OwK (Sc u8) w [v5_28] 5 v5_28 x4 ∧ Nw w0 v5_28) ?_ ?_
  · refine W_block ?_
    refine W_loop (fun s4 f w => ∃ v5_26 : Value, f 1 = p1 ∧ f 5 = v5_26 ∧ f 11 = p0 ∧ f 12 = (i64 ((a0m.length : Int))) ∧ f 13 = (i64 s4.2) ∧ f 40 = undef ∧ Ext w0 w ∧ OwK (Sc u8) w [v5_26] 5 v5_26 s4.1 ∧ Nw w0 v5_26) G4 ?_ ?_
    · exact ⟨v1, rfl, rfl, rfl, rfl, rfl, rfl, e2, o1, n3⟩
    · rintro s4 _ _ w5 ⟨v5_5, s1_5, s5_5, s11_5, s12_5, s13_5, s40_5, hE5, o0_5, n0_5⟩ H4 hr4
      refine W_seq ?_
      refine W_reg (by kernel_rfl) ?_
      refine wla rfl rfl (q_ltI rfl s13_5 s12_5) ?_
      refine wl_nil ?_
      refine W_th ?_
      refine W_seq ?_
      refine W_cond _ rfl rfl (fun hb6 => ?_) (fun hb6 => ?_)
      · replace H4 := (if_pos (of_decide_eq_true hb6)).symm.trans H4
        refine W_skip ?_
        refine W_th ?_
        refine W_seq ?_
        refine W_block ?_
        refine W_seq ?_
        refine W_reg (by kernel_rfl) ?_
        obtain ⟨c7, hc7, H4⟩ := Option.bind_eq_some_iff.1 H4
        refine wla rfl rfl (q_adr rfl T46 s11_5 s13_5 (hp0.lift (Lift.ext hE5 _)) hc7) ?_
        refine wlq_load rfl rfl rfl T46 rfl hp0 hc7 hE5 (fun v8 ha8 => ?_)
        refine wla rfl rfl (q_assign (v := v8) rfl rfl) ?_
        refine wl_nil ?_
        refine W_th ?_
        refine W_seq ?_
        refine W_reg (by kernel_rfl) ?_
        refine wla rfl rfl (q_assign (v := (u8 0)) rfl (cst8 (0 : UInt8) rfl)) ?_
        refine wl_nil ?_
        refine W_th ?_
        refine W_seq ?_
        refine W_seq ?_
        refine W_reg (by kernel_rfl) ?_
        refine wla rfl rfl (q_move (v := v8) rfl rfl) ?_
        refine wla rfl rfl (q_len rfl T22.sl rfl (ha8.lift (Lift.ext hE5 _))) ?_
        refine wla rfl rfl (q_move (v := (i64 0)) rfl rfl) ?_
        refine wl_nil ?_
        refine W_th ?_
        obtain ⟨x9, G9, H4⟩ := Option.bind_eq_some_iff.1 H4
        refine W_mid (fun f w => f 1 = p1 ∧ f 5 = v5_5 ∧ f 8 = (u8 x9) ∧ f 11 = p0 ∧ f 12 = (i64 ((a0m.length : Int))) ∧ f 13 = (i64 s4.2) ∧ f 40 = undef ∧ Ext w0 w ∧ OwK (Sc u8) w [v5_5] 5 v5_5 s4.1 ∧ Nw w0 v5_5) ?_ ?_
        · refine W_block ?_
          refine W_loop (fun s9 f w => f 1 = p1 ∧ f 5 = v5_5 ∧ f 7 = v8 ∧ f 8 = (u8 s9.1) ∧ f 11 = p0 ∧ f 12 = (i64 ((a0m.length : Int))) ∧ f 13 = (i64 s4.2) ∧ f 18 = (i64 ((c7.length : Int))) ∧ f 19 = (i64 s9.2) ∧ f 40 = undef ∧ Ext w0 w ∧ OwK (Sc u8) w [v5_5] 5 v5_5 s4.1 ∧ Nw w0 v5_5) G9 ?_ ?_
          · exact ⟨s1_5, s5_5, rfl, rfl, s11_5, s12_5, s13_5, rfl, rfl, s40_5, hE5, o0_5, n0_5⟩
          · rintro s9 _ _ w10 ⟨s1_10, s5_10, s7_10, s8_10, s11_10, s12_10, s13_10, s18_10, s19_10, s40_10, hE10, o0_10, n0_10⟩ H9 hr9
            refine W_seq ?_
            refine W_reg (by kernel_rfl) ?_
            refine wla rfl rfl (q_ltI rfl s19_10 s18_10) ?_
            refine wl_nil ?_
            refine W_th ?_
            refine W_seq ?_
            refine W_cond _ rfl rfl (fun hb11 => ?_) (fun hb11 => ?_)
            · replace H9 := (if_pos (of_decide_eq_true hb11)).symm.trans H9
              refine W_skip ?_
              refine W_th ?_
              refine W_seq ?_
              refine W_block ?_
              refine W_seq ?_
              refine W_reg (by kernel_rfl) ?_
              refine wla rfl rfl (q_move (v := (i64 s9.2)) rfl s19_10) ?_
              refine wla rfl rfl (q_assign (v := (i64 s9.2)) rfl rfl) ?_
              refine wl_nil ?_
              refine W_th ?_
              refine W_draw [4, 8] [(0, 0), (1, 0), (2, 0), (3, 0), (4, 1), (5, 0), (6, 0), (7, 0), (8, 1), (9, 2), (10, 0), (11, 0)] mixed (by kernel_rfl) (by kernel_rfl) (by kernel_rfl) (by kernel_rfl) ?_
              have x12 := Ext.drew w10
              replace o0_10 := o0_10.extL (Sc.stab _) x12 (Lift.ext x12 _)
              have e13 := hE10.trans x12
              refine wsa rfl rfl rfl (q_move (v := (u8 s9.1)) rfl s8_10) ?_
              refine wsa rfl rfl rfl (q_move (v := v8) rfl s7_10) ?_
              refine wsa rfl rfl rfl (q_move (v := (i64 s9.2)) rfl rfl) ?_
              obtain ⟨c14, hc14, H9⟩ := Option.bind_eq_some_iff.1 H9
              refine wsa rfl rfl rfl (q_adr rfl T22 rfl rfl (ha8.lift (Lift.ext e13 _)) hc14) ?_
              refine wsq rfl rfl rfl (q_loadS rfl T22 rfl (ha8.lift (Lift.ext e13 _)) hc14) ?_
              refine wsa rfl rfl rfl (q_move (v := p1) rfl s1_10) ?_
              refine wsa rfl rfl rfl (q_move (v := (i64 s9.2)) rfl rfl) ?_
              obtain ⟨c15, hc15, H9⟩ := Option.bind_eq_some_iff.1 H9
              refine wsa rfl rfl rfl (q_adr rfl T22 rfl rfl (hp1.lift (Lift.ext e13 _)) hc15) ?_
              refine wsq rfl rfl rfl (q_loadS rfl T22 rfl (hp1.lift (Lift.ext e13 _)) hc15) ?_
              obtain ⟨r16, hr16, H9⟩ := Option.bind_eq_some_iff.1 H9
              refine wsc rfl (by kernel_rfl) rfl rfl (stp_call (vs := [(u8 c14), (u8 c15)]) Try.func66 rfl rfl rfl (ar2 rfl rfl) (ref02_Mul_calls c14 c15  r16 _  hr16) ?_)
              rintro _ w16 ⟨rfl, x16⟩
              refine ⟨_, rfl, ?_⟩
              replace o0_10 := o0_10.extL (Sc.stab _) x16 (Lift.ext x16 _)
              have e17 := e13.trans x16
              refine wsa rfl rfl rfl (q_xor8 rfl rfl rfl) ?_
              refine wsa rfl rfl rfl (q_assign (v := (u8 ((s9.1 ^^^ r16)))) rfl rfl) ?_
              refine ws_nil ?_
              refine bk_n ?_
              refine W_th ?_
              refine W_reg (by kernel_rfl) ?_
              refine wla rfl rfl (q_addI rfl s19_10 rfl) ?_
              refine wla rfl rfl (q_move (v := (i64 ((wI (s9.2 + 1))))) rfl rfl) ?_
              refine wl_nil ?_
              obtain rfl := Option.some.inj H9
              exact ⟨_, rfl, s1_10, s5_10, s7_10, rfl, s11_10, s12_10, s13_10, s18_10, rfl, s40_10, e17, o0_10, n0_10⟩
            · replace H9 := (if_neg (of_decide_eq_false hb11)).symm.trans H9
              refine W_exit ?_
              refine th_x ?_
              obtain rfl := Option.some.inj H9
              obtain rfl := hr9 _ rfl
              refine th_x ?_
              refine bk_x ?_
              exact ⟨s1_10, s5_10, s8_10, s11_10, s12_10, s13_10, s40_10, hE10, o0_10, n0_10⟩
        · rintro _ w19 ⟨s1_19, s5_19, s8_19, s11_19, s12_19, s13_19, s40_19, hE19, o0_19, n0_19⟩
          refine W_th ?_
          refine W_reg (by kernel_rfl) ?_
          refine wla rfl rfl (q_move (v := v5_5) rfl s5_19) ?_
          refine wla rfl rfl (q_move (v := (u8 x9)) rfl s8_19) ?_
          refine wls rfl rfl (stp_lit (L := [v5_5]) (R := (Sc u8)) [(u8 x9)] ([x9] : List UInt8) rfl T22 rfl (by exact ⟨rfl, rfl, trivial⟩) rfl (litC u8 (oneC_u8) (us := [(u8 x9)]) (l := ([x9] : List UInt8)) rfl) rfl (litS u8 (us := [(u8 x9)]) (l := ([x9] : List UInt8)) rfl) ?_)
          intro v20 w20 o20 n20 g20 l20
          have x20 := grown_ext g20
          have i20 : By w20 [v5_5] v20 (([x9] : List UInt8)) := OwK.slk (Sc.stab _) _ o20 (fun k hk => (Old.cons (Old.nil _) o0_19.lt) k (n20 k hk)) (fun _ h => h.2)
          replace o0_19 := o0_19.extL (Sc.stab _) x20 (Lift.ext x20 _)
          have e21 := hE19.trans x20
          obtain ⟨c22, hc22, H4⟩ := Option.bind_eq_some_iff.1 H4
          refine wls rfl rfl (stp_append (R := (Sc u8)) (v := v5_5) (u := v20) (Sc.stab _) [] [] rfl T22 rfl rfl o0_19 i20 (fun _ _ h => h) hc22 oc_u8 ?_)
          intro v22 w22 o22 g22 nx22 l22
          replace i20 := i20.lift l22
          have e23 := e21.grown g22 n0_19
          have n24 := Nw.nxt e21 n0_19 nx22
          refine wla rfl rfl (q_assign (v := v22) rfl rfl) ?_
          refine wl_nil ?_
          refine bk_n ?_
          refine W_th ?_
          refine W_reg (by kernel_rfl) ?_
          refine wla rfl rfl (q_addI rfl s13_19 rfl) ?_
          refine wla rfl rfl (q_move (v := (i64 ((wI (s4.2 + 1))))) rfl rfl) ?_
          refine wl_nil ?_
          obtain rfl := Option.some.inj H4
          exact ⟨_, rfl, v22, s1_19, rfl, s11_19, s12_19, rfl, s40_19, e23, o22, n24⟩
      · replace H4 := (if_neg (of_decide_eq_false hb6)).symm.trans H4
        refine W_exit ?_
        refine th_x ?_
        obtain rfl := Option.some.inj H4
        obtain rfl := hr4 _ rfl
        refine th_x ?_
        refine bk_x ?_
        exact ⟨v5_5, s5_5, s40_5, hE5, o0_5, n0_5⟩
  · rintro _ w27 ⟨v5_27, s5_27, s40_27, hE27, o0_27, n0_27⟩
    refine W_th ?_
    refine W_seq ?_
    refine W_reg (by kernel_rfl) ?_
    refine wla rfl rfl (q_move (v := v5_27) rfl s5_27) ?_
    refine wla rfl rfl (q_assign (v := v5_27) rfl rfl) ?_
    refine wl_nil ?_
    refine W_th ?_
    refine W_ret ?_
    obtain rfl := Option.some.inj H
    refine rt1 v5_27 rfl rfl rfl s40_27 ?_
    exact ⟨v5_27, rfl, hE27, n0_27, (o0_27.weak (Sc.stab _) (fun _ _ => trivial))⟩

/-! largesse/largesseref04.Mul -/
noncomputable def ref04_Mul (a0m : List (List UInt8)) (a1o : List (List UInt8)) : Option (List (List UInt8)) :=
((iterC (fun s4 : List (List UInt8) × Int =>
(if s4.2 < (a0m.length : Int) then
((idx a0m s4.2).bind fun c7 =>
((idx a1o 0).bind fun c13 =>
((iterC (fun s15 : List UInt8 × Int =>
(if s15.2 < (c13.length : Int) then
((iterC (fun s18 : UInt8 × Int =>
(if s18.2 < (c7.length : Int) then
((idx c7 s18.2).bind fun c23 =>
((idx a1o s18.2).bind fun c24 =>
((idx c24 s15.2).bind fun c26 =>
((ref02_Mul c23 c26).bind fun r27 => some (.inl ((s18.1 ^^^ r27), (wI (s18.2 + 1))))))))
else some (.inr s18.1))) ((0 : UInt8), 0)).bind fun x18 =>
((appL s15.1 (([x18] : List UInt8))).bind fun c33 => some (.inl (c33, (wI (s15.2 + 1))))))
else some (.inr s15.1))) (([] : List UInt8), 0)).bind fun x15 =>
((appL s4.1 (([x15] : List (List UInt8)))).bind fun c43 => some (.inl (c43, (wI (s4.2 + 1))))))))
else some (.inr s4.1))) (([] : List (List UInt8)), 0)).bind fun x4 => some x4)
set_option maxRecDepth 100000 in
set_option maxHeartbeats 8000000 in
theorem ref04_Mul_calls (a0m : List (List UInt8)) (a1o : List (List UInt8)) (p0 : Value) (p1 : Value) (r : List (List UInt8)) (w0 : World) (L0 : List Value) (hL0 : Old w0 L0) (hp0 : Rw w0 [] p0 a0m) (hp1 : Rw w0 [] p1 a1o) (H : ref04_Mul a0m a1o = some r) :
    Calls Try.prog 46 [p0, p1].toArray w0 (fun e w' => ∃ u0 : Value, e = .returned u0 ∧ Ext w0 w' ∧ Nw w0 u0 ∧ OwK By w' (u0 :: L0) 22 u0 r) := by
  have hE : Ext w0 w0 := Ext.refl w0
  unfold ref04_Mul at H
  refine calls_W (n := 58) Try.func46 rfl rfl rfl ?_
  refine W_seq ?_
  refine W_reg (by kernel_rfl) ?_
  refine wla rfl rfl (q_assign (v := (.slice none 0 0)) rfl rfl) ?_
  refine wl_nil ?_
  refine W_th ?_
  refine W_seq ?_
  refine W_reg (by kernel_rfl) ?_
  refine wls rfl rfl (stp_lit (L := (L0)) (R := By) [] ([] : List (List UInt8)) rfl T46 rfl (by exact trivial) rfl (LitR.cells (R := By) (w := w0) (L := (L0)) (l := ([] : List (List UInt8))) LitR.nil (fun u x h => cells_sl u x h)) rfl (LitR.all (R := By) (w := w0) (L := (L0)) (l := ([] : List (List UInt8))) (SlK.stab (Sc.stab _)) LitR.nil) ?_)
  intro v1 w1 o1 n1 g1 l1
  have x1 := grown_ext g1
  have n3 := Nw.ext hE n1
  have e2 := hE.trans x1
  refine wla rfl rfl (q_assign (v := v1) rfl rfl) ?_
  refine wl_nil ?_
  refine W_th ?_
  refine W_seq ?_
  refine W_seq ?_
  refine W_reg (by kernel_rfl) ?_
  refine wla rfl rfl (q_move (v := p0) rfl rfl) ?_
  refine wla rfl rfl (q_len rfl T46.sl rfl (hp0.lift (Lift.ext e2 _))) ?_
  refine wla rfl rfl (q_move (v := (i64 0)) rfl rfl) ?_
  refine wl_nil ?_
  refine W_th ?_
  obtain ⟨x4, G4, H⟩ := Option.bind_eq_some_iff.1 H
  refine W_mid (fun f w => ∃ v5_49 : Value, f 5 = v5_49 ∧ f 58 = undef ∧ Ext w0 w ∧ OwK By w (v5_49 :: L0) 22 v5_49 x4 ∧ Nw w0 v5_49) ?_ ?_
  · refine W_block ?_
    refine W_loop (fun s4 f w => ∃ v5_47 : Value, f 1 = p1 ∧ f 5 = v5_47 ∧ f 13 = p0 ∧ f 14 = (i64 ((a0m.length : Int))) ∧ f 15 = (i64 s4.2) ∧ f 58 = undef ∧ Ext w0 w ∧ OwK By w (v5_47 :: L0) 22 v5_47 s4.1 ∧ Nw w0 v5_47) G4 ?_ ?_
    · exact ⟨v1, rfl, rfl, rfl, rfl, rfl, rfl, e2, o1, n3⟩
    · rintro s4 _ _ w5 ⟨v5_5, s1_5, s5_5, s13_5, s14_5, s15_5, s58_5, hE5, o0_5, n0_5⟩ H4 hr4
      refine W_seq ?_
      refine W_reg (by kernel_rfl) ?_
      refine wla rfl rfl (q_ltI rfl s15_5 s14_5) ?_
      refine wl_nil ?_
      refine W_th ?_
      refine W_seq ?_
      refine W_cond _ rfl rfl (fun hb6 => ?_) (fun hb6 => ?_)
      · replace H4 := (if_pos (of_decide_eq_true hb6)).symm.trans H4
        refine W_skip ?_
        refine W_th ?_
        refine W_seq ?_
        refine W_block ?_
        refine W_seq ?_
        refine W_reg (by kernel_rfl) ?_
        obtain ⟨c7, hc7, H4⟩ := Option.bind_eq_some_iff.1 H4
        refine wla rfl rfl (q_adr rfl T46 s13_5 s15_5 (hp0.lift (Lift.ext hE5 _)) hc7) ?_
        refine wlq_load rfl rfl rfl T46 rfl hp0 hc7 hE5 (fun v8 ha8 => ?_)
        refine wla rfl rfl (q_assign (v := v8) rfl rfl) ?_
        refine wl_nil ?_
        refine W_th ?_
        refine W_seq ?_
        refine W_reg (by kernel_rfl) ?_
        refine wls rfl rfl (stp_lit (L := (v5_5 :: L0)) (R := (Sc u8)) [] ([] : List UInt8) rfl T22 rfl (by exact trivial) rfl (litC u8 (oneC_u8) (us := []) (l := ([] : List UInt8)) rfl) rfl (litS u8 (us := []) (l := ([] : List UInt8)) rfl) ?_)
        intro v9 w9 o9 n9 g9 l9
        have x9 := grown_ext g9
        have q10 : Nq v5_5 v9 := o0_5.nq n9
        replace o0_5 := o0_5.extL (SlK.stab (Sc.stab _)) x9 (Lift.call _ x9 n9)
        have n12 := Nw.ext hE5 n9
        have e11 := hE5.trans x9
        refine wla rfl rfl (q_assign (v := v9) rfl rfl) ?_
        refine wl_nil ?_
        refine W_th ?_
        refine W_seq ?_
        refine W_seq ?_
        refine W_reg (by kernel_rfl) ?_
        refine wla rfl rfl (q_move (v := p1) rfl s1_5) ?_
        obtain ⟨c13, hc13, H4⟩ := Option.bind_eq_some_iff.1 H4
        refine wla rfl rfl (q_adr rfl T46 rfl rfl (hp1.lift (Lift.ext e11 _)) hc13) ?_
        refine wlq_load rfl rfl rfl T46 rfl hp1 hc13 e11 (fun v14 ha14 => ?_)
        refine wla rfl rfl (q_len rfl T22.sl rfl (ha14.lift (Lift.ext e11 _))) ?_
        refine wla rfl rfl (q_move (v := (i64 0)) rfl rfl) ?_
        refine wl_nil ?_
        refine W_th ?_
        obtain ⟨x15, G15, H4⟩ := Option.bind_eq_some_iff.1 H4
        refine W_mid (fun f w => ∃ v8_46 : Value, f 1 = p1 ∧ f 5 = v5_5 ∧ f 8 = v8_46 ∧ f 13 = p0 ∧ f 14 = (i64 ((a0m.length : Int))) ∧ f 15 = (i64 s4.2) ∧ f 58 = undef ∧ Ext w0 w ∧ OwK By w (v5_5 :: v8_46 :: L0) 22 v5_5 s4.1 ∧ Nw w0 v5_5 ∧ OwK (Sc u8) w (v5_5 :: v8_46 :: L0) 5 v8_46 x15 ∧ Nw w0 v8_46 ∧ Nq v5_5 v8_46) ?_ ?_
        · refine W_block ?_
          refine W_loop (fun s15 f w => ∃ v8_38 : Value, f 1 = p1 ∧ f 5 = v5_5 ∧ f 7 = v8 ∧ f 8 = v8_38 ∧ f 13 = p0 ∧ f 14 = (i64 ((a0m.length : Int))) ∧ f 15 = (i64 s4.2) ∧ f 23 = (i64 ((c13.length : Int))) ∧ f 24 = (i64 s15.2) ∧ f 58 = undef ∧ Ext w0 w ∧ OwK By w (v5_5 :: v8_38 :: L0) 22 v5_5 s4.1 ∧ Nw w0 v5_5 ∧ OwK (Sc u8) w (v5_5 :: v8_38 :: L0) 5 v8_38 s15.1 ∧ Nw w0 v8_38 ∧ Nq v5_5 v8_38) G15 ?_ ?_
          · exact ⟨v9, s1_5, s5_5, rfl, rfl, s13_5, s14_5, s15_5, rfl, rfl, s58_5, e11, (o0_5.weak (SlK.stab (Sc.stab _)) (fun _ h => ⟨h.2.1, h.1, h.2.2⟩)), n0_5, (o9.weak (Sc.stab _) (fun _ h => ⟨h.2.1, h.1, h.2.2⟩)), n12, q10⟩
          · rintro s15 _ _ w16 ⟨v8_16, s1_16, s5_16, s7_16, s8_16, s13_16, s14_16, s15_16, s23_16, s24_16, s58_16, hE16, o0_16, n0_16, o1_16, n1_16, q0_1_16⟩ H15 hr15
            refine W_seq ?_
            refine W_reg (by kernel_rfl) ?_
            refine wla rfl rfl (q_ltI rfl s24_16 s23_16) ?_
            refine wl_nil ?_
            refine W_th ?_
            refine W_seq ?_
            refine W_cond _ rfl rfl (fun hb17 => ?_) (fun hb17 => ?_)
            · replace H15 := (if_pos (of_decide_eq_true hb17)).symm.trans H15
              refine W_skip ?_
              refine W_th ?_
              refine W_seq ?_
              refine W_block ?_
              refine W_seq ?_
              refine W_reg (by kernel_rfl) ?_
              refine wla rfl rfl (q_move (v := (i64 s15.2)) rfl s24_16) ?_
              refine wla rfl rfl (q_assign (v := (i64 s15.2)) rfl rfl) ?_
              refine wl_nil ?_
              refine W_th ?_
              refine W_seq ?_
              refine W_reg (by kernel_rfl) ?_
              refine wla rfl rfl (q_assign (v := (u8 0)) rfl (cst8 (0 : UInt8) rfl)) ?_
              refine wl_nil ?_
              refine W_th ?_
              refine W_seq ?_
              refine W_seq ?_
              refine W_reg (by kernel_rfl) ?_
              refine wla rfl rfl (q_move (v := v8) rfl s7_16) ?_
              refine wla rfl rfl (q_len rfl T22.sl rfl (ha8.lift (Lift.ext hE16 _))) ?_
              refine wla rfl rfl (q_move (v := (i64 0)) rfl rfl) ?_
              refine wl_nil ?_
              refine W_th ?_
              obtain ⟨x18, G18, H15⟩ := Option.bind_eq_some_iff.1 H15
              refine W_mid (fun f w => f 1 = p1 ∧ f 5 = v5_5 ∧ f 7 = v8 ∧ f 8 = v8_16 ∧ f 10 = (u8 x18) ∧ f 13 = p0 ∧ f 14 = (i64 ((a0m.length : Int))) ∧ f 15 = (i64 s4.2) ∧ f 23 = (i64 ((c13.length : Int))) ∧ f 24 = (i64 s15.2) ∧ f 58 = undef ∧ Ext w0 w ∧ OwK By w (v5_5 :: v8_16 :: L0) 22 v5_5 s4.1 ∧ Nw w0 v5_5 ∧ OwK (Sc u8) w (v5_5 :: v8_16 :: L0) 5 v8_16 s15.1 ∧ Nw w0 v8_16 ∧ Nq v5_5 v8_16) ?_ ?_
              · refine W_block ?_
                refine W_loop (fun s18 f w => f 1 = p1 ∧ f 5 = v5_5 ∧ f 7 = v8 ∧ f 8 = v8_16 ∧ f 9 = (i64 s15.2) ∧ f 10 = (u8 s18.1) ∧ f 13 = p0 ∧ f 14 = (i64 ((a0m.length : Int))) ∧ f 15 = (i64 s4.2) ∧ f 23 = (i64 ((c13.length : Int))) ∧ f 24 = (i64 s15.2) ∧ f 28 = (i64 ((c7.length : Int))) ∧ f 29 = (i64 s18.2) ∧ f 58 = undef ∧ Ext w0 w ∧ OwK By w (v5_5 :: v8_16 :: L0) 22 v5_5 s4.1 ∧ Nw w0 v5_5 ∧ OwK (Sc u8) w (v5_5 :: v8_16 :: L0) 5 v8_16 s15.1 ∧ Nw w0 v8_16 ∧ Nq v5_5 v8_16) G18 ?_ ?_
                · exact ⟨s1_16, s5_16, s7_16, s8_16, rfl, rfl, s13_16, s14_16, s15_16, s23_16, s24_16, rfl, rfl, s58_16, hE16, o0_16, n0_16, o1_16, n1_16, q0_1_16⟩
                · rintro s18 _ _ w19 ⟨s1_19, s5_19, s7_19, s8_19, s9_19, s10_19, s13_19, s14_19, s15_19, s23_19, s24_19, s28_19, s29_19, s58_19, hE19, o0_19, n0_19, o1_19, n1_19, q0_1_19⟩ H18 hr18
                  refine W_seq ?_
                  refine W_reg (by kernel_rfl) ?_
                  refine wla rfl rfl (q_ltI rfl s29_19 s28_19) ?_
                  refine wl_nil ?_
                  refine W_th ?_
                  refine W_seq ?_
                  refine W_cond _ rfl rfl (fun hb20 => ?_) (fun hb20 => ?_)
                  · replace H18 := (if_pos (of_decide_eq_true hb20)).symm.trans H18
                    refine W_skip ?_
                    refine W_th ?_
                    refine W_seq ?_
                    refine W_block ?_
                    refine W_seq ?_
                    refine W_reg (by kernel_rfl) ?_
                    refine wla rfl rfl (q_move (v := (i64 s18.2)) rfl s29_19) ?_
                    refine wla rfl rfl (q_assign (v := (i64 s18.2)) rfl rfl) ?_
                    refine wl_nil ?_
                    refine W_th ?_
                    refine W_draw [4, 8, 11] [(0, 0), (1, 0), (2, 0), (3, 0), (4, 1), (5, 0), (6, 0), (7, 0), (8, 1), (9, 0), (10, 0), (11, 1), (12, 2), (13, 0), (14, 0)] mixed (by kernel_rfl) (by kernel_rfl) (by kernel_rfl) (by kernel_rfl) ?_
                    have x21 := Ext.drew w19
                    replace o0_19 := o0_19.extL (SlK.stab (Sc.stab _)) x21 (Lift.ext x21 _)
                    replace o1_19 := o1_19.extL (Sc.stab _) x21 (Lift.ext x21 _)
                    have e22 := hE19.trans x21
                    refine wsa rfl rfl rfl (q_move (v := (u8 s18.1)) rfl s10_19) ?_
                    refine wsa rfl rfl rfl (q_move (v := v8) rfl s7_19) ?_
                    refine wsa rfl rfl rfl (q_move (v := (i64 s18.2)) rfl rfl) ?_
                    obtain ⟨c23, hc23, H18⟩ := Option.bind_eq_some_iff.1 H18
                    refine wsa rfl rfl rfl (q_adr rfl T22 rfl rfl (ha8.lift (Lift.ext e22 _)) hc23) ?_
                    refine wsq rfl rfl rfl (q_loadS rfl T22 rfl (ha8.lift (Lift.ext e22 _)) hc23) ?_
                    refine wsa rfl rfl rfl (q_move (v := p1) rfl s1_19) ?_
                    refine wsa rfl rfl rfl (q_move (v := (i64 s18.2)) rfl rfl) ?_
                    obtain ⟨c24, hc24, H18⟩ := Option.bind_eq_some_iff.1 H18
                    refine wsa rfl rfl rfl (q_adr rfl T46 rfl rfl (hp1.lift (Lift.ext e22 _)) hc24) ?_
                    refine wsq_load rfl rfl rfl rfl T46 rfl hp1 hc24 e22 (fun v25 ha25 => ?_)
                    refine wsa rfl rfl rfl (q_move (v := (i64 s15.2)) rfl s9_19) ?_
                    obtain ⟨c26, hc26, H18⟩ := Option.bind_eq_some_iff.1 H18
                    refine wsa rfl rfl rfl (q_adr rfl T22 rfl rfl (ha25.lift (Lift.ext e22 _)) hc26) ?_
                    refine wsq rfl rfl rfl (q_loadS rfl T22 rfl (ha25.lift (Lift.ext e22 _)) hc26) ?_
                    obtain ⟨r27, hr27, H18⟩ := Option.bind_eq_some_iff.1 H18
                    refine wsc rfl (by kernel_rfl) rfl rfl (stp_call (vs := [(u8 c23), (u8 c26)]) Try.func66 rfl rfl rfl (ar2 rfl rfl) (ref02_Mul_calls c23 c26  r27 _  hr27) ?_)
                    rintro _ w27 ⟨rfl, x27⟩
                    refine ⟨_, rfl, ?_⟩
                    replace o0_19 := o0_19.extL (SlK.stab (Sc.stab _)) x27 (Lift.ext x27 _)
                    replace o1_19 := o1_19.extL (Sc.stab _) x27 (Lift.ext x27 _)
                    have e28 := e22.trans x27
                    refine wsa rfl rfl rfl (q_xor8 rfl rfl rfl) ?_
                    refine wsa rfl rfl rfl (q_assign (v := (u8 ((s18.1 ^^^ r27)))) rfl rfl) ?_
                    refine ws_nil ?_
                    refine bk_n ?_
                    refine W_th ?_
                    refine W_reg (by kernel_rfl) ?_
                    refine wla rfl rfl (q_addI rfl s29_19 rfl) ?_
                    refine wla rfl rfl (q_move (v := (i64 ((wI (s18.2 + 1))))) rfl rfl) ?_
                    refine wl_nil ?_
                    obtain rfl := Option.some.inj H18
                    exact ⟨_, rfl, s1_19, s5_19, s7_19, s8_19, s9_19, rfl, s13_19, s14_19, s15_19, s23_19, s24_19, s28_19, rfl, s58_19, e28, o0_19, n0_19, o1_19, n1_19, q0_1_19⟩
                  · replace H18 := (if_neg (of_decide_eq_false hb20)).symm.trans H18
                    refine W_exit ?_
                    refine th_x ?_
                    obtain rfl := Option.some.inj H18
                    obtain rfl := hr18 _ rfl
                    refine th_x ?_
                    refine bk_x ?_
                    exact ⟨s1_19, s5_19, s7_19, s8_19, s10_19, s13_19, s14_19, s15_19, s23_19, s24_19, s58_19, hE19, o0_19, n0_19, o1_19, n1_19, q0_1_19⟩
              · rintro _ w30 ⟨s1_30, s5_30, s7_30, s8_30, s10_30, s13_30, s14_30, s15_30, s23_30, s24_30, s58_30, hE30, o0_30, n0_30, o1_30, n1_30, q0_1_30⟩
                refine W_th ?_
                refine W_reg (by kernel_rfl) ?_
                refine wla rfl rfl (q_move (v := v8_16) rfl s8_30) ?_
                refine wla rfl rfl (q_move (v := (u8 x18)) rfl s10_30) ?_
                refine wls rfl rfl (stp_lit (L := (v5_5 :: v8_16 :: L0)) (R := (Sc u8)) [(u8 x18)] ([x18] : List UInt8) rfl T22 rfl (by exact ⟨rfl, rfl, trivial⟩) rfl (litC u8 (oneC_u8) (us := [(u8 x18)]) (l := ([x18] : List UInt8)) rfl) rfl (litS u8 (us := [(u8 x18)]) (l := ([x18] : List UInt8)) rfl) ?_)
                intro v31 w31 o31 n31 g31 l31
                have x31 := grown_ext g31
                have i31 : By w31 (v5_5 :: v8_16 :: L0) v31 (([x18] : List UInt8)) := OwK.slk (Sc.stab _) _ o31 (fun k hk => (Old.cons (Old.cons (hL0.ext hE30) o1_30.lt) o0_30.lt) k (n31 k hk)) (fun _ h => h.2)
                replace o0_30 := o0_30.extL (SlK.stab (Sc.stab _)) x31 (Lift.ext x31 _)
                replace o1_30 := o1_30.extL (Sc.stab _) x31 (Lift.ext x31 _)
                have e32 := hE30.trans x31
                obtain ⟨c33, hc33, H15⟩ := Option.bind_eq_some_iff.1 H15
                refine wls rfl rfl (stp_append (R := (Sc u8)) (v := v8_16) (u := v31) (Sc.stab _) [v5_5] (L0) rfl T22 rfl rfl o1_30 i31 (fun _ _ h => h) hc33 oc_u8 ?_)
                intro v33 w33 o33 g33 nx33 l33
                replace i31 := i31.lift l33
                have q34 : Nq v5_5 v33 := o0_30.nxt q0_1_30 nx33
                replace o0_30 := o0_30.other (SlK.stab (Sc.stab _)) g33 q0_1_30 l33
                have e35 := e32.grown g33 n1_30
                have n36 := Nw.nxt e32 n1_30 nx33
                refine wla rfl rfl (q_assign (v := v33) rfl rfl) ?_
                refine wl_nil ?_
                refine bk_n ?_
                refine W_th ?_
                refine W_reg (by kernel_rfl) ?_
                refine wla rfl rfl (q_addI rfl s24_30 rfl) ?_
                refine wla rfl rfl (q_move (v := (i64 ((wI (s15.2 + 1))))) rfl rfl) ?_
                refine wl_nil ?_
                obtain rfl := Option.some.inj H15
                exact ⟨_, rfl, v33, s1_30, s5_30, s7_30, rfl, s13_30, s14_30, s15_30, s23_30, rfl, s58_30, e35, o0_30, n0_30, o33, n36, q34⟩
            · replace H15 := (if_neg (of_decide_eq_false hb17)).symm.trans H15
              refine W_exit ?_
              refine th_x ?_
              obtain rfl := Option.some.inj H15
              obtain rfl := hr15 _ rfl
              refine th_x ?_
              refine bk_x ?_
              exact ⟨v8_16, s1_16, s5_16, s8_16, s13_16, s14_16, s15_16, s58_16, hE16, o0_16, n0_16, o1_16, n1_16, q0_1_16⟩
        · rintro _ w39 ⟨v8_39, s1_39, s5_39, s8_39, s13_39, s14_39, s15_39, s58_39, hE39, o0_39, n0_39, o1_39, n1_39, q0_1_39⟩
          refine W_th ?_
          refine W_reg (by kernel_rfl) ?_
          refine wla rfl rfl (q_move (v := v5_5) rfl s5_39) ?_
          refine wla rfl rfl (q_move (v := v8_39) rfl s8_39) ?_
          have i41 : By w39 (v5_5 :: L0) v8_39 x15 := OwK.slk (Sc.stab _) (v5_5 :: L0) o1_39 (fun k hk => ⟨(q0_1_39.symm) k hk, hL0 k (n1_39 k hk)⟩) (show ∀ k, Av (v5_5 :: v8_39 :: L0) k → Av (v5_5 :: L0) k from fun _ h => ⟨h.1, h.2.2⟩)
          replace o0_39 := o0_39.weak (SlK.stab (Sc.stab _)) (show ∀ k, Av (v5_5 :: v8_39 :: L0) k → Av (v5_5 :: L0) k from fun _ h => ⟨h.1, h.2.2⟩)
          refine wls rfl rfl (stp_lit (L := (v5_5 :: L0)) (R := By) [v8_39] ([x15] : List (List UInt8)) rfl T46 rfl (by exact ⟨rfl, rfl, trivial⟩) rfl (LitR.cells (R := By) (w := w39) (L := (v5_5 :: L0)) (l := ([x15] : List (List UInt8))) (LitR.cons i41 LitR.nil) (fun u x h => cells_sl u x h)) rfl (LitR.all (R := By) (w := w39) (L := (v5_5 :: L0)) (l := ([x15] : List (List UInt8))) (SlK.stab (Sc.stab _)) (LitR.cons i41 LitR.nil)) ?_)
          intro v40 w40 o40 n40 g40 l40
          have x40 := grown_ext g40
          have i40 : Rw w40 (v5_5 :: L0) v40 (([x15] : List (List UInt8))) := OwK.slk (SlK.stab (Sc.stab _)) _ o40 (fun k hk => (Old.cons (hL0.ext hE39) o0_39.lt) k (n40 k hk)) (fun _ h => h.2)
          replace i41 := i41.lift (Lift.ext x40 _)
          replace o0_39 := o0_39.extL (SlK.stab (Sc.stab _)) x40 (Lift.ext x40 _)
          have e42 := hE39.trans x40
          obtain ⟨c43, hc43, H4⟩ := Option.bind_eq_some_iff.1 H4
          refine wls rfl rfl (stp_append (R := By) (v := v5_5) (u := v40) (SlK.stab (Sc.stab _)) [] (L0) rfl T46 rfl rfl o0_39 i40 (fun _ _ h => h) hc43 oc_sl ?_)
          intro v43 w43 o43 g43 nx43 l43
          replace i41 := i41.lift l43
          replace i40 := i40.lift l43
          have e44 := e42.grown g43 n0_39
          have n45 := Nw.nxt e42 n0_39 nx43
          refine wla rfl rfl (q_assign (v := v43) rfl rfl) ?_
          refine wl_nil ?_
          refine bk_n ?_
          refine W_th ?_
          refine W_reg (by kernel_rfl) ?_
          refine wla rfl rfl (q_addI rfl s15_39 rfl) ?_
          refine wla rfl rfl (q_move (v := (i64 ((wI (s4.2 + 1))))) rfl rfl) ?_
          refine wl_nil ?_
          obtain rfl := Option.some.inj H4
          exact ⟨_, rfl, v43, s1_39, rfl, s13_39, s14_39, rfl, s58_39, e44, o43, n45⟩
      · replace H4 := (if_neg (of_decide_eq_false hb6)).symm.trans H4
        refine W_exit ?_
        refine th_x ?_
        obtain rfl := Option.some.inj H4
        obtain rfl := hr4 _ rfl
        refine th_x ?_
        refine bk_x ?_
        exact ⟨v5_5, s5_5, s58_5, hE5, o0_5, n0_5⟩
  · rintro _ w48 ⟨v5_48, s5_48, s58_48, hE48, o0_48, n0_48⟩
    refine W_th ?_
    refine W_seq ?_
    refine W_reg (by kernel_rfl) ?_
    refine wla rfl rfl (q_move (v := v5_48) rfl s5_48) ?_
    refine wla rfl rfl (q_assign (v := v5_48) rfl rfl) ?_
    refine wl_nil ?_
    refine W_th ?_
    refine W_ret ?_
    obtain rfl := Option.some.inj H
    refine rt1 v5_48 rfl rfl rfl s58_48 ?_
    exact ⟨v5_48, rfl, hE48, n0_48, (o0_48.weak (SlK.stab (Sc.stab _)) (fun _ h => ⟨h.1, h.2⟩))⟩

end Gk

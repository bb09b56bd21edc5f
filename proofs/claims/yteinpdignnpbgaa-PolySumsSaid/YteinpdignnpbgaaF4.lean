/- Printed by gen.py: for each Go function a pure function, and that the Go code comes to it. No condition beside the equation that says what the pure function gives. -/
import Derived.Test.YteinpdignnpbgaaF3
set_option linter.unusedVariables false
set_option linter.unusedSimpArgs false
namespace Gk
open Go Go.Proofs

/-! largesse/largesseref03.Trim -/
noncomputable def ref03_Trim (a0p : List UInt8) : Option (List UInt8) :=
((appL (([] : List UInt8)) a0p).bind fun c4 =>
((iterC (fun s7 : List UInt8 =>
(if 0 < (s7.length : Int) then
((idx s7 ((wI ((s7.length : Int) - 1)))).bind fun c10 =>
(if c10 = (0 : UInt8) then
((subL s7 0 ((wI ((s7.length : Int) - 1)))).bind fun c12 => some (.inl c12))
else some (.inr s7)))
else some (.inr s7))) c4).bind fun x7 => some x7))
set_option maxRecDepth 100000 in
set_option maxHeartbeats 8000000 in
theorem ref03_Trim_calls (a0p : List UInt8) (p0 : Value) (r : List UInt8) (w0 : World) (hp0 : By w0 [] p0 a0p) (H : ref03_Trim a0p = some r) :
    Calls Try.prog 25 [p0].toArray w0 (fun e w' => ∃ u0 : Value, e = .returned u0 ∧ Ext w0 w' ∧ Nw w0 u0 ∧ OwK (Sc u8) w' [] 5 u0 r) := by
  have hE : Ext w0 w0 := Ext.refl w0
  unfold ref03_Trim at H
  refine calls_W (n := 25) Try.func25 rfl rfl rfl ?_
  refine W_seq ?_
  refine W_reg (by kernel_rfl) ?_
  refine wla rfl rfl (q_assign (v := (.slice none 0 0)) rfl rfl) ?_
  refine wl_nil ?_
  refine W_th ?_
  refine W_seq ?_
  refine W_reg (by kernel_rfl) ?_
  refine wls rfl rfl (stp_lit (L := []) (R := (Sc u8)) [] ([] : List UInt8) rfl T22 rfl (by exact trivial) rfl (litC u8 (oneC_u8) (us := []) (l := ([] : List UInt8)) rfl) rfl (litS u8 (us := []) (l := ([] : List UInt8)) rfl) ?_)
  intro v1 w1 o1 n1 g1 l1
  have x1 := grown_ext g1
  have n3 := Nw.ext hE n1
  have e2 := hE.trans x1
  refine wla rfl rfl (q_move (v := p0) rfl rfl) ?_
  obtain ⟨c4, hc4, H⟩ := Option.bind_eq_some_iff.1 H
  refine wls rfl rfl (stp_append (R := (Sc u8)) (v := v1) (u := p0) (Sc.stab _) [] [] rfl T22 rfl rfl o1 (hp0.lift (Lift.ext e2 _)) (fun _ _ h => h) hc4 oc_u8 ?_)
  intro v4 w4 o4 g4 nx4 l4
  have e5 := e2.grown g4 n3
  have n6 := Nw.nxt e2 n3 nx4
  refine wla rfl rfl (q_assign (v := v4) rfl rfl) ?_
  refine wl_nil ?_
  refine W_th ?_
  refine W_seq ?_
  obtain ⟨x7, G7, H⟩ := Option.bind_eq_some_iff.1 H
  refine W_mid (fun f w => ∃ v3_17 : Value, f 3 = v3_17 ∧ f 25 = undef ∧ Ext w0 w ∧ OwK (Sc u8) w [v3_17] 5 v3_17 x7 ∧ Nw w0 v3_17) ?_ ?_
  · refine W_block ?_
    refine W_loop (fun s7 f w => ∃ v3_15 : Value, f 3 = v3_15 ∧ f 25 = undef ∧ Ext w0 w ∧ OwK (Sc u8) w [v3_15] 5 v3_15 s7 ∧ Nw w0 v3_15) G7 ?_ ?_
    · exact ⟨v4, rfl, rfl, e5, o4, n6⟩
    · rintro s7 _ _ w8 ⟨v3_8, s3_8, s25_8, hE8, o0_8, n0_8⟩ H7 hr7
      refine W_seq ?_
      refine W_seq ?_
      refine W_reg (by kernel_rfl) ?_
      refine wla rfl rfl (q_move (v := v3_8) rfl s3_8) ?_
      refine wla rfl rfl (q_len rfl T22.sl rfl (o0_8.rd (Sc.stab _))) ?_
      refine wla rfl rfl (q_gtI rfl rfl rfl) ?_
      refine wlb rfl rfl (q_move (v := (.bool ((decide (0 < (s7.length : Int)))))) rfl rfl) (fun hb9 => ?_) (fun hb9 => ?_)
      · replace H7 := (if_pos (of_decide_eq_true hb9)).symm.trans H7
        refine wla rfl rfl (q_move (v := v3_8) rfl s3_8) ?_
        refine wla rfl rfl (q_move (v := v3_8) rfl s3_8) ?_
        refine wla rfl rfl (q_len rfl T22.sl rfl (o0_8.rd (Sc.stab _))) ?_
        refine wla rfl rfl (q_subI rfl rfl rfl) ?_
        obtain ⟨c10, hc10, H7⟩ := Option.bind_eq_some_iff.1 H7
        refine wla rfl rfl (q_adr rfl T22 rfl rfl (o0_8.rd (Sc.stab _)) hc10) ?_
        refine wlq rfl rfl (q_loadS rfl T22 rfl (o0_8.rd (Sc.stab _)) hc10) ?_
        refine wla rfl rfl (q_eq8 rfl rfl (cst8 (0 : UInt8) rfl)) ?_
        refine wla rfl rfl (q_pick_t (v := (.bool ((decide (c10 = (0 : UInt8)))))) rfl rfl rfl) ?_
        refine wl_nil ?_
        refine W_th ?_
        refine W_cond _ rfl rfl (fun hb11 => ?_) (fun hb11 => ?_)
        · replace H7 := (if_pos (of_decide_eq_true hb11)).symm.trans H7
          refine W_skip ?_
          refine W_th ?_
          refine W_block ?_
          refine W_reg (by kernel_rfl) ?_
          refine wla rfl rfl (q_move (v := v3_8) rfl s3_8) ?_
          refine wla rfl rfl (q_move (v := v3_8) rfl s3_8) ?_
          refine wla rfl rfl (q_len rfl T22.sl rfl (o0_8.rd (Sc.stab _))) ?_
          refine wla rfl rfl (q_subI rfl rfl rfl) ?_
          obtain ⟨c12, hc12, H7⟩ := Option.bind_eq_some_iff.1 H7
          refine wla rfl rfl (q_slice (a := 0) (b := (wI ((s7.length : Int) - 1))) rfl T22 rfl (o0_8.rd (Sc.stab _)) rfl rfl hc12) ?_
          obtain ⟨o12, nx12, l12⟩ := own_cut (lo := 0) (hi := (wI ((s7.length : Int) - 1))) (Sc.stab _) [] [] o0_8 rfl hc12
          have e13 := hE8.grown (World.grownBy.refl _ _) n0_8
          have n14 := Nw.nxt hE8 n0_8 nx12
          refine wla rfl rfl (q_assign (v := (subV v3_8 (0 : Int).toNat ((wI ((s7.length : Int) - 1)) : Int).toNat)) rfl rfl) ?_
          refine wl_nil ?_
          refine bk_n ?_
          obtain rfl := Option.some.inj H7
          exact ⟨_, rfl, (subV v3_8 (0 : Int).toNat ((wI ((s7.length : Int) - 1)) : Int).toNat), rfl, s25_8, e13, o12, n14⟩
        · replace H7 := (if_neg (of_decide_eq_false hb11)).symm.trans H7
          refine W_exit ?_
          refine th_x ?_
          obtain rfl := Option.some.inj H7
          obtain rfl := hr7 _ rfl
          refine th_x ?_
          refine bk_x ?_
          exact ⟨v3_8, s3_8, s25_8, hE8, o0_8, n0_8⟩
      · replace H7 := (if_neg (of_decide_eq_false hb9)).symm.trans H7
        refine wlk rfl rfl ?_
        refine wlk rfl rfl ?_
        refine wlk rfl rfl ?_
        refine wlk rfl rfl ?_
        refine wlk rfl rfl ?_
        refine wlk rfl rfl ?_
        refine wlk rfl rfl ?_
        refine wla rfl rfl (q_pick_f (v := (.bool false)) rfl rfl rfl) ?_
        refine wl_nil ?_
        refine W_th ?_
        refine W_cond false rfl rfl (fun hb => by cases hb) (fun _ => ?_)
        refine W_exit ?_
        refine th_x ?_
        obtain rfl := Option.some.inj H7
        obtain rfl := hr7 _ rfl
        refine th_x ?_
        refine bk_x ?_
        exact ⟨v3_8, s3_8, s25_8, hE8, o0_8, n0_8⟩
  · rintro _ w16 ⟨v3_16, s3_16, s25_16, hE16, o0_16, n0_16⟩
    refine W_th ?_
    refine W_seq ?_
    refine W_reg (by kernel_rfl) ?_
    refine wla rfl rfl (q_move (v := v3_16) rfl s3_16) ?_
    refine wla rfl rfl (q_assign (v := v3_16) rfl rfl) ?_
    refine wl_nil ?_
    refine W_th ?_
    refine W_ret ?_
    obtain rfl := Option.some.inj H
    refine rt1 v3_16 rfl rfl rfl s25_16 ?_
    exact ⟨v3_16, rfl, hE16, n0_16, (o0_16.weak (Sc.stab _) (fun _ _ => trivial))⟩

/-! largesse/largesseref03.Eval -/
noncomputable def ref03_Eval (a0p : List UInt8) (a1x : UInt8) : Option UInt8 :=
((iterC (fun s1 : UInt8 × UInt8 × Int =>
(if s1.2.2 < (a0p.length : Int) then
((idx a0p s1.2.2).bind fun c4 =>
((ref02_Mul c4 s1.2.1).bind fun r5 =>
((ref02_Mul s1.2.1 a1x).bind fun r7 => some (.inl ((s1.1 ^^^ r5), r7, (wI (s1.2.2 + 1)))))))
else some (.inr s1.1))) ((0 : UInt8), (1 : UInt8), 0)).bind fun x1 => some x1)
set_option maxRecDepth 100000 in
set_option maxHeartbeats 8000000 in
theorem ref03_Eval_calls (a0p : List UInt8) (a1x : UInt8) (p0 : Value) (r : UInt8) (w0 : World) (hp0 : By w0 [] p0 a0p) (H : ref03_Eval a0p a1x = some r) :
    Calls Try.prog 26 [p0, (u8 a1x)].toArray w0 (fun e w' => e = .returned (u8 r) ∧ Ext w0 w') := by
  have hE : Ext w0 w0 := Ext.refl w0
  unfold ref03_Eval at H
  refine calls_W (n := 25) Try.func26 rfl rfl rfl ?_
  refine W_seq ?_
  refine W_reg (by kernel_rfl) ?_
  refine wla rfl rfl (q_assign (v := (u8 0)) rfl (cst8 (0 : UInt8) rfl)) ?_
  refine wl_nil ?_
  refine W_th ?_
  refine W_seq ?_
  refine W_reg (by kernel_rfl) ?_
  refine wla rfl rfl (q_assign (v := (u8 0)) rfl (cst8 (0 : UInt8) rfl)) ?_
  refine wla rfl rfl (q_assign (v := (u8 1)) rfl (cst8 (1 : UInt8) rfl)) ?_
  refine wl_nil ?_
  refine W_th ?_
  refine W_seq ?_
  refine W_seq ?_
  refine W_reg (by kernel_rfl) ?_
  refine wla rfl rfl (q_move (v := p0) rfl rfl) ?_
  refine wla rfl rfl (q_len rfl T22.sl rfl (hp0.lift (Lift.ext hE _))) ?_
  refine wla rfl rfl (q_move (v := (i64 0)) rfl rfl) ?_
  refine wl_nil ?_
  refine W_th ?_
  obtain ⟨x1, G1, H⟩ := Option.bind_eq_some_iff.1 H
  refine W_mid (fun f w => f 5 = (u8 x1) ∧ f 25 = undef ∧ Ext w0 w) ?_ ?_
  · refine W_block ?_
    refine W_loop (fun s1 f w => f 1 = (u8 a1x) ∧ f 5 = (u8 s1.1) ∧ f 6 = (u8 s1.2.1) ∧ f 9 = p0 ∧ f 10 = (i64 ((a0p.length : Int))) ∧ f 11 = (i64 s1.2.2) ∧ f 25 = undef ∧ Ext w0 w) G1 ?_ ?_
    · exact ⟨rfl, rfl, rfl, rfl, rfl, rfl, rfl, hE⟩
    · rintro s1 _ _ w2 ⟨s1_2, s5_2, s6_2, s9_2, s10_2, s11_2, s25_2, hE2⟩ H1 hr1
      refine W_seq ?_
      refine W_reg (by kernel_rfl) ?_
      refine wla rfl rfl (q_ltI rfl s11_2 s10_2) ?_
      refine wl_nil ?_
      refine W_th ?_
      refine W_seq ?_
      refine W_cond _ rfl rfl (fun hb3 => ?_) (fun hb3 => ?_)
      · replace H1 := (if_pos (of_decide_eq_true hb3)).symm.trans H1
        refine W_skip ?_
        refine W_th ?_
        refine W_seq ?_
        refine W_block ?_
        refine W_seq ?_
        refine W_reg (by kernel_rfl) ?_
        obtain ⟨c4, hc4, H1⟩ := Option.bind_eq_some_iff.1 H1
        refine wla rfl rfl (q_adr rfl T22 s9_2 s11_2 (hp0.lift (Lift.ext hE2 _)) hc4) ?_
        refine wlq rfl rfl (q_loadS rfl T22 rfl (hp0.lift (Lift.ext hE2 _)) hc4) ?_
        refine wla rfl rfl (q_assign (v := (u8 c4)) rfl rfl) ?_
        refine wl_nil ?_
        refine W_th ?_
        refine W_seq ?_
        refine W_reg (by kernel_rfl) ?_
        refine wla rfl rfl (q_move (v := (u8 s1.1)) rfl s5_2) ?_
        refine wla rfl rfl (q_move (v := (u8 c4)) rfl rfl) ?_
        refine wla rfl rfl (q_move (v := (u8 s1.2.1)) rfl s6_2) ?_
        obtain ⟨r5, hr5, H1⟩ := Option.bind_eq_some_iff.1 H1
        refine wls rfl rfl (stp_call (vs := [(u8 c4), (u8 s1.2.1)]) Try.func66 rfl rfl rfl (ar2 rfl rfl) (ref02_Mul_calls c4 s1.2.1  r5 _  hr5) ?_)
        rintro _ w5 ⟨rfl, x5⟩
        refine ⟨_, rfl, ?_⟩
        have e6 := hE2.trans x5
        refine wla rfl rfl (q_xor8 rfl rfl rfl) ?_
        refine wla rfl rfl (q_assign (v := (u8 ((s1.1 ^^^ r5)))) rfl rfl) ?_
        refine wl_nil ?_
        refine W_th ?_
        refine W_reg (by kernel_rfl) ?_
        refine wla rfl rfl (q_move (v := (u8 s1.2.1)) rfl s6_2) ?_
        refine wla rfl rfl (q_move (v := (u8 a1x)) rfl s1_2) ?_
        obtain ⟨r7, hr7, H1⟩ := Option.bind_eq_some_iff.1 H1
        refine wls rfl rfl (stp_call (vs := [(u8 s1.2.1), (u8 a1x)]) Try.func66 rfl rfl rfl (ar2 rfl rfl) (ref02_Mul_calls s1.2.1 a1x  r7 _  hr7) ?_)
        rintro _ w7 ⟨rfl, x7⟩
        refine ⟨_, rfl, ?_⟩
        have e8 := e6.trans x7
        refine wla rfl rfl (q_assign (v := (u8 r7)) rfl rfl) ?_
        refine wl_nil ?_
        refine bk_n ?_
        refine W_th ?_
        refine W_reg (by kernel_rfl) ?_
        refine wla rfl rfl (q_addI rfl s11_2 rfl) ?_
        refine wla rfl rfl (q_move (v := (i64 ((wI (s1.2.2 + 1))))) rfl rfl) ?_
        refine wl_nil ?_
        obtain rfl := Option.some.inj H1
        exact ⟨_, rfl, s1_2, rfl, rfl, s9_2, s10_2, rfl, s25_2, e8⟩
      · replace H1 := (if_neg (of_decide_eq_false hb3)).symm.trans H1
        refine W_exit ?_
        refine th_x ?_
        obtain rfl := Option.some.inj H1
        obtain rfl := hr1 _ rfl
        refine th_x ?_
        refine bk_x ?_
        exact ⟨s5_2, s25_2, hE2⟩
  · rintro _ w10 ⟨s5_10, s25_10, hE10⟩
    refine W_th ?_
    refine W_seq ?_
    refine W_reg (by kernel_rfl) ?_
    refine wla rfl rfl (q_move (v := (u8 x1)) rfl s5_10) ?_
    refine wla rfl rfl (q_assign (v := (u8 x1)) rfl rfl) ?_
    refine wl_nil ?_
    refine W_th ?_
    refine W_ret ?_
    obtain rfl := Option.some.inj H
    refine rt1 (u8 x1) rfl rfl rfl s25_10 ?_
    exact ⟨rfl, hE10⟩

/-! largesse/largesseref03.Mul -/
noncomputable def ref03_Mul (a0p : List UInt8) (a1q : List UInt8) : Option (List UInt8) :=
((makeL ((wI ((a0p.length : Int) + (a1q.length : Int)))) (0 : UInt8)).bind fun c1 =>
((iterC (fun s4 : List UInt8 × Int =>
(if s4.2 < (a0p.length : Int) then
((idx a0p s4.2).bind fun c7 =>
((iterC (fun s8 : List UInt8 × Int =>
(if s8.2 < (a1q.length : Int) then
((idx a1q s8.2).bind fun c11 =>
((idx s8.1 ((wI (s4.2 + s8.2)))).bind fun c14 =>
((ref02_Mul c7 c11).bind fun r15 => some (.inl ((s8.1.set ((wI (s4.2 + s8.2)) : Int).toNat ((c14 ^^^ r15))), (wI (s8.2 + 1)))))))
else some (.inr s8.1))) (s4.1, 0)).bind fun x8 => some (.inl (x8, (wI (s4.2 + 1))))))
else some (.inr s4.1))) (c1, 0)).bind fun x4 =>
((ref03_Trim x4).bind fun r24 => some r24)))
set_option maxRecDepth 100000 in
set_option maxHeartbeats 8000000 in
theorem ref03_Mul_calls (a0p : List UInt8) (a1q : List UInt8) (p0 : Value) (p1 : Value) (r : List UInt8) (w0 : World) (hp0 : By w0 [] p0 a0p) (hp1 : By w0 [] p1 a1q) (H : ref03_Mul a0p a1q = some r) :
    Calls Try.prog 24 [p0, p1].toArray w0 (fun e w' => ∃ u0 : Value, e = .returned u0 ∧ Ext w0 w' ∧ Nw w0 u0 ∧ OwK (Sc u8) w' [] 5 u0 r) := by
  have hE : Ext w0 w0 := Ext.refl w0
  unfold ref03_Mul at H
  refine calls_W (n := 49) Try.func24 rfl rfl rfl ?_
  refine W_seq ?_
  refine W_reg (by kernel_rfl) ?_
  refine wla rfl rfl (q_assign (v := (.slice none 0 0)) rfl rfl) ?_
  refine wl_nil ?_
  refine W_th ?_
  refine W_seq ?_
  refine W_reg (by kernel_rfl) ?_
  refine wla rfl rfl (q_move (v := p0) rfl rfl) ?_
  refine wla rfl rfl (q_len rfl T22.sl rfl (hp0.lift (Lift.ext hE _))) ?_
  refine wla rfl rfl (q_move (v := p1) rfl rfl) ?_
  refine wla rfl rfl (q_len rfl T22.sl rfl (hp1.lift (Lift.ext hE _))) ?_
  refine wla rfl rfl (q_addI rfl rfl rfl) ?_
  obtain ⟨c1, hc1, H⟩ := Option.bind_eq_some_iff.1 H
  refine wls rfl rfl (stp_make (L := []) (R := (Sc u8)) rfl T22 rfl rfl hc1 (fun _ _ => rfl) ?_)
  intro v1 w1 o1 n1 g1 l1
  have x1 := grown_ext g1
  have n3 := Nw.ext hE n1
  have e2 := hE.trans x1
  refine wla rfl rfl (q_assign (v := v1) rfl rfl) ?_
  refine wl_nil ?_
  refine W_th ?_
  refine W_seq ?_
  refine W_seq ?_
  refine W_reg (by kernel_rfl) ?_
  refine wla rfl rfl (q_move (v := p0) rfl rfl) ?_
  refine wla rfl rfl (q_len rfl T22.sl rfl (hp0.lift (Lift.ext e2 _))) ?_
  refine wla rfl rfl (q_move (v := (i64 0)) rfl rfl) ?_
  refine wl_nil ?_
  refine W_th ?_
  obtain ⟨x4, G4, H⟩ := Option.bind_eq_some_iff.1 H
  refine W_mid (fun f w => f 5 = v1 ∧ f 49 = undef ∧ Ext w0 w ∧ OwK (Sc u8) w [v1] 5 v1 x4 ∧ Nw w0 v1) ?_ ?_
  · refine W_block ?_
    refine W_loop (fun s4 f w => f 1 = p1 ∧ f 5 = v1 ∧ f 16 = p0 ∧ f 17 = (i64 ((a0p.length : Int))) ∧ f 18 = (i64 s4.2) ∧ f 49 = undef ∧ Ext w0 w ∧ OwK (Sc u8) w [v1] 5 v1 s4.1 ∧ Nw w0 v1) G4 ?_ ?_
    · exact ⟨rfl, rfl, rfl, rfl, rfl, rfl, e2, o1, n3⟩
    · rintro s4 _ _ w5 ⟨s1_5, s5_5, s16_5, s17_5, s18_5, s49_5, hE5, o0_5, n0_5⟩ H4 hr4
      refine W_seq ?_
      refine W_reg (by kernel_rfl) ?_
      refine wla rfl rfl (q_ltI rfl s18_5 s17_5) ?_
      refine wl_nil ?_
      refine W_th ?_
      refine W_seq ?_
      refine W_cond _ rfl rfl (fun hb6 => ?_) (fun hb6 => ?_)
      · replace H4 := (if_pos (of_decide_eq_true hb6)).symm.trans H4
        refine W_skip ?_
        refine W_th ?_
        refine W_seq ?_
        refine W_block ?_
        refine W_seq ?_
        refine W_reg (by kernel_rfl) ?_
        refine wla rfl rfl (q_move (v := (i64 s4.2)) rfl s18_5) ?_
        obtain ⟨c7, hc7, H4⟩ := Option.bind_eq_some_iff.1 H4
        refine wla rfl rfl (q_adr rfl T22 s16_5 s18_5 (hp0.lift (Lift.ext hE5 _)) hc7) ?_
        refine wlq rfl rfl (q_loadS rfl T22 rfl (hp0.lift (Lift.ext hE5 _)) hc7) ?_
        refine wla rfl rfl (q_assign (v := (i64 s4.2)) rfl rfl) ?_
        refine wla rfl rfl (q_assign (v := (u8 c7)) rfl rfl) ?_
        refine wl_nil ?_
        refine W_th ?_
        refine W_seq ?_
        refine W_reg (by kernel_rfl) ?_
        refine wla rfl rfl (q_move (v := p1) rfl s1_5) ?_
        refine wla rfl rfl (q_len rfl T22.sl rfl (hp1.lift (Lift.ext hE5 _))) ?_
        refine wla rfl rfl (q_move (v := (i64 0)) rfl rfl) ?_
        refine wl_nil ?_
        refine W_th ?_
        obtain ⟨x8, G8, H4⟩ := Option.bind_eq_some_iff.1 H4
        refine W_mid (fun f w => f 1 = p1 ∧ f 5 = v1 ∧ f 16 = p0 ∧ f 17 = (i64 ((a0p.length : Int))) ∧ f 18 = (i64 s4.2) ∧ f 49 = undef ∧ Ext w0 w ∧ OwK (Sc u8) w [v1] 5 v1 x8 ∧ Nw w0 v1) ?_ ?_
        · refine W_block ?_
          refine W_loop (fun s8 f w => f 1 = p1 ∧ f 5 = v1 ∧ f 6 = (i64 s4.2) ∧ f 7 = (u8 c7) ∧ f 16 = p0 ∧ f 17 = (i64 ((a0p.length : Int))) ∧ f 18 = (i64 s4.2) ∧ f 23 = p1 ∧ f 24 = (i64 ((a1q.length : Int))) ∧ f 25 = (i64 s8.2) ∧ f 49 = undef ∧ Ext w0 w ∧ OwK (Sc u8) w [v1] 5 v1 s8.1 ∧ Nw w0 v1) G8 ?_ ?_
          · exact ⟨s1_5, s5_5, rfl, rfl, s16_5, s17_5, s18_5, rfl, rfl, rfl, s49_5, hE5, o0_5, n0_5⟩
          · rintro s8 _ _ w9 ⟨s1_9, s5_9, s6_9, s7_9, s16_9, s17_9, s18_9, s23_9, s24_9, s25_9, s49_9, hE9, o0_9, n0_9⟩ H8 hr8
            refine W_seq ?_
            refine W_reg (by kernel_rfl) ?_
            refine wla rfl rfl (q_ltI rfl s25_9 s24_9) ?_
            refine wl_nil ?_
            refine W_th ?_
            refine W_seq ?_
            refine W_cond _ rfl rfl (fun hb10 => ?_) (fun hb10 => ?_)
            · replace H8 := (if_pos (of_decide_eq_true hb10)).symm.trans H8
              refine W_skip ?_
              refine W_th ?_
              refine W_seq ?_
              refine W_block ?_
              refine W_seq ?_
              refine W_reg (by kernel_rfl) ?_
              refine wla rfl rfl (q_move (v := (i64 s8.2)) rfl s25_9) ?_
              obtain ⟨c11, hc11, H8⟩ := Option.bind_eq_some_iff.1 H8
              refine wla rfl rfl (q_adr rfl T22 s23_9 s25_9 (hp1.lift (Lift.ext hE9 _)) hc11) ?_
              refine wlq rfl rfl (q_loadS rfl T22 rfl (hp1.lift (Lift.ext hE9 _)) hc11) ?_
              refine wla rfl rfl (q_assign (v := (i64 s8.2)) rfl rfl) ?_
              refine wla rfl rfl (q_assign (v := (u8 c11)) rfl rfl) ?_
              refine wl_nil ?_
              refine W_th ?_
              refine W_draw [9] [(0, 0), (1, 0), (2, 0), (3, 0), (4, 0), (5, 0), (6, 0), (7, 0), (8, 0), (9, 1), (10, 0), (11, 0), (12, 2), (13, 0), (14, 0), (15, 2)] mixed (by kernel_rfl) (by kernel_rfl) (by kernel_rfl) (by kernel_rfl) ?_
              have x12 := Ext.drew w9
              replace o0_9 := o0_9.extL (Sc.stab _) x12 (Lift.ext x12 _)
              have e13 := hE9.trans x12
              refine wsa rfl rfl rfl (q_move (v := v1) rfl s5_9) ?_
              refine wsa rfl rfl rfl (q_move (v := (i64 s4.2)) rfl s6_9) ?_
              refine wsa rfl rfl rfl (q_move (v := (i64 s8.2)) rfl rfl) ?_
              refine wsa rfl rfl rfl (q_addI rfl rfl rfl) ?_
              refine wsa rfl rfl rfl (q_move (v := v1) rfl s5_9) ?_
              refine wsa rfl rfl rfl (q_move (v := (i64 s4.2)) rfl s6_9) ?_
              refine wsa rfl rfl rfl (q_move (v := (i64 s8.2)) rfl rfl) ?_
              refine wsa rfl rfl rfl (q_addI rfl rfl rfl) ?_
              obtain ⟨c14, hc14, H8⟩ := Option.bind_eq_some_iff.1 H8
              refine wsa rfl rfl rfl (q_adr rfl T22 rfl rfl (o0_9.rd (Sc.stab _)) hc14) ?_
              refine wsq rfl rfl rfl (q_loadS rfl T22 rfl (o0_9.rd (Sc.stab _)) hc14) ?_
              refine wsa rfl rfl rfl (q_move (v := (u8 c7)) rfl s7_9) ?_
              refine wsa rfl rfl rfl (q_move (v := (u8 c11)) rfl rfl) ?_
              obtain ⟨r15, hr15, H8⟩ := Option.bind_eq_some_iff.1 H8
              refine wss rfl rfl rfl (stp_call (vs := [(u8 c7), (u8 c11)]) Try.func66 rfl rfl rfl (ar2 rfl rfl) (ref02_Mul_calls c7 c11  r15 _  hr15) ?_)
              rintro _ w15 ⟨rfl, x15⟩
              refine ⟨_, rfl, x15, ?_⟩
              replace o0_9 := o0_9.extL (Sc.stab _) x15 (Lift.ext x15 _)
              have e16 := e13.trans x15
              refine wsa rfl rfl rfl (q_xor8 rfl rfl rfl) ?_
              refine wsa rfl rfl rfl (q_adr rfl T22 rfl rfl (o0_9.rd (Sc.stab _)) hc14) ?_
              refine wsn rfl (by kernel_rfl) rfl rfl (stp_store (R := (Sc u8)) (u := (u8 ((c14 ^^^ r15)))) (Sc.stab _) [] [] rfl T22 rfl rfl o0_9 (put_of ((c14 ^^^ r15)) hc14) rfl rfl ?_)
              intro w17 o17 g17 l17
              have e18 := e16.grown g17 n0_9
              refine ws_nil ?_
              refine bk_n ?_
              refine W_th ?_
              refine W_reg (by kernel_rfl) ?_
              refine wla rfl rfl (q_addI rfl s25_9 rfl) ?_
              refine wla rfl rfl (q_move (v := (i64 ((wI (s8.2 + 1))))) rfl rfl) ?_
              refine wl_nil ?_
              obtain rfl := Option.some.inj H8
              exact ⟨_, rfl, s1_9, s5_9, s6_9, s7_9, s16_9, s17_9, s18_9, s23_9, s24_9, rfl, s49_9, e18, o17, n0_9⟩
            · replace H8 := (if_neg (of_decide_eq_false hb10)).symm.trans H8
              refine W_exit ?_
              refine th_x ?_
              obtain rfl := Option.some.inj H8
              obtain rfl := hr8 _ rfl
              refine th_x ?_
              refine bk_x ?_
              exact ⟨s1_9, s5_9, s16_9, s17_9, s18_9, s49_9, hE9, o0_9, n0_9⟩
        · rintro _ w20 ⟨s1_20, s5_20, s16_20, s17_20, s18_20, s49_20, hE20, o0_20, n0_20⟩
          refine bk_n ?_
          refine W_th ?_
          refine W_reg (by kernel_rfl) ?_
          refine wla rfl rfl (q_addI rfl s18_20 rfl) ?_
          refine wla rfl rfl (q_move (v := (i64 ((wI (s4.2 + 1))))) rfl rfl) ?_
          refine wl_nil ?_
          obtain rfl := Option.some.inj H4
          exact ⟨_, rfl, s1_20, s5_20, s16_20, s17_20, rfl, s49_20, hE20, o0_20, n0_20⟩
      · replace H4 := (if_neg (of_decide_eq_false hb6)).symm.trans H4
        refine W_exit ?_
        refine th_x ?_
        obtain rfl := Option.some.inj H4
        obtain rfl := hr4 _ rfl
        refine th_x ?_
        refine bk_x ?_
        exact ⟨s5_5, s49_5, hE5, o0_5, n0_5⟩
  · rintro _ w23 ⟨s5_23, s49_23, hE23, o0_23, n0_23⟩
    refine W_th ?_
    refine W_seq ?_
    refine W_reg (by kernel_rfl) ?_
    refine wla rfl rfl (q_move (v := v1) rfl s5_23) ?_
    obtain ⟨r24, hr24, H⟩ := Option.bind_eq_some_iff.1 H
    refine wls rfl rfl (stp_call (vs := [v1]) Try.func25 rfl rfl rfl (ar1 rfl) (ref03_Trim_calls x4 v1 r24 _ (o0_23.rd (Sc.stab _)) hr24) ?_)
    rintro _ w24 ⟨v24, rfl, x24, n24_0, o24_0⟩
    refine ⟨_, rfl, ?_⟩
    have o24 : OwK (Sc u8) w24 (v24 :: [v1]) 5 v24 r24 := OwK.scal o24_0 _
    have q25 : Nq v1 v24 := o0_23.nq n24_0
    replace o0_23 := o0_23.extL (Sc.stab _) x24 (Lift.call _ x24 n24_0)
    have n27 := Nw.ext hE23 n24_0
    have e26 := hE23.trans x24
    refine wla rfl rfl (q_assign (v := v24) rfl rfl) ?_
    refine wl_nil ?_
    refine W_th ?_
    refine W_ret ?_
    obtain rfl := Option.some.inj H
    refine rt1 v24 rfl rfl rfl s49_23 ?_
    exact ⟨v24, rfl, e26, n27, (o24.weak (Sc.stab _) (fun _ _ => trivial))⟩

/-! largesse/largesseref03.Places -/
noncomputable def ref03_Places (a0xs : List UInt8) : Option Int :=
(if (a0xs.length : Int) = 0 then some 5
else
(if 255 < (a0xs.length : Int) then some 4
else
((iterC (fun s3 : Int =>
(if s3 < (a0xs.length : Int) then
((iterC (fun s6 : Int =>
(if s6 < s3 then
((idx a0xs s3).bind fun c11 =>
((idx a0xs s6).bind fun c12 =>
(if c11 = c12 then some (.inr (.inr 6))
else some (.inl (wI (s6 + 1))))))
else some (.inr (.inl ())))) 0).bind (Sum.elim (fun y6 => some (.inl (wI (s3 + 1)))) (fun q6 => some (.inr (.inr q6)))))
else some (.inr (.inl ())))) 0).bind (Sum.elim (fun y3 => some 0) (fun q3 => some q3)))))
set_option maxRecDepth 100000 in
set_option maxHeartbeats 8000000 in
theorem ref03_Places_calls (a0xs : List UInt8) (p0 : Value) (r : Int) (w0 : World) (hp0 : By w0 [] p0 a0xs) (H : ref03_Places a0xs = some r) :
    Calls Try.prog 33 [p0].toArray w0 (fun e w' => e = .returned (i64 r) ∧ Ext w0 w') := by
  have hE : Ext w0 w0 := Ext.refl w0
  unfold ref03_Places at H
  refine calls_W (n := 31) Try.func33 rfl rfl rfl ?_
  refine W_seq ?_
  refine W_reg (by kernel_rfl) ?_
  refine wla rfl rfl (q_assign (v := (i64 0)) rfl rfl) ?_
  refine wl_nil ?_
  refine W_th ?_
  refine W_seq ?_
  refine W_seq ?_
  refine W_reg (by kernel_rfl) ?_
  refine wla rfl rfl (q_move (v := p0) rfl rfl) ?_
  refine wla rfl rfl (q_len rfl T22.sl rfl (hp0.lift (Lift.ext hE _))) ?_
  refine wla rfl rfl (q_eqI rfl rfl rfl) ?_
  refine wl_nil ?_
  refine W_th ?_
  refine W_cond _ rfl rfl (fun hb1 => ?_) (fun hb1 => ?_)
  · replace H := (if_pos (of_decide_eq_true hb1)).symm.trans H
    refine W_seq ?_
    refine W_reg (by kernel_rfl) ?_
    refine wla rfl rfl (q_assign (v := (i64 5)) rfl rfl) ?_
    refine wl_nil ?_
    refine W_th ?_
    refine W_ret ?_
    refine th_r ?_
    obtain rfl := Option.some.inj H
    refine rt1 (i64 5) rfl rfl rfl rfl ?_
    exact ⟨rfl, hE⟩
  · replace H := (if_neg (of_decide_eq_false hb1)).symm.trans H
    refine W_skip ?_
    refine W_th ?_
    refine W_seq ?_
    refine W_seq ?_
    refine W_reg (by kernel_rfl) ?_
    refine wla rfl rfl (q_move (v := p0) rfl rfl) ?_
    refine wla rfl rfl (q_len rfl T22.sl rfl (hp0.lift (Lift.ext hE _))) ?_
    refine wla rfl rfl (q_gtI rfl rfl rfl) ?_
    refine wl_nil ?_
    refine W_th ?_
    refine W_cond _ rfl rfl (fun hb2 => ?_) (fun hb2 => ?_)
    · replace H := (if_pos (of_decide_eq_true hb2)).symm.trans H
      refine W_seq ?_
      refine W_reg (by kernel_rfl) ?_
      refine wla rfl rfl (q_assign (v := (i64 4)) rfl rfl) ?_
      refine wl_nil ?_
      refine W_th ?_
      refine W_ret ?_
      refine th_r ?_
      obtain rfl := Option.some.inj H
      refine rt1 (i64 4) rfl rfl rfl rfl ?_
      exact ⟨rfl, hE⟩
    · replace H := (if_neg (of_decide_eq_false hb2)).symm.trans H
      refine W_skip ?_
      refine W_th ?_
      refine W_seq ?_
      refine W_seq ?_
      refine W_reg (by kernel_rfl) ?_
      refine wla rfl rfl (q_move (v := p0) rfl rfl) ?_
      refine wla rfl rfl (q_len rfl T22.sl rfl (hp0.lift (Lift.ext hE _))) ?_
      refine wla rfl rfl (q_move (v := (i64 0)) rfl rfl) ?_
      refine wl_nil ?_
      refine W_th ?_
      obtain ⟨x3, G3, H⟩ := Option.bind_eq_some_iff.1 H
      refine W_mid (fun f w => ∃ y3, x3 = .inl y3 ∧ f 31 = undef ∧ Ext w0 w) ?_ ?_
      · refine W_block ?_
        refine W_loop (fun s3 f w => f 0 = p0 ∧ f 12 = (i64 ((a0xs.length : Int))) ∧ f 13 = (i64 s3) ∧ f 31 = undef ∧ Ext w0 w) G3 ?_ ?_
        · exact ⟨rfl, rfl, rfl, rfl, hE⟩
        · rintro s3 _ _ w4 ⟨s0_4, s12_4, s13_4, s31_4, hE4⟩ H3 hr3
          refine W_seq ?_
          refine W_reg (by kernel_rfl) ?_
          refine wla rfl rfl (q_ltI rfl s13_4 s12_4) ?_
          refine wl_nil ?_
          refine W_th ?_
          refine W_seq ?_
          refine W_cond _ rfl rfl (fun hb5 => ?_) (fun hb5 => ?_)
          · replace H3 := (if_pos (of_decide_eq_true hb5)).symm.trans H3
            refine W_skip ?_
            refine W_th ?_
            refine W_seq ?_
            refine W_block ?_
            refine W_seq ?_
            refine W_reg (by kernel_rfl) ?_
            refine wla rfl rfl (q_move (v := (i64 s3)) rfl s13_4) ?_
            refine wla rfl rfl (q_assign (v := (i64 s3)) rfl rfl) ?_
            refine wl_nil ?_
            refine W_th ?_
            refine W_seq ?_
            refine W_reg (by kernel_rfl) ?_
            refine wla rfl rfl (q_assign (v := (i64 0)) rfl rfl) ?_
            refine wl_nil ?_
            refine W_th ?_
            obtain ⟨x6, G6, H3⟩ := Option.bind_eq_some_iff.1 H3
            refine W_mid (fun f w => ∃ y6, x6 = .inl y6 ∧ f 0 = p0 ∧ f 12 = (i64 ((a0xs.length : Int))) ∧ f 13 = (i64 s3) ∧ f 31 = undef ∧ Ext w0 w) ?_ ?_
            · refine W_block ?_
              refine W_loop (fun s6 f w => f 0 = p0 ∧ f 3 = (i64 s3) ∧ f 4 = (i64 s6) ∧ f 12 = (i64 ((a0xs.length : Int))) ∧ f 13 = (i64 s3) ∧ f 31 = undef ∧ Ext w0 w) G6 ?_ ?_
              · exact ⟨s0_4, rfl, rfl, s12_4, s13_4, s31_4, hE4⟩
              · rintro s6 _ _ w7 ⟨s0_7, s3_7, s4_7, s12_7, s13_7, s31_7, hE7⟩ H6 hr6
                refine W_seq ?_
                refine W_seq ?_
                refine W_reg (by kernel_rfl) ?_
                refine wla rfl rfl (q_move (v := (i64 s6)) rfl s4_7) ?_
                refine wla rfl rfl (q_move (v := (i64 s3)) rfl s3_7) ?_
                refine wla rfl rfl (q_ltI rfl rfl rfl) ?_
                refine wl_nil ?_
                refine W_th ?_
                refine W_cond _ rfl rfl (fun hb8 => ?_) (fun hb8 => ?_)
                · replace H6 := (if_pos (of_decide_eq_true hb8)).symm.trans H6
                  refine W_skip ?_
                  refine W_th ?_
                  refine W_seq ?_
                  refine W_block ?_
                  refine W_seq ?_
                  refine W_draw [3, 7] [(0, 0), (1, 0), (2, 0), (3, 1), (4, 0), (5, 0), (6, 0), (7, 1), (8, 0)] mixed (by kernel_rfl) (by kernel_rfl) (by kernel_rfl) (by kernel_rfl) ?_
                  have x9 := Ext.drew w7
                  have e10 := hE7.trans x9
                  refine wsa rfl rfl rfl (q_move (v := p0) rfl s0_7) ?_
                  refine wsa rfl rfl rfl (q_move (v := (i64 s3)) rfl s3_7) ?_
                  obtain ⟨c11, hc11, H6⟩ := Option.bind_eq_some_iff.1 H6
                  refine wsa rfl rfl rfl (q_adr rfl T22 rfl rfl (hp0.lift (Lift.ext e10 _)) hc11) ?_
                  refine wsq rfl rfl rfl (q_loadS rfl T22 rfl (hp0.lift (Lift.ext e10 _)) hc11) ?_
                  refine wsa rfl rfl rfl (q_move (v := p0) rfl s0_7) ?_
                  refine wsa rfl rfl rfl (q_move (v := (i64 s6)) rfl s4_7) ?_
                  obtain ⟨c12, hc12, H6⟩ := Option.bind_eq_some_iff.1 H6
                  refine wsa rfl rfl rfl (q_adr rfl T22 rfl rfl (hp0.lift (Lift.ext e10 _)) hc12) ?_
                  refine wsq rfl rfl rfl (q_loadS rfl T22 rfl (hp0.lift (Lift.ext e10 _)) hc12) ?_
                  refine wsa rfl rfl rfl (q_eq8 rfl rfl rfl) ?_
                  refine ws_nil ?_
                  refine W_th ?_
                  refine W_cond _ rfl rfl (fun hb13 => ?_) (fun hb13 => ?_)
                  · replace H6 := (if_pos (of_decide_eq_true hb13)).symm.trans H6
                    refine W_seq ?_
                    refine W_reg (by kernel_rfl) ?_
                    refine wla rfl rfl (q_assign (v := (i64 6)) rfl rfl) ?_
                    refine wl_nil ?_
                    refine W_th ?_
                    refine W_ret ?_
                    refine bk_r ?_
                    refine th_r ?_
                    obtain rfl := Option.some.inj H6
                    obtain rfl := hr6 _ rfl
                    simp only [Sum.elim_inr] at H3
                    refine th_r ?_
                    refine bk_r ?_
                    refine th_r ?_
                    refine bk_r ?_
                    refine th_r ?_
                    obtain rfl := Option.some.inj H3
                    obtain rfl := hr3 _ rfl
                    simp only [Sum.elim_inr] at H
                    refine th_r ?_
                    refine bk_r ?_
                    refine th_r ?_
                    refine th_r ?_
                    obtain rfl := Option.some.inj H
                    refine rt1 (i64 6) rfl rfl rfl s31_7 ?_
                    exact ⟨rfl, e10⟩
                  · replace H6 := (if_neg (of_decide_eq_false hb13)).symm.trans H6
                    refine W_skip ?_
                    refine bk_n ?_
                    refine W_th ?_
                    refine W_reg (by kernel_rfl) ?_
                    refine wla rfl rfl (q_move (v := (i64 s6)) rfl s4_7) ?_
                    refine wla rfl rfl (q_addI rfl rfl rfl) ?_
                    refine wla rfl rfl (q_assign (v := (i64 ((wI (s6 + 1))))) rfl rfl) ?_
                    refine wl_nil ?_
                    obtain rfl := Option.some.inj H6
                    exact ⟨_, rfl, s0_7, s3_7, rfl, s12_7, s13_7, s31_7, e10⟩
                · replace H6 := (if_neg (of_decide_eq_false hb8)).symm.trans H6
                  refine W_exit ?_
                  refine th_x ?_
                  obtain rfl := Option.some.inj H6
                  obtain rfl := hr6 _ rfl
                  refine th_x ?_
                  refine bk_x ?_
                  exact ⟨_, rfl, s0_7, s12_7, s13_7, s31_7, hE7⟩
            · rintro _ w15 ⟨y6, rfl, s0_15, s12_15, s13_15, s31_15, hE15⟩
              simp only [Sum.elim_inl] at H3
              refine bk_n ?_
              refine W_th ?_
              refine W_reg (by kernel_rfl) ?_
              refine wla rfl rfl (q_addI rfl s13_15 rfl) ?_
              refine wla rfl rfl (q_move (v := (i64 ((wI (s3 + 1))))) rfl rfl) ?_
              refine wl_nil ?_
              obtain rfl := Option.some.inj H3
              exact ⟨_, rfl, s0_15, s12_15, rfl, s31_15, hE15⟩
          · replace H3 := (if_neg (of_decide_eq_false hb5)).symm.trans H3
            refine W_exit ?_
            refine th_x ?_
            obtain rfl := Option.some.inj H3
            obtain rfl := hr3 _ rfl
            refine th_x ?_
            refine bk_x ?_
            exact ⟨_, rfl, s31_4, hE4⟩
      · rintro _ w18 ⟨y3, rfl, s31_18, hE18⟩
        simp only [Sum.elim_inl] at H
        refine W_th ?_
        refine W_seq ?_
        refine W_reg (by kernel_rfl) ?_
        refine wla rfl rfl (q_assign (v := (i64 0)) rfl rfl) ?_
        refine wl_nil ?_
        refine W_th ?_
        refine W_ret ?_
        obtain rfl := Option.some.inj H
        refine rt1 (i64 0) rfl rfl rfl s31_18 ?_
        exact ⟨rfl, hE18⟩

/-! largesse/largesseref03.Weight -/
noncomputable def ref03_Weight (a0xs : List UInt8) (a1i : Int) (a2x : UInt8) : Option UInt8 :=
((iterC (fun s1 : UInt8 × Int =>
(if s1.2 < (a0xs.length : Int) then
(if s1.2 = a1i then some (.inl (s1.1, (wI (s1.2 + 1))))
else
((idx a0xs s1.2).bind fun c7 =>
((idx a0xs a1i).bind fun c8 =>
((ref02_Inv (c8 ^^^ c7)).bind fun r9 =>
((ref02_Mul (a2x ^^^ c7) r9).bind fun r11 =>
((ref02_Mul s1.1 r11).bind fun r13 => some (.inl (r13, (wI (s1.2 + 1))))))))))
else some (.inr s1.1))) ((1 : UInt8), 0)).bind fun x1 => some x1)
set_option maxRecDepth 100000 in
set_option maxHeartbeats 8000000 in
theorem ref03_Weight_calls (a0xs : List UInt8) (a1i : Int) (a2x : UInt8) (p0 : Value) (r : UInt8) (w0 : World) (hp0 : By w0 [] p0 a0xs) (H : ref03_Weight a0xs a1i a2x = some r) :
    Calls Try.prog 34 [p0, (i64 a1i), (u8 a2x)].toArray w0 (fun e w' => e = .returned (u8 r) ∧ Ext w0 w') := by
  have hE : Ext w0 w0 := Ext.refl w0
  unfold ref03_Weight at H
  refine calls_W (n := 38) Try.func34 rfl rfl rfl ?_
  refine W_seq ?_
  refine W_reg (by kernel_rfl) ?_
  refine wla rfl rfl (q_assign (v := (u8 0)) rfl (cst8 (0 : UInt8) rfl)) ?_
  refine wl_nil ?_
  refine W_th ?_
  refine W_seq ?_
  refine W_reg (by kernel_rfl) ?_
  refine wla rfl rfl (q_assign (v := (u8 1)) rfl (cst8 (1 : UInt8) rfl)) ?_
  refine wl_nil ?_
  refine W_th ?_
  refine W_seq ?_
  refine W_seq ?_
  refine W_reg (by kernel_rfl) ?_
  refine wla rfl rfl (q_move (v := p0) rfl rfl) ?_
  refine wla rfl rfl (q_len rfl T22.sl rfl (hp0.lift (Lift.ext hE _))) ?_
  refine wla rfl rfl (q_move (v := (i64 0)) rfl rfl) ?_
  refine wl_nil ?_
  refine W_th ?_
  obtain ⟨x1, G1, H⟩ := Option.bind_eq_some_iff.1 H
  refine W_mid (fun f w => f 7 = (u8 x1) ∧ f 38 = undef ∧ Ext w0 w) ?_ ?_
  · refine W_block ?_
    refine W_loop (fun s1 f w => f 0 = p0 ∧ f 1 = (i64 a1i) ∧ f 2 = (u8 a2x) ∧ f 7 = (u8 s1.1) ∧ f 10 = (i64 ((a0xs.length : Int))) ∧ f 11 = (i64 s1.2) ∧ f 38 = undef ∧ Ext w0 w) G1 ?_ ?_
    · exact ⟨rfl, rfl, rfl, rfl, rfl, rfl, rfl, hE⟩
    · rintro s1 _ _ w2 ⟨s0_2, s1_2, s2_2, s7_2, s10_2, s11_2, s38_2, hE2⟩ H1 hr1
      refine W_seq ?_
      refine W_reg (by kernel_rfl) ?_
      refine wla rfl rfl (q_ltI rfl s11_2 s10_2) ?_
      refine wl_nil ?_
      refine W_th ?_
      refine W_seq ?_
      refine W_cond _ rfl rfl (fun hb3 => ?_) (fun hb3 => ?_)
      · replace H1 := (if_pos (of_decide_eq_true hb3)).symm.trans H1
        refine W_skip ?_
        refine W_th ?_
        refine W_seq ?_
        refine W_block ?_
        refine W_seq ?_
        refine W_reg (by kernel_rfl) ?_
        refine wla rfl rfl (q_move (v := (i64 s1.2)) rfl s11_2) ?_
        refine wla rfl rfl (q_assign (v := (i64 s1.2)) rfl rfl) ?_
        refine wl_nil ?_
        refine W_th ?_
        refine W_seq ?_
        refine W_reg (by kernel_rfl) ?_
        refine wla rfl rfl (q_move (v := (i64 s1.2)) rfl rfl) ?_
        refine wla rfl rfl (q_move (v := (i64 a1i)) rfl s1_2) ?_
        refine wla rfl rfl (q_neI rfl rfl rfl) ?_
        refine wl_nil ?_
        refine W_th ?_
        refine W_cond _ rfl rfl (fun hb4 => ?_) (fun hb4 => ?_)
        · replace H1 := (if_neg (ndec_t hb4)).symm.trans H1
          refine W_draw [5, 10, 14] [(0, 0), (1, 0), (2, 0), (3, 0), (4, 0), (5, 1), (6, 0), (7, 0), (8, 0), (9, 0), (10, 1), (11, 0), (12, 0), (13, 0), (14, 1), (15, 0), (16, 2), (17, 2), (18, 2), (19, 0)] mixed (by kernel_rfl) (by kernel_rfl) (by kernel_rfl) (by kernel_rfl) ?_
          have x5 := Ext.drew w2
          have e6 := hE2.trans x5
          refine wsa rfl rfl rfl (q_move (v := (u8 s1.1)) rfl s7_2) ?_
          refine wsa rfl rfl rfl (q_move (v := (u8 a2x)) rfl s2_2) ?_
          refine wsa rfl rfl rfl (q_move (v := p0) rfl s0_2) ?_
          refine wsa rfl rfl rfl (q_move (v := (i64 s1.2)) rfl rfl) ?_
          obtain ⟨c7, hc7, H1⟩ := Option.bind_eq_some_iff.1 H1
          refine wsa rfl rfl rfl (q_adr rfl T22 rfl rfl (hp0.lift (Lift.ext e6 _)) hc7) ?_
          refine wsq rfl rfl rfl (q_loadS rfl T22 rfl (hp0.lift (Lift.ext e6 _)) hc7) ?_
          refine wsa rfl rfl rfl (q_xor8 rfl rfl rfl) ?_
          refine wsa rfl rfl rfl (q_move (v := p0) rfl s0_2) ?_
          refine wsa rfl rfl rfl (q_move (v := (i64 a1i)) rfl s1_2) ?_
          obtain ⟨c8, hc8, H1⟩ := Option.bind_eq_some_iff.1 H1
          refine wsa rfl rfl rfl (q_adr rfl T22 rfl rfl (hp0.lift (Lift.ext e6 _)) hc8) ?_
          refine wsq rfl rfl rfl (q_loadS rfl T22 rfl (hp0.lift (Lift.ext e6 _)) hc8) ?_
          refine wsa rfl rfl rfl (q_move (v := p0) rfl s0_2) ?_
          refine wsa rfl rfl rfl (q_move (v := (i64 s1.2)) rfl rfl) ?_
          refine wsa rfl rfl rfl (q_adr rfl T22 rfl rfl (hp0.lift (Lift.ext e6 _)) hc7) ?_
          refine wsq rfl rfl rfl (q_loadS rfl T22 rfl (hp0.lift (Lift.ext e6 _)) hc7) ?_
          refine wsa rfl rfl rfl (q_xor8 rfl rfl rfl) ?_
          obtain ⟨r9, hr9, H1⟩ := Option.bind_eq_some_iff.1 H1
          refine wss rfl rfl rfl (stp_call (vs := [(u8 ((c8 ^^^ c7)))]) Try.func59 rfl rfl rfl (ar1 rfl) (ref02_Inv_calls (c8 ^^^ c7)  r9 _  hr9) ?_)
          rintro _ w9 ⟨rfl, x9⟩
          refine ⟨_, rfl, x9, ?_⟩
          have e10 := e6.trans x9
          obtain ⟨r11, hr11, H1⟩ := Option.bind_eq_some_iff.1 H1
          refine wsc rfl (by kernel_rfl) rfl rfl (stp_call (vs := [(u8 ((a2x ^^^ c7))), (u8 r9)]) Try.func66 rfl rfl rfl (ar2 rfl rfl) (ref02_Mul_calls (a2x ^^^ c7) r9  r11 _  hr11) ?_)
          rintro _ w11 ⟨rfl, x11⟩
          refine ⟨_, rfl, ?_⟩
          have e12 := e10.trans x11
          obtain ⟨r13, hr13, H1⟩ := Option.bind_eq_some_iff.1 H1
          refine wsc rfl (by kernel_rfl) rfl rfl (stp_call (vs := [(u8 s1.1), (u8 r11)]) Try.func66 rfl rfl rfl (ar2 rfl rfl) (ref02_Mul_calls s1.1 r11  r13 _  hr13) ?_)
          rintro _ w13 ⟨rfl, x13⟩
          refine ⟨_, rfl, ?_⟩
          have e14 := e12.trans x13
          refine wsa rfl rfl rfl (q_assign (v := (u8 r13)) rfl rfl) ?_
          refine ws_nil ?_
          refine bk_n ?_
          refine W_th ?_
          refine W_reg (by kernel_rfl) ?_
          refine wla rfl rfl (q_addI rfl s11_2 rfl) ?_
          refine wla rfl rfl (q_move (v := (i64 ((wI (s1.2 + 1))))) rfl rfl) ?_
          refine wl_nil ?_
          obtain rfl := Option.some.inj H1
          exact ⟨_, rfl, s0_2, s1_2, s2_2, rfl, s10_2, rfl, s38_2, e14⟩
        · replace H1 := (if_pos (ndec_f hb4)).symm.trans H1
          refine W_skip ?_
          refine bk_n ?_
          refine W_th ?_
          refine W_reg (by kernel_rfl) ?_
          refine wla rfl rfl (q_addI rfl s11_2 rfl) ?_
          refine wla rfl rfl (q_move (v := (i64 ((wI (s1.2 + 1))))) rfl rfl) ?_
          refine wl_nil ?_
          obtain rfl := Option.some.inj H1
          exact ⟨_, rfl, s0_2, s1_2, s2_2, s7_2, s10_2, rfl, s38_2, hE2⟩
      · replace H1 := (if_neg (of_decide_eq_false hb3)).symm.trans H1
        refine W_exit ?_
        refine th_x ?_
        obtain rfl := Option.some.inj H1
        obtain rfl := hr1 _ rfl
        refine th_x ?_
        refine bk_x ?_
        exact ⟨s7_2, s38_2, hE2⟩
  · rintro _ w16 ⟨s7_16, s38_16, hE16⟩
    refine W_th ?_
    refine W_seq ?_
    refine W_reg (by kernel_rfl) ?_
    refine wla rfl rfl (q_move (v := (u8 x1)) rfl s7_16) ?_
    refine wla rfl rfl (q_assign (v := (u8 x1)) rfl rfl) ?_
    refine wl_nil ?_
    refine W_th ?_
    refine W_ret ?_
    obtain rfl := Option.some.inj H
    refine rt1 (u8 x1) rfl rfl rfl s38_16 ?_
    exact ⟨rfl, hE16⟩

/-! largesse/largesseref03.Through -/
noncomputable def ref03_Through (a0xs : List UInt8) (a1ys : List UInt8) : Option (List UInt8) :=
((makeL ((a0xs.length : Int)) (0 : UInt8)).bind fun c1 =>
((iterC (fun s4 : List UInt8 × Int =>
(if s4.2 < (a0xs.length : Int) then
((idx a1ys s4.2).bind fun c7 =>
((iterC (fun s10 : List UInt8 × Int =>
(if s10.2 < (a0xs.length : Int) then
(if s10.2 = s4.2 then some (.inl (s10.1, (wI (s10.2 + 1))))
else
((idx a0xs s4.2).bind fun c16 =>
((idx a0xs s10.2).bind fun c17 =>
((ref02_Inv (c16 ^^^ c17)).bind fun r18 =>
((idx a0xs s10.2).bind fun c20 =>
((ref02_Mul r18 c20).bind fun r21 =>
((ref03_Mul s10.1 ([r21, r18] : List UInt8)).bind fun r25 => some (.inl (r25, (wI (s10.2 + 1)))))))))))
else some (.inr s10.1))) (([c7] : List UInt8), 0)).bind fun x10 =>
((iterC (fun s29 : List UInt8 × Int =>
(if s29.2 < (x10.length : Int) then
((idx s29.1 s29.2).bind fun c34 =>
((idx x10 s29.2).bind fun c35 => some (.inl ((s29.1.set (s29.2 : Int).toNat ((c34 ^^^ c35))), (wI (s29.2 + 1))))))
else some (.inr s29.1))) (s4.1, 0)).bind fun x29 => some (.inl (x29, (wI (s4.2 + 1)))))))
else some (.inr s4.1))) (c1, 0)).bind fun x4 =>
((ref03_Trim x4).bind fun r44 => some r44)))
set_option maxRecDepth 100000 in
set_option maxHeartbeats 8000000 in
theorem ref03_Through_calls (a0xs : List UInt8) (a1ys : List UInt8) (p0 : Value) (p1 : Value) (r : List UInt8) (w0 : World) (hp0 : By w0 [] p0 a0xs) (hp1 : By w0 [] p1 a1ys) (H : ref03_Through a0xs a1ys = some r) :
    Calls Try.prog 35 [p0, p1].toArray w0 (fun e w' => ∃ u0 : Value, e = .returned u0 ∧ Ext w0 w' ∧ Nw w0 u0 ∧ OwK (Sc u8) w' [] 5 u0 r) := by
  have hE : Ext w0 w0 := Ext.refl w0
  unfold ref03_Through at H
  refine calls_W (n := 74) Try.func35 rfl rfl rfl ?_
  refine W_seq ?_
  refine W_reg (by kernel_rfl) ?_
  refine wla rfl rfl (q_assign (v := (.slice none 0 0)) rfl rfl) ?_
  refine wl_nil ?_
  refine W_th ?_
  refine W_seq ?_
  refine W_reg (by kernel_rfl) ?_
  refine wla rfl rfl (q_move (v := p0) rfl rfl) ?_
  refine wla rfl rfl (q_len rfl T22.sl rfl (hp0.lift (Lift.ext hE _))) ?_
  obtain ⟨c1, hc1, H⟩ := Option.bind_eq_some_iff.1 H
  refine wls rfl rfl (stp_make (L := []) (R := (Sc u8)) rfl T22 rfl rfl hc1 (fun _ _ => rfl) ?_)
  intro v1 w1 o1 n1 g1 l1
  have x1 := grown_ext g1
  have n3 := Nw.ext hE n1
  have e2 := hE.trans x1
  refine wla rfl rfl (q_assign (v := v1) rfl rfl) ?_
  refine wl_nil ?_
  refine W_th ?_
  refine W_seq ?_
  refine W_seq ?_
  refine W_reg (by kernel_rfl) ?_
  refine wla rfl rfl (q_move (v := p0) rfl rfl) ?_
  refine wla rfl rfl (q_len rfl T22.sl rfl (hp0.lift (Lift.ext e2 _))) ?_
  refine wla rfl rfl (q_move (v := (i64 0)) rfl rfl) ?_
  refine wl_nil ?_
  refine W_th ?_
  obtain ⟨x4, G4, H⟩ := Option.bind_eq_some_iff.1 H
  refine W_mid (fun f w => f 5 = v1 ∧ f 74 = undef ∧ Ext w0 w ∧ OwK (Sc u8) w [v1] 5 v1 x4 ∧ Nw w0 v1) ?_ ?_
  · refine W_block ?_
    refine W_loop (fun s4 f w => f 0 = p0 ∧ f 1 = p1 ∧ f 5 = v1 ∧ f 15 = (i64 ((a0xs.length : Int))) ∧ f 16 = (i64 s4.2) ∧ f 74 = undef ∧ Ext w0 w ∧ OwK (Sc u8) w [v1] 5 v1 s4.1 ∧ Nw w0 v1) G4 ?_ ?_
    · exact ⟨rfl, rfl, rfl, rfl, rfl, rfl, e2, o1, n3⟩
    · rintro s4 _ _ w5 ⟨s0_5, s1_5, s5_5, s15_5, s16_5, s74_5, hE5, o0_5, n0_5⟩ H4 hr4
      refine W_seq ?_
      refine W_reg (by kernel_rfl) ?_
      refine wla rfl rfl (q_ltI rfl s16_5 s15_5) ?_
      refine wl_nil ?_
      refine W_th ?_
      refine W_seq ?_
      refine W_cond _ rfl rfl (fun hb6 => ?_) (fun hb6 => ?_)
      · replace H4 := (if_pos (of_decide_eq_true hb6)).symm.trans H4
        refine W_skip ?_
        refine W_th ?_
        refine W_seq ?_
        refine W_block ?_
        refine W_seq ?_
        refine W_reg (by kernel_rfl) ?_
        refine wla rfl rfl (q_move (v := (i64 s4.2)) rfl s16_5) ?_
        refine wla rfl rfl (q_assign (v := (i64 s4.2)) rfl rfl) ?_
        refine wl_nil ?_
        refine W_th ?_
        refine W_seq ?_
        refine W_reg (by kernel_rfl) ?_
        refine wla rfl rfl (q_move (v := p1) rfl s1_5) ?_
        refine wla rfl rfl (q_move (v := (i64 s4.2)) rfl rfl) ?_
        obtain ⟨c7, hc7, H4⟩ := Option.bind_eq_some_iff.1 H4
        refine wla rfl rfl (q_adr rfl T22 rfl rfl (hp1.lift (Lift.ext hE5 _)) hc7) ?_
        refine wlq rfl rfl (q_loadS rfl T22 rfl (hp1.lift (Lift.ext hE5 _)) hc7) ?_
        refine wls rfl rfl (stp_lit (L := [v1]) (R := (Sc u8)) [(u8 c7)] ([c7] : List UInt8) rfl T22 rfl (by exact ⟨rfl, rfl, trivial⟩) rfl (litC u8 (oneC_u8) (us := [(u8 c7)]) (l := ([c7] : List UInt8)) rfl) rfl (litS u8 (us := [(u8 c7)]) (l := ([c7] : List UInt8)) rfl) ?_)
        intro v8 w8 o8 n8 g8 l8
        have x8 := grown_ext g8
        have i8 : By w8 [v1] v8 (([c7] : List UInt8)) := OwK.slk (Sc.stab _) _ o8 (fun k hk => (Old.cons (Old.nil _) o0_5.lt) k (n8 k hk)) (fun _ h => h.2)
        replace o0_5 := o0_5.extL (Sc.stab _) x8 (Lift.ext x8 _)
        have e9 := hE5.trans x8
        refine wla rfl rfl (q_assign (v := v8) rfl rfl) ?_
        refine wl_nil ?_
        refine W_th ?_
        refine W_seq ?_
        refine W_seq ?_
        refine W_reg (by kernel_rfl) ?_
        refine wla rfl rfl (q_move (v := p0) rfl s0_5) ?_
        refine wla rfl rfl (q_len rfl T22.sl rfl (hp0.lift (Lift.ext e9 _))) ?_
        refine wla rfl rfl (q_move (v := (i64 0)) rfl rfl) ?_
        refine wl_nil ?_
        refine W_th ?_
        obtain ⟨x10, G10, H4⟩ := Option.bind_eq_some_iff.1 H4
        refine W_mid (fun f w => ∃ v7_41 : Value, f 0 = p0 ∧ f 1 = p1 ∧ f 5 = v1 ∧ f 7 = v7_41 ∧ f 15 = (i64 ((a0xs.length : Int))) ∧ f 16 = (i64 s4.2) ∧ f 74 = undef ∧ Ext w0 w ∧ OwK (Sc u8) w [v1] 5 v1 s4.1 ∧ Nw w0 v1 ∧ By w [v1] v7_41 x10) ?_ ?_
        · refine W_block ?_
          refine W_loop (fun s10 f w => ∃ v7_27 : Value, f 0 = p0 ∧ f 1 = p1 ∧ f 5 = v1 ∧ f 6 = (i64 s4.2) ∧ f 7 = v7_27 ∧ f 15 = (i64 ((a0xs.length : Int))) ∧ f 16 = (i64 s4.2) ∧ f 25 = (i64 ((a0xs.length : Int))) ∧ f 26 = (i64 s10.2) ∧ f 74 = undef ∧ Ext w0 w ∧ OwK (Sc u8) w [v1] 5 v1 s4.1 ∧ Nw w0 v1 ∧ By w [v1] v7_27 s10.1) G10 ?_ ?_
          · exact ⟨v8, s0_5, s1_5, s5_5, rfl, rfl, s15_5, s16_5, rfl, rfl, s74_5, e9, o0_5, n0_5, i8⟩
          · rintro s10 _ _ w11 ⟨v7_11, s0_11, s1_11, s5_11, s6_11, s7_11, s15_11, s16_11, s25_11, s26_11, s74_11, hE11, o0_11, n0_11, i0_11⟩ H10 hr10
            refine W_seq ?_
            refine W_reg (by kernel_rfl) ?_
            refine wla rfl rfl (q_ltI rfl s26_11 s25_11) ?_
            refine wl_nil ?_
            refine W_th ?_
            refine W_seq ?_
            refine W_cond _ rfl rfl (fun hb12 => ?_) (fun hb12 => ?_)
            · replace H10 := (if_pos (of_decide_eq_true hb12)).symm.trans H10
              refine W_skip ?_
              refine W_th ?_
              refine W_seq ?_
              refine W_block ?_
              refine W_seq ?_
              refine W_reg (by kernel_rfl) ?_
              refine wla rfl rfl (q_move (v := (i64 s10.2)) rfl s26_11) ?_
              refine wla rfl rfl (q_assign (v := (i64 s10.2)) rfl rfl) ?_
              refine wl_nil ?_
              refine W_th ?_
              refine W_seq ?_
              refine W_reg (by kernel_rfl) ?_
              refine wla rfl rfl (q_move (v := (i64 s10.2)) rfl rfl) ?_
              refine wla rfl rfl (q_move (v := (i64 s4.2)) rfl s6_11) ?_
              refine wla rfl rfl (q_neI rfl rfl rfl) ?_
              refine wl_nil ?_
              refine W_th ?_
              refine W_cond _ rfl rfl (fun hb13 => ?_) (fun hb13 => ?_)
              · replace H10 := (if_neg (ndec_t hb13)).symm.trans H10
                refine W_seq ?_
                refine W_draw [3, 7] [(0, 0), (1, 0), (2, 0), (3, 1), (4, 0), (5, 0), (6, 0), (7, 1), (8, 0), (9, 2), (10, 0)] mixed (by kernel_rfl) (by kernel_rfl) (by kernel_rfl) (by kernel_rfl) ?_
                have x14 := Ext.drew w11
                replace i0_11 := i0_11.lift (Lift.ext x14 _)
                replace o0_11 := o0_11.extL (Sc.stab _) x14 (Lift.ext x14 _)
                have e15 := hE11.trans x14
                refine wsa rfl rfl rfl (q_move (v := p0) rfl s0_11) ?_
                refine wsa rfl rfl rfl (q_move (v := (i64 s4.2)) rfl s6_11) ?_
                obtain ⟨c16, hc16, H10⟩ := Option.bind_eq_some_iff.1 H10
                refine wsa rfl rfl rfl (q_adr rfl T22 rfl rfl (hp0.lift (Lift.ext e15 _)) hc16) ?_
                refine wsq rfl rfl rfl (q_loadS rfl T22 rfl (hp0.lift (Lift.ext e15 _)) hc16) ?_
                refine wsa rfl rfl rfl (q_move (v := p0) rfl s0_11) ?_
                refine wsa rfl rfl rfl (q_move (v := (i64 s10.2)) rfl rfl) ?_
                obtain ⟨c17, hc17, H10⟩ := Option.bind_eq_some_iff.1 H10
                refine wsa rfl rfl rfl (q_adr rfl T22 rfl rfl (hp0.lift (Lift.ext e15 _)) hc17) ?_
                refine wsq rfl rfl rfl (q_loadS rfl T22 rfl (hp0.lift (Lift.ext e15 _)) hc17) ?_
                refine wsa rfl rfl rfl (q_xor8 rfl rfl rfl) ?_
                obtain ⟨r18, hr18, H10⟩ := Option.bind_eq_some_iff.1 H10
                refine wsc rfl (by kernel_rfl) rfl rfl (stp_call (vs := [(u8 ((c16 ^^^ c17)))]) Try.func59 rfl rfl rfl (ar1 rfl) (ref02_Inv_calls (c16 ^^^ c17)  r18 _  hr18) ?_)
                rintro _ w18 ⟨rfl, x18⟩
                refine ⟨_, rfl, ?_⟩
                replace i0_11 := i0_11.lift (Lift.ext x18 _)
                replace o0_11 := o0_11.extL (Sc.stab _) x18 (Lift.ext x18 _)
                have e19 := e15.trans x18
                refine wsa rfl rfl rfl (q_assign (v := (u8 r18)) rfl rfl) ?_
                refine ws_nil ?_
                refine W_th ?_
                refine W_reg (by kernel_rfl) ?_
                refine wla rfl rfl (q_move (v := v7_11) rfl s7_11) ?_
                refine wla rfl rfl (q_move (v := (u8 r18)) rfl rfl) ?_
                refine wla rfl rfl (q_move (v := p0) rfl s0_11) ?_
                refine wla rfl rfl (q_move (v := (i64 s10.2)) rfl rfl) ?_
                obtain ⟨c20, hc20, H10⟩ := Option.bind_eq_some_iff.1 H10
                refine wla rfl rfl (q_adr rfl T22 rfl rfl (hp0.lift (Lift.ext e19 _)) hc20) ?_
                refine wlq rfl rfl (q_loadS rfl T22 rfl (hp0.lift (Lift.ext e19 _)) hc20) ?_
                obtain ⟨r21, hr21, H10⟩ := Option.bind_eq_some_iff.1 H10
                refine wls rfl rfl (stp_call (vs := [(u8 r18), (u8 c20)]) Try.func66 rfl rfl rfl (ar2 rfl rfl) (ref02_Mul_calls r18 c20  r21 _  hr21) ?_)
                rintro _ w21 ⟨rfl, x21⟩
                refine ⟨_, rfl, ?_⟩
                replace i0_11 := i0_11.lift (Lift.ext x21 _)
                replace o0_11 := o0_11.extL (Sc.stab _) x21 (Lift.ext x21 _)
                have e22 := e19.trans x21
                refine wla rfl rfl (q_move (v := (u8 r18)) rfl rfl) ?_
                refine wls rfl rfl (stp_lit (L := [v1]) (R := (Sc u8)) [(u8 r21), (u8 r18)] ([r21, r18] : List UInt8) rfl T22 rfl (by exact ⟨rfl, rfl, rfl, rfl, trivial⟩) rfl (litC u8 (oneC_u8) (us := [(u8 r21), (u8 r18)]) (l := ([r21, r18] : List UInt8)) rfl) rfl (litS u8 (us := [(u8 r21), (u8 r18)]) (l := ([r21, r18] : List UInt8)) rfl) ?_)
                intro v23 w23 o23 n23 g23 l23
                have x23 := grown_ext g23
                have i23 : By w23 [v1] v23 (([r21, r18] : List UInt8)) := OwK.slk (Sc.stab _) _ o23 (fun k hk => (Old.cons (Old.nil _) o0_11.lt) k (n23 k hk)) (fun _ h => h.2)
                replace i0_11 := i0_11.lift (Lift.ext x23 _)
                replace o0_11 := o0_11.extL (Sc.stab _) x23 (Lift.ext x23 _)
                have e24 := e22.trans x23
                obtain ⟨r25, hr25, H10⟩ := Option.bind_eq_some_iff.1 H10
                refine wls rfl rfl (stp_call (vs := [v7_11, v23]) Try.func24 rfl rfl rfl (ar2 rfl rfl) (ref03_Mul_calls s10.1 ([r21, r18] : List UInt8) v7_11 v23 r25 _ (i0_11.lift (Lift.sub (fun _ _ => trivial))) (i23.lift (Lift.sub (fun _ _ => trivial))) hr25) ?_)
                rintro _ w25 ⟨v25, rfl, x25, n25_0, o25_0⟩
                refine ⟨_, rfl, ?_⟩
                have i25_0 : By w25 [v1] v25 r25 := OwK.slk (Sc.stab _) _ (OwK.scal o25_0 (v25 :: [v1])) (fun k hk => (Old.cons (Old.nil _) o0_11.lt) k (n25_0 k hk)) (fun _ h => h.2)
                replace i0_11 := i0_11.lift (Lift.ext x25 _)
                replace i23 := i23.lift (Lift.ext x25 _)
                replace o0_11 := o0_11.extL (Sc.stab _) x25 (Lift.ext x25 _)
                have e26 := e24.trans x25
                refine wla rfl rfl (q_assign (v := v25) rfl rfl) ?_
                refine wl_nil ?_
                refine bk_n ?_
                refine W_th ?_
                refine W_reg (by kernel_rfl) ?_
                refine wla rfl rfl (q_addI rfl s26_11 rfl) ?_
                refine wla rfl rfl (q_move (v := (i64 ((wI (s10.2 + 1))))) rfl rfl) ?_
                refine wl_nil ?_
                obtain rfl := Option.some.inj H10
                exact ⟨_, rfl, v25, s0_11, s1_11, s5_11, s6_11, rfl, s15_11, s16_11, s25_11, rfl, s74_11, e26, o0_11, n0_11, i25_0⟩
              · replace H10 := (if_pos (ndec_f hb13)).symm.trans H10
                refine W_skip ?_
                refine bk_n ?_
                refine W_th ?_
                refine W_reg (by kernel_rfl) ?_
                refine wla rfl rfl (q_addI rfl s26_11 rfl) ?_
                refine wla rfl rfl (q_move (v := (i64 ((wI (s10.2 + 1))))) rfl rfl) ?_
                refine wl_nil ?_
                obtain rfl := Option.some.inj H10
                exact ⟨_, rfl, v7_11, s0_11, s1_11, s5_11, s6_11, s7_11, s15_11, s16_11, s25_11, rfl, s74_11, hE11, o0_11, n0_11, i0_11⟩
            · replace H10 := (if_neg (of_decide_eq_false hb12)).symm.trans H10
              refine W_exit ?_
              refine th_x ?_
              obtain rfl := Option.some.inj H10
              obtain rfl := hr10 _ rfl
              refine th_x ?_
              refine bk_x ?_
              exact ⟨v7_11, s0_11, s1_11, s5_11, s7_11, s15_11, s16_11, s74_11, hE11, o0_11, n0_11, i0_11⟩
        · rintro _ w28 ⟨v7_28, s0_28, s1_28, s5_28, s7_28, s15_28, s16_28, s74_28, hE28, o0_28, n0_28, i0_28⟩
          refine W_th ?_
          refine W_seq ?_
          refine W_reg (by kernel_rfl) ?_
          refine wla rfl rfl (q_move (v := v7_28) rfl s7_28) ?_
          refine wla rfl rfl (q_len rfl T22.sl rfl i0_28) ?_
          refine wla rfl rfl (q_move (v := (i64 0)) rfl rfl) ?_
          refine wl_nil ?_
          refine W_th ?_
          obtain ⟨x29, G29, H4⟩ := Option.bind_eq_some_iff.1 H4
          refine W_mid (fun f w => f 0 = p0 ∧ f 1 = p1 ∧ f 5 = v1 ∧ f 15 = (i64 ((a0xs.length : Int))) ∧ f 16 = (i64 s4.2) ∧ f 74 = undef ∧ Ext w0 w ∧ OwK (Sc u8) w [v1] 5 v1 x29 ∧ Nw w0 v1) ?_ ?_
          · refine W_block ?_
            refine W_loop (fun s29 f w => f 0 = p0 ∧ f 1 = p1 ∧ f 5 = v1 ∧ f 7 = v7_28 ∧ f 15 = (i64 ((a0xs.length : Int))) ∧ f 16 = (i64 s4.2) ∧ f 54 = (i64 ((x10.length : Int))) ∧ f 55 = (i64 s29.2) ∧ f 74 = undef ∧ Ext w0 w ∧ OwK (Sc u8) w [v1] 5 v1 s29.1 ∧ Nw w0 v1 ∧ By w [v1] v7_28 x10) G29 ?_ ?_
            · exact ⟨s0_28, s1_28, s5_28, s7_28, s15_28, s16_28, rfl, rfl, s74_28, hE28, o0_28, n0_28, i0_28⟩
            · rintro s29 _ _ w30 ⟨s0_30, s1_30, s5_30, s7_30, s15_30, s16_30, s54_30, s55_30, s74_30, hE30, o0_30, n0_30, i0_30⟩ H29 hr29
              refine W_seq ?_
              refine W_reg (by kernel_rfl) ?_
              refine wla rfl rfl (q_ltI rfl s55_30 s54_30) ?_
              refine wl_nil ?_
              refine W_th ?_
              refine W_seq ?_
              refine W_cond _ rfl rfl (fun hb31 => ?_) (fun hb31 => ?_)
              · replace H29 := (if_pos (of_decide_eq_true hb31)).symm.trans H29
                refine W_skip ?_
                refine W_th ?_
                refine W_seq ?_
                refine W_block ?_
                refine W_seq ?_
                refine W_reg (by kernel_rfl) ?_
                refine wla rfl rfl (q_move (v := (i64 s29.2)) rfl s55_30) ?_
                refine wla rfl rfl (q_assign (v := (i64 s29.2)) rfl rfl) ?_
                refine wl_nil ?_
                refine W_th ?_
                refine W_draw [5, 9] [(0, 0), (1, 0), (2, 0), (3, 0), (4, 0), (5, 1), (6, 0), (7, 0), (8, 0), (9, 1), (10, 0), (11, 0), (12, 2)] mixed (by kernel_rfl) (by kernel_rfl) (by kernel_rfl) (by kernel_rfl) ?_
                have x32 := Ext.drew w30
                replace i0_30 := i0_30.lift (Lift.ext x32 _)
                replace o0_30 := o0_30.extL (Sc.stab _) x32 (Lift.ext x32 _)
                have e33 := hE30.trans x32
                refine wsa rfl rfl rfl (q_move (v := v1) rfl s5_30) ?_
                refine wsa rfl rfl rfl (q_move (v := (i64 s29.2)) rfl rfl) ?_
                refine wsa rfl rfl rfl (q_move (v := v1) rfl s5_30) ?_
                refine wsa rfl rfl rfl (q_move (v := (i64 s29.2)) rfl rfl) ?_
                obtain ⟨c34, hc34, H29⟩ := Option.bind_eq_some_iff.1 H29
                refine wsa rfl rfl rfl (q_adr rfl T22 rfl rfl (o0_30.rd (Sc.stab _)) hc34) ?_
                refine wsq rfl rfl rfl (q_loadS rfl T22 rfl (o0_30.rd (Sc.stab _)) hc34) ?_
                refine wsa rfl rfl rfl (q_move (v := v7_28) rfl s7_30) ?_
                refine wsa rfl rfl rfl (q_move (v := (i64 s29.2)) rfl rfl) ?_
                obtain ⟨c35, hc35, H29⟩ := Option.bind_eq_some_iff.1 H29
                refine wsa rfl rfl rfl (q_adr rfl T22 rfl rfl i0_30 hc35) ?_
                refine wsq rfl rfl rfl (q_loadS rfl T22 rfl i0_30 hc35) ?_
                refine wsa rfl rfl rfl (q_xor8 rfl rfl rfl) ?_
                refine wsa rfl rfl rfl (q_adr rfl T22 rfl rfl (o0_30.rd (Sc.stab _)) hc34) ?_
                refine wsn rfl (by kernel_rfl) rfl rfl (stp_store (R := (Sc u8)) (u := (u8 ((c34 ^^^ c35)))) (Sc.stab _) [] [] rfl T22 rfl rfl o0_30 (put_of ((c34 ^^^ c35)) hc34) rfl rfl ?_)
                intro w36 o36 g36 l36
                replace i0_30 := i0_30.lift l36
                have e37 := e33.grown g36 n0_30
                refine ws_nil ?_
                refine bk_n ?_
                refine W_th ?_
                refine W_reg (by kernel_rfl) ?_
                refine wla rfl rfl (q_addI rfl s55_30 rfl) ?_
                refine wla rfl rfl (q_move (v := (i64 ((wI (s29.2 + 1))))) rfl rfl) ?_
                refine wl_nil ?_
                obtain rfl := Option.some.inj H29
                exact ⟨_, rfl, s0_30, s1_30, s5_30, s7_30, s15_30, s16_30, s54_30, rfl, s74_30, e37, o36, n0_30, i0_30⟩
              · replace H29 := (if_neg (of_decide_eq_false hb31)).symm.trans H29
                refine W_exit ?_
                refine th_x ?_
                obtain rfl := Option.some.inj H29
                obtain rfl := hr29 _ rfl
                refine th_x ?_
                refine bk_x ?_
                exact ⟨s0_30, s1_30, s5_30, s15_30, s16_30, s74_30, hE30, o0_30, n0_30⟩
          · rintro _ w39 ⟨s0_39, s1_39, s5_39, s15_39, s16_39, s74_39, hE39, o0_39, n0_39⟩
            refine bk_n ?_
            refine W_th ?_
            refine W_reg (by kernel_rfl) ?_
            refine wla rfl rfl (q_addI rfl s16_39 rfl) ?_
            refine wla rfl rfl (q_move (v := (i64 ((wI (s4.2 + 1))))) rfl rfl) ?_
            refine wl_nil ?_
            obtain rfl := Option.some.inj H4
            exact ⟨_, rfl, s0_39, s1_39, s5_39, s15_39, rfl, s74_39, hE39, o0_39, n0_39⟩
      · replace H4 := (if_neg (of_decide_eq_false hb6)).symm.trans H4
        refine W_exit ?_
        refine th_x ?_
        obtain rfl := Option.some.inj H4
        obtain rfl := hr4 _ rfl
        refine th_x ?_
        refine bk_x ?_
        exact ⟨s5_5, s74_5, hE5, o0_5, n0_5⟩
  · rintro _ w43 ⟨s5_43, s74_43, hE43, o0_43, n0_43⟩
    refine W_th ?_
    refine W_seq ?_
    refine W_reg (by kernel_rfl) ?_
    refine wla rfl rfl (q_move (v := v1) rfl s5_43) ?_
    obtain ⟨r44, hr44, H⟩ := Option.bind_eq_some_iff.1 H
    refine wls rfl rfl (stp_call (vs := [v1]) Try.func25 rfl rfl rfl (ar1 rfl) (ref03_Trim_calls x4 v1 r44 _ (o0_43.rd (Sc.stab _)) hr44) ?_)
    rintro _ w44 ⟨v44, rfl, x44, n44_0, o44_0⟩
    refine ⟨_, rfl, ?_⟩
    have o44 : OwK (Sc u8) w44 (v44 :: [v1]) 5 v44 r44 := OwK.scal o44_0 _
    have q45 : Nq v1 v44 := o0_43.nq n44_0
    replace o0_43 := o0_43.extL (Sc.stab _) x44 (Lift.call _ x44 n44_0)
    have n47 := Nw.ext hE43 n44_0
    have e46 := hE43.trans x44
    refine wla rfl rfl (q_assign (v := v44) rfl rfl) ?_
    refine wl_nil ?_
    refine W_th ?_
    refine W_ret ?_
    obtain rfl := Option.some.inj H
    refine rt1 v44 rfl rfl rfl s74_43 ?_
    exact ⟨v44, rfl, e46, n47, (o44.weak (Sc.stab _) (fun _ _ => trivial))⟩

end Gk

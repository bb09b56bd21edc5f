/- Printed by gen.py: for each Go function a pure function, and that the Go code comes to it. No condition beside the equation that says what the pure function gives. -/
import Derived.Test.YtabcmfkmddlaaaaF8
import Derived.Test.YtabcmfkmddlaaaaF4
set_option linter.unusedVariables false
set_option linter.unusedSimpArgs false
namespace Gk
open Go Go.Proofs

/-! largesse/largesseref08.Share -/
noncomputable def ref08_Share (a0t : Int) (a1secret : List UInt8) (a2mask : List UInt8) (a3x : UInt8) : Option (List UInt8) :=
((iterC (fun s4 : List UInt8 × Int =>
(if s4.2 < (a1secret.length : Int) then
((idx a1secret s4.2).bind fun c7 =>
((iterC (fun s12 : List UInt8 × Int =>
(if s12.2 < a0t then
((idx a2mask ((wI ((wI ((wI (s12.2 - 1)) * (a1secret.length : Int))) + s4.2)))).bind fun c15 =>
((appL s12.1 (([c15] : List UInt8))).bind fun c18 => some (.inl (c18, (wI (s12.2 + 1))))))
else some (.inr s12.1))) (([c7] : List UInt8), 1)).bind fun x12 =>
((ref03_Eval x12 a3x).bind fun r24 =>
((appL s4.1 (([r24] : List UInt8))).bind fun c28 => some (.inl (c28, (wI (s4.2 + 1))))))))
else some (.inr s4.1))) (([] : List UInt8), 0)).bind fun x4 => some x4)
set_option maxRecDepth 100000 in
set_option maxHeartbeats 8000000 in
theorem ref08_Share_calls (a0t : Int) (a1secret : List UInt8) (a2mask : List UInt8) (a3x : UInt8) (p1 : Value) (p2 : Value) (r : List UInt8) (w0 : World) (hp1 : By w0 [] p1 a1secret) (hp2 : By w0 [] p2 a2mask) (H : ref08_Share a0t a1secret a2mask a3x = some r) :
    Calls Try.prog 22 [(i64 a0t), p1, p2, (u8 a3x)].toArray w0 (fun e w' => ∃ u0 : Value, e = .returned u0 ∧ Ext w0 w' ∧ Nw w0 u0 ∧ OwK (Sc u8) w' [] 5 u0 r) := by
  have hE : Ext w0 w0 := Ext.refl w0
  unfold ref08_Share at H
  refine calls_W (n := 50) Try.func22 rfl rfl rfl ?_
  refine W_seq ?_
  refine W_reg (by kernel_rfl) ?_
  refine wla rfl rfl (q_assign (v := (.slice none 0 0)) rfl rfl) ?_
  refine wl_nil ?_
  refine W_th ?_
  refine W_seq ?_
  refine W_reg (by kernel_rfl) ?_
  refine wls rfl rfl (stp_lit (L := []) (R := (Sc u8)) [] ([] : List UInt8) rfl T22 rfl (by exact trivial) rfl (litC u8 (oneC_u8) (us := []) (l := ([] : List UInt8)) rfl) rfl (litS u8 (us := []) (l := ([] : List UInt8)) rfl) ?_)
  intro v1 w1 o1 n1 g1 l1
  have x1 := grown_ext g1
  have n3 := Nw.ext hE n1
  have e2 := hE.trans x1
  refine wla rfl rfl (q_assign (v := v1) rfl rfl) ?_
  refine wl_nil ?_
  refine W_th ?_
  refine W_seq ?_
  refine W_seq ?_
  refine W_reg (by kernel_rfl) ?_
  refine wla rfl rfl (q_move (v := p1) rfl rfl) ?_
  refine wla rfl rfl (q_len rfl T22.sl rfl (hp1.lift (Lift.ext e2 _))) ?_
  refine wla rfl rfl (q_move (v := (i64 0)) rfl rfl) ?_
  refine wl_nil ?_
  refine W_th ?_
  obtain ⟨x4, G4, H⟩ := Option.bind_eq_some_iff.1 H
  refine W_mid (fun f w => ∃ v9_35 : Value, f 9 = v9_35 ∧ f 50 = undef ∧ Ext w0 w ∧ OwK (Sc u8) w [v9_35] 5 v9_35 x4 ∧ Nw w0 v9_35) ?_ ?_
  · refine W_block ?_
    refine W_loop (fun s4 f w => ∃ v9_33 : Value, f 0 = (i64 a0t) ∧ f 1 = p1 ∧ f 2 = p2 ∧ f 3 = (u8 a3x) ∧ f 9 = v9_33 ∧ f 15 = (i64 ((a1secret.length : Int))) ∧ f 16 = (i64 s4.2) ∧ f 50 = undef ∧ Ext w0 w ∧ OwK (Sc u8) w [v9_33] 5 v9_33 s4.1 ∧ Nw w0 v9_33) G4 ?_ ?_
    · exact ⟨v1, rfl, rfl, rfl, rfl, rfl, rfl, rfl, rfl, e2, o1, n3⟩
    · rintro s4 _ _ w5 ⟨v9_5, s0_5, s1_5, s2_5, s3_5, s9_5, s15_5, s16_5, s50_5, hE5, o0_5, n0_5⟩ H4 hr4
      refine W_seq ?_
      refine W_reg (by kernel_rfl) ?_
      refine wla rfl rfl (q_ltI rfl s16_5 s15_5) ?_
      refine wl_nil ?_
      refine W_th ?_
      refine W_seq ?_
      refine W_cond _ rfl rfl (fun hb6 => ?_) (fun hb6 => ?_)
      · replace H4 := (if_pos (of_decide_eq_true hb6)).symm.trans H4
        refine W_skip ?_
        refine W_th ?_
        refine W_seq ?_
        refine W_block ?_
        refine W_seq ?_
        refine W_reg (by kernel_rfl) ?_
        refine wla rfl rfl (q_move (v := (i64 s4.2)) rfl s16_5) ?_
        refine wla rfl rfl (q_assign (v := (i64 s4.2)) rfl rfl) ?_
        refine wl_nil ?_
        refine W_th ?_
        refine W_seq ?_
        refine W_reg (by kernel_rfl) ?_
        refine wla rfl rfl (q_move (v := p1) rfl s1_5) ?_
        refine wla rfl rfl (q_move (v := (i64 s4.2)) rfl rfl) ?_
        obtain ⟨c7, hc7, H4⟩ := Option.bind_eq_some_iff.1 H4
        refine wla rfl rfl (q_adr rfl T22 rfl rfl (hp1.lift (Lift.ext hE5 _)) hc7) ?_
        refine wlq rfl rfl (q_loadS rfl T22 rfl (hp1.lift (Lift.ext hE5 _)) hc7) ?_
        refine wls rfl rfl (stp_lit (L := [v9_5]) (R := (Sc u8)) [(u8 c7)] ([c7] : List UInt8) rfl T22 rfl (by exact ⟨rfl, rfl, trivial⟩) rfl (litC u8 (oneC_u8) (us := [(u8 c7)]) (l := ([c7] : List UInt8)) rfl) rfl (litS u8 (us := [(u8 c7)]) (l := ([c7] : List UInt8)) rfl) ?_)
        intro v8 w8 o8 n8 g8 l8
        have x8 := grown_ext g8
        have q9 : Nq v9_5 v8 := o0_5.nq n8
        replace o0_5 := o0_5.extL (Sc.stab _) x8 (Lift.call _ x8 n8)
        have n11 := Nw.ext hE5 n8
        have e10 := hE5.trans x8
        refine wla rfl rfl (q_assign (v := v8) rfl rfl) ?_
        refine wl_nil ?_
        refine W_th ?_
        refine W_seq ?_
        refine W_seq ?_
        refine W_reg (by kernel_rfl) ?_
        refine wla rfl rfl (q_assign (v := (i64 1)) rfl rfl) ?_
        refine wl_nil ?_
        refine W_th ?_
        obtain ⟨x12, G12, H4⟩ := Option.bind_eq_some_iff.1 H4
        refine W_mid (fun f w => ∃ v11_32 : Value, f 0 = (i64 a0t) ∧ f 1 = p1 ∧ f 2 = p2 ∧ f 3 = (u8 a3x) ∧ f 9 = v9_5 ∧ f 11 = v11_32 ∧ f 15 = (i64 ((a1secret.length : Int))) ∧ f 16 = (i64 s4.2) ∧ f 50 = undef ∧ Ext w0 w ∧ OwK (Sc u8) w [v9_5, v11_32] 5 v9_5 s4.1 ∧ Nw w0 v9_5 ∧ OwK (Sc u8) w [v9_5, v11_32] 5 v11_32 x12 ∧ Nw w0 v11_32 ∧ Nq v9_5 v11_32) ?_ ?_
        · refine W_block ?_
          refine W_loop (fun s12 f w => ∃ v11_22 : Value, f 0 = (i64 a0t) ∧ f 1 = p1 ∧ f 2 = p2 ∧ f 3 = (u8 a3x) ∧ f 9 = v9_5 ∧ f 10 = (i64 s4.2) ∧ f 11 = v11_22 ∧ f 12 = (i64 s12.2) ∧ f 15 = (i64 ((a1secret.length : Int))) ∧ f 16 = (i64 s4.2) ∧ f 50 = undef ∧ Ext w0 w ∧ OwK (Sc u8) w [v9_5, v11_22] 5 v9_5 s4.1 ∧ Nw w0 v9_5 ∧ OwK (Sc u8) w [v9_5, v11_22] 5 v11_22 s12.1 ∧ Nw w0 v11_22 ∧ Nq v9_5 v11_22) G12 ?_ ?_
          · exact ⟨v8, s0_5, s1_5, s2_5, s3_5, s9_5, rfl, rfl, rfl, s15_5, s16_5, s50_5, e10, (o0_5.weak (Sc.stab _) (fun _ h => ⟨h.2.1, h.1, trivial⟩)), n0_5, (o8.weak (Sc.stab _) (fun _ h => ⟨h.2.1, h.1, trivial⟩)), n11, q9⟩
          · rintro s12 _ _ w13 ⟨v11_13, s0_13, s1_13, s2_13, s3_13, s9_13, s10_13, s11_13, s12_13, s15_13, s16_13, s50_13, hE13, o0_13, n0_13, o1_13, n1_13, q0_1_13⟩ H12 hr12
            refine W_seq ?_
            refine W_seq ?_
            refine W_reg (by kernel_rfl) ?_
            refine wla rfl rfl (q_move (v := (i64 s12.2)) rfl s12_13) ?_
            refine wla rfl rfl (q_move (v := (i64 a0t)) rfl s0_13) ?_
            refine wla rfl rfl (q_ltI rfl rfl rfl) ?_
            refine wl_nil ?_
            refine W_th ?_
            refine W_cond _ rfl rfl (fun hb14 => ?_) (fun hb14 => ?_)
            · replace H12 := (if_pos (of_decide_eq_true hb14)).symm.trans H12
              refine W_skip ?_
              refine W_th ?_
              refine W_seq ?_
              refine W_block ?_
              refine W_reg (by kernel_rfl) ?_
              refine wla rfl rfl (q_move (v := v11_13) rfl s11_13) ?_
              refine wla rfl rfl (q_move (v := p2) rfl s2_13) ?_
              refine wla rfl rfl (q_move (v := (i64 s12.2)) rfl s12_13) ?_
              refine wla rfl rfl (q_subI rfl rfl rfl) ?_
              refine wla rfl rfl (q_move (v := p1) rfl s1_13) ?_
              refine wla rfl rfl (q_len rfl T22.sl rfl (hp1.lift (Lift.ext hE13 _))) ?_
              refine wla rfl rfl (q_mulI rfl rfl rfl) ?_
              refine wla rfl rfl (q_move (v := (i64 s4.2)) rfl s10_13) ?_
              refine wla rfl rfl (q_addI rfl rfl rfl) ?_
              obtain ⟨c15, hc15, H12⟩ := Option.bind_eq_some_iff.1 H12
              refine wla rfl rfl (q_adr rfl T22 rfl rfl (hp2.lift (Lift.ext hE13 _)) hc15) ?_
              refine wlq rfl rfl (q_loadS rfl T22 rfl (hp2.lift (Lift.ext hE13 _)) hc15) ?_
              refine wls rfl rfl (stp_lit (L := [v9_5, v11_13]) (R := (Sc u8)) [(u8 c15)] ([c15] : List UInt8) rfl T22 rfl (by exact ⟨rfl, rfl, trivial⟩) rfl (litC u8 (oneC_u8) (us := [(u8 c15)]) (l := ([c15] : List UInt8)) rfl) rfl (litS u8 (us := [(u8 c15)]) (l := ([c15] : List UInt8)) rfl) ?_)
              intro v16 w16 o16 n16 g16 l16
              have x16 := grown_ext g16
              have i16 : By w16 [v9_5, v11_13] v16 (([c15] : List UInt8)) := OwK.slk (Sc.stab _) _ o16 (fun k hk => (Old.cons (Old.cons (Old.nil _) o1_13.lt) o0_13.lt) k (n16 k hk)) (fun _ h => h.2)
              replace o0_13 := o0_13.extL (Sc.stab _) x16 (Lift.ext x16 _)
              replace o1_13 := o1_13.extL (Sc.stab _) x16 (Lift.ext x16 _)
              have e17 := hE13.trans x16
              obtain ⟨c18, hc18, H12⟩ := Option.bind_eq_some_iff.1 H12
              refine wls rfl rfl (stp_append (R := (Sc u8)) (v := v11_13) (u := v16) (Sc.stab _) [v9_5] [] rfl T22 rfl rfl o1_13 i16 (fun _ _ h => h) hc18 oc_u8 ?_)
              intro v18 w18 o18 g18 nx18 l18
              replace i16 := i16.lift l18
              have q19 : Nq v9_5 v18 := o0_13.nxt q0_1_13 nx18
              replace o0_13 := o0_13.other (Sc.stab _) g18 q0_1_13 l18
              have e20 := e17.grown g18 n1_13
              have n21 := Nw.nxt e17 n1_13 nx18
              refine wla rfl rfl (q_assign (v := v18) rfl rfl) ?_
              refine wl_nil ?_
              refine bk_n ?_
              refine W_th ?_
              refine W_reg (by kernel_rfl) ?_
              refine wla rfl rfl (q_move (v := (i64 s12.2)) rfl s12_13) ?_
              refine wla rfl rfl (q_addI rfl rfl rfl) ?_
              refine wla rfl rfl (q_assign (v := (i64 ((wI (s12.2 + 1))))) rfl rfl) ?_
              refine wl_nil ?_
              obtain rfl := Option.some.inj H12
              exact ⟨_, rfl, v18, s0_13, s1_13, s2_13, s3_13, s9_13, s10_13, rfl, rfl, s15_13, s16_13, s50_13, e20, o0_13, n0_13, o18, n21, q19⟩
            · replace H12 := (if_neg (of_decide_eq_false hb14)).symm.trans H12
              refine W_exit ?_
              refine th_x ?_
              obtain rfl := Option.some.inj H12
              obtain rfl := hr12 _ rfl
              refine th_x ?_
              refine bk_x ?_
              exact ⟨v11_13, s0_13, s1_13, s2_13, s3_13, s9_13, s11_13, s15_13, s16_13, s50_13, hE13, o0_13, n0_13, o1_13, n1_13, q0_1_13⟩
        · rintro _ w23 ⟨v11_23, s0_23, s1_23, s2_23, s3_23, s9_23, s11_23, s15_23, s16_23, s50_23, hE23, o0_23, n0_23, o1_23, n1_23, q0_1_23⟩
          refine W_th ?_
          refine W_reg (by kernel_rfl) ?_
          refine wla rfl rfl (q_move (v := v9_5) rfl s9_23) ?_
          refine wla rfl rfl (q_move (v := v11_23) rfl s11_23) ?_
          refine wla rfl rfl (q_move (v := (u8 a3x)) rfl s3_23) ?_
          obtain ⟨r24, hr24, H4⟩ := Option.bind_eq_some_iff.1 H4
          refine wls rfl rfl (stp_call (vs := [v11_23, (u8 a3x)]) Try.func49 rfl rfl rfl (ar2 rfl rfl) (ref03_Eval_calls x12 a3x v11_23 r24 _ (o1_23.rd (Sc.stab _)) hr24) ?_)
          rintro _ w24 ⟨rfl, x24⟩
          refine ⟨_, rfl, ?_⟩
          replace o0_23 := o0_23.extL (Sc.stab _) x24 (Lift.ext x24 _)
          replace o1_23 := o1_23.extL (Sc.stab _) x24 (Lift.ext x24 _)
          have e25 := hE23.trans x24
          refine wls rfl rfl (stp_lit (L := [v9_5, v11_23]) (R := (Sc u8)) [(u8 r24)] ([r24] : List UInt8) rfl T22 rfl (by exact ⟨rfl, rfl, trivial⟩) rfl (litC u8 (oneC_u8) (us := [(u8 r24)]) (l := ([r24] : List UInt8)) rfl) rfl (litS u8 (us := [(u8 r24)]) (l := ([r24] : List UInt8)) rfl) ?_)
          intro v26 w26 o26 n26 g26 l26
          have x26 := grown_ext g26
          have i26 : By w26 [v9_5, v11_23] v26 (([r24] : List UInt8)) := OwK.slk (Sc.stab _) _ o26 (fun k hk => (Old.cons (Old.cons (Old.nil _) o1_23.lt) o0_23.lt) k (n26 k hk)) (fun _ h => h.2)
          replace o0_23 := o0_23.extL (Sc.stab _) x26 (Lift.ext x26 _)
          replace o1_23 := o1_23.extL (Sc.stab _) x26 (Lift.ext x26 _)
          have e27 := e25.trans x26
          obtain ⟨c28, hc28, H4⟩ := Option.bind_eq_some_iff.1 H4
          refine wls rfl rfl (stp_append (R := (Sc u8)) (v := v9_5) (u := v26) (Sc.stab _) [] [v11_23] rfl T22 rfl rfl o0_23 i26 (fun _ _ h => h) hc28 oc_u8 ?_)
          intro v28 w28 o28 g28 nx28 l28
          replace i26 := i26.lift l28
          have q29 : Nq v11_23 v28 := o1_23.nxt q0_1_23.symm nx28
          replace o1_23 := o1_23.other (Sc.stab _) g28 q0_1_23.symm l28
          have e30 := e27.grown g28 n0_23
          have n31 := Nw.nxt e27 n0_23 nx28
          refine wla rfl rfl (q_assign (v := v28) rfl rfl) ?_
          refine wl_nil ?_
          refine bk_n ?_
          refine W_th ?_
          refine W_reg (by kernel_rfl) ?_
          refine wla rfl rfl (q_addI rfl s16_23 rfl) ?_
          refine wla rfl rfl (q_move (v := (i64 ((wI (s4.2 + 1))))) rfl rfl) ?_
          refine wl_nil ?_
          obtain rfl := Option.some.inj H4
          exact ⟨_, rfl, v28, s0_23, s1_23, s2_23, s3_23, rfl, s15_23, rfl, s50_23, e30, (o28.weak (Sc.stab _) (fun _ h => ⟨h.1, trivial⟩)), n31⟩
      · replace H4 := (if_neg (of_decide_eq_false hb6)).symm.trans H4
        refine W_exit ?_
        refine th_x ?_
        obtain rfl := Option.some.inj H4
        obtain rfl := hr4 _ rfl
        refine th_x ?_
        refine bk_x ?_
        exact ⟨v9_5, s9_5, s50_5, hE5, o0_5, n0_5⟩
  · rintro _ w34 ⟨v9_34, s9_34, s50_34, hE34, o0_34, n0_34⟩
    refine W_th ?_
    refine W_seq ?_
    refine W_reg (by kernel_rfl) ?_
    refine wla rfl rfl (q_move (v := v9_34) rfl s9_34) ?_
    refine wla rfl rfl (q_assign (v := v9_34) rfl rfl) ?_
    refine wl_nil ?_
    refine W_th ?_
    refine W_ret ?_
    obtain rfl := Option.some.inj H
    refine rt1 v9_34 rfl rfl rfl s50_34 ?_
    exact ⟨v9_34, rfl, hE34, n0_34, (o0_34.weak (Sc.stab _) (fun _ _ => trivial))⟩

/-! largesse/largesseref08.At -/
noncomputable def ref08_At (a0xs : List UInt8) (a1shares : List (List UInt8)) (a2x : UInt8) : Option (List UInt8) :=
((idx a1shares 0).bind fun c4 =>
((iterC (fun s6 : List UInt8 × Int =>
(if s6.2 < (c4.length : Int) then
((iterC (fun s9 : UInt8 × Int =>
(if s9.2 < (a0xs.length : Int) then
((idx a1shares s9.2).bind fun c14 =>
((idx c14 s6.2).bind fun c16 =>
((ref03_Weight a0xs s9.2 a2x).bind fun r17 =>
((ref02_Mul r17 c16).bind fun r19 => some (.inl ((s9.1 ^^^ r19), (wI (s9.2 + 1))))))))
else some (.inr s9.1))) ((0 : UInt8), 0)).bind fun x9 =>
((appL s6.1 (([x9] : List UInt8))).bind fun c25 => some (.inl (c25, (wI (s6.2 + 1))))))
else some (.inr s6.1))) (([] : List UInt8), 0)).bind fun x6 => some x6))
set_option maxRecDepth 100000 in
set_option maxHeartbeats 8000000 in
theorem ref08_At_calls (a0xs : List UInt8) (a1shares : List (List UInt8)) (a2x : UInt8) (p0 : Value) (p1 : Value) (r : List UInt8) (w0 : World) (hp0 : By w0 [] p0 a0xs) (hp1 : Rw w0 [] p1 a1shares) (H : ref08_At a0xs a1shares a2x = some r) :
    Calls Try.prog 17 [p0, p1, (u8 a2x)].toArray w0 (fun e w' => ∃ u0 : Value, e = .returned u0 ∧ Ext w0 w' ∧ Nw w0 u0 ∧ OwK (Sc u8) w' [] 5 u0 r) := by
  have hE : Ext w0 w0 := Ext.refl w0
  unfold ref08_At at H
  refine calls_W (n := 45) Try.func17 rfl rfl rfl ?_
  refine W_seq ?_
  refine W_reg (by kernel_rfl) ?_
  refine wla rfl rfl (q_assign (v := (.slice none 0 0)) rfl rfl) ?_
  refine wl_nil ?_
  refine W_th ?_
  refine W_seq ?_
  refine W_reg (by kernel_rfl) ?_
  refine wls rfl rfl (stp_lit (L := []) (R := (Sc u8)) [] ([] : List UInt8) rfl T22 rfl (by exact trivial) rfl (litC u8 (oneC_u8) (us := []) (l := ([] : List UInt8)) rfl) rfl (litS u8 (us := []) (l := ([] : List UInt8)) rfl) ?_)
  intro v1 w1 o1 n1 g1 l1
  have x1 := grown_ext g1
  have n3 := Nw.ext hE n1
  have e2 := hE.trans x1
  refine wla rfl rfl (q_assign (v := v1) rfl rfl) ?_
  refine wl_nil ?_
  refine W_th ?_
  refine W_seq ?_
  refine W_seq ?_
  refine W_reg (by kernel_rfl) ?_
  refine wla rfl rfl (q_move (v := p1) rfl rfl) ?_
  obtain ⟨c4, hc4, H⟩ := Option.bind_eq_some_iff.1 H
  refine wla rfl rfl (q_adr rfl T23 rfl rfl (hp1.lift (Lift.ext e2 _)) hc4) ?_
  refine wlq_load rfl rfl rfl T23 rfl hp1 hc4 e2 (fun v5 ha5 => ?_)
  refine wla rfl rfl (q_len rfl T22.sl rfl (ha5.lift (Lift.ext e2 _))) ?_
  refine wla rfl rfl (q_move (v := (i64 0)) rfl rfl) ?_
  refine wl_nil ?_
  refine W_th ?_
  obtain ⟨x6, G6, H⟩ := Option.bind_eq_some_iff.1 H
  refine W_mid (fun f w => ∃ v7_31 : Value, f 7 = v7_31 ∧ f 45 = undef ∧ Ext w0 w ∧ OwK (Sc u8) w [v7_31] 5 v7_31 x6 ∧ Nw w0 v7_31) ?_ ?_
  · refine W_block ?_
    refine W_loop (fun s6 f w => ∃ v7_29 : Value, f 0 = p0 ∧ f 1 = p1 ∧ f 2 = (u8 a2x) ∧ f 7 = v7_29 ∧ f 15 = (i64 ((c4.length : Int))) ∧ f 16 = (i64 s6.2) ∧ f 45 = undef ∧ Ext w0 w ∧ OwK (Sc u8) w [v7_29] 5 v7_29 s6.1 ∧ Nw w0 v7_29) G6 ?_ ?_
    · exact ⟨v1, rfl, rfl, rfl, rfl, rfl, rfl, rfl, e2, o1, n3⟩
    · rintro s6 _ _ w7 ⟨v7_7, s0_7, s1_7, s2_7, s7_7, s15_7, s16_7, s45_7, hE7, o0_7, n0_7⟩ H6 hr6
      refine W_seq ?_
      refine W_reg (by kernel_rfl) ?_
      refine wla rfl rfl (q_ltI rfl s16_7 s15_7) ?_
      refine wl_nil ?_
      refine W_th ?_
      refine W_seq ?_
      refine W_cond _ rfl rfl (fun hb8 => ?_) (fun hb8 => ?_)
      · replace H6 := (if_pos (of_decide_eq_true hb8)).symm.trans H6
        refine W_skip ?_
        refine W_th ?_
        refine W_seq ?_
        refine W_block ?_
        refine W_seq ?_
        refine W_reg (by kernel_rfl) ?_
        refine wla rfl rfl (q_move (v := (i64 s6.2)) rfl s16_7) ?_
        refine wla rfl rfl (q_assign (v := (i64 s6.2)) rfl rfl) ?_
        refine wl_nil ?_
        refine W_th ?_
        refine W_seq ?_
        refine W_reg (by kernel_rfl) ?_
        refine wla rfl rfl (q_assign (v := (u8 0)) rfl (cst8 (0 : UInt8) rfl)) ?_
        refine wl_nil ?_
        refine W_th ?_
        refine W_seq ?_
        refine W_seq ?_
        refine W_reg (by kernel_rfl) ?_
        refine wla rfl rfl (q_move (v := p0) rfl s0_7) ?_
        refine wla rfl rfl (q_len rfl T22.sl rfl (hp0.lift (Lift.ext hE7 _))) ?_
        refine wla rfl rfl (q_move (v := (i64 0)) rfl rfl) ?_
        refine wl_nil ?_
        refine W_th ?_
        obtain ⟨x9, G9, H6⟩ := Option.bind_eq_some_iff.1 H6
        refine W_mid (fun f w => f 0 = p0 ∧ f 1 = p1 ∧ f 2 = (u8 a2x) ∧ f 7 = v7_7 ∧ f 9 = (u8 x9) ∧ f 15 = (i64 ((c4.length : Int))) ∧ f 16 = (i64 s6.2) ∧ f 45 = undef ∧ Ext w0 w ∧ OwK (Sc u8) w [v7_7] 5 v7_7 s6.1 ∧ Nw w0 v7_7) ?_ ?_
        · refine W_block ?_
          refine W_loop (fun s9 f w => f 0 = p0 ∧ f 1 = p1 ∧ f 2 = (u8 a2x) ∧ f 7 = v7_7 ∧ f 8 = (i64 s6.2) ∧ f 9 = (u8 s9.1) ∧ f 15 = (i64 ((c4.length : Int))) ∧ f 16 = (i64 s6.2) ∧ f 20 = (i64 ((a0xs.length : Int))) ∧ f 21 = (i64 s9.2) ∧ f 45 = undef ∧ Ext w0 w ∧ OwK (Sc u8) w [v7_7] 5 v7_7 s6.1 ∧ Nw w0 v7_7) G9 ?_ ?_
          · exact ⟨s0_7, s1_7, s2_7, s7_7, rfl, rfl, s15_7, s16_7, rfl, rfl, s45_7, hE7, o0_7, n0_7⟩
          · rintro s9 _ _ w10 ⟨s0_10, s1_10, s2_10, s7_10, s8_10, s9_10, s15_10, s16_10, s20_10, s21_10, s45_10, hE10, o0_10, n0_10⟩ H9 hr9
            refine W_seq ?_
            refine W_reg (by kernel_rfl) ?_
            refine wla rfl rfl (q_ltI rfl s21_10 s20_10) ?_
            refine wl_nil ?_
            refine W_th ?_
            refine W_seq ?_
            refine W_cond _ rfl rfl (fun hb11 => ?_) (fun hb11 => ?_)
            · replace H9 := (if_pos (of_decide_eq_true hb11)).symm.trans H9
              refine W_skip ?_
              refine W_th ?_
              refine W_seq ?_
              refine W_block ?_
              refine W_seq ?_
              refine W_reg (by kernel_rfl) ?_
              refine wla rfl rfl (q_move (v := (i64 s9.2)) rfl s21_10) ?_
              refine wla rfl rfl (q_assign (v := (i64 s9.2)) rfl rfl) ?_
              refine wl_nil ?_
              refine W_th ?_
              refine W_draw [8, 11] [(0, 0), (1, 0), (2, 0), (3, 0), (5, 0), (6, 0), (7, 0), (8, 1), (9, 0), (10, 0), (11, 1), (4, 2), (12, 2), (13, 0), (14, 0)] mixed (by kernel_rfl) (by kernel_rfl) (by kernel_rfl) (by kernel_rfl) ?_
              have x12 := Ext.drew w10
              replace o0_10 := o0_10.extL (Sc.stab _) x12 (Lift.ext x12 _)
              have e13 := hE10.trans x12
              refine wsa rfl rfl rfl (q_move (v := (u8 s9.1)) rfl s9_10) ?_
              refine wsa rfl rfl rfl (q_move (v := p0) rfl s0_10) ?_
              refine wsa rfl rfl rfl (q_move (v := (i64 s9.2)) rfl rfl) ?_
              refine wsa rfl rfl rfl (q_move (v := (u8 a2x)) rfl s2_10) ?_
              refine wsa rfl rfl rfl (q_move (v := p1) rfl s1_10) ?_
              refine wsa rfl rfl rfl (q_move (v := (i64 s9.2)) rfl rfl) ?_
              obtain ⟨c14, hc14, H9⟩ := Option.bind_eq_some_iff.1 H9
              refine wsa rfl rfl rfl (q_adr rfl T23 rfl rfl (hp1.lift (Lift.ext e13 _)) hc14) ?_
              refine wsq_load rfl rfl rfl rfl T23 rfl hp1 hc14 e13 (fun v15 ha15 => ?_)
              refine wsa rfl rfl rfl (q_move (v := (i64 s6.2)) rfl s8_10) ?_
              obtain ⟨c16, hc16, H9⟩ := Option.bind_eq_some_iff.1 H9
              refine wsa rfl rfl rfl (q_adr rfl T22 rfl rfl (ha15.lift (Lift.ext e13 _)) hc16) ?_
              refine wsq rfl rfl rfl (q_loadS rfl T22 rfl (ha15.lift (Lift.ext e13 _)) hc16) ?_
              obtain ⟨r17, hr17, H9⟩ := Option.bind_eq_some_iff.1 H9
              refine wss rfl rfl rfl (stp_call (vs := [p0, (i64 s9.2), (u8 a2x)]) Try.func45 rfl rfl rfl (ar3 rfl rfl rfl) (ref03_Weight_calls a0xs s9.2 a2x p0 r17 _ (hp0.lift (Lift.ext e13 _)) hr17) ?_)
              rintro _ w17 ⟨rfl, x17⟩
              refine ⟨_, rfl, x17, ?_⟩
              replace o0_10 := o0_10.extL (Sc.stab _) x17 (Lift.ext x17 _)
              have e18 := e13.trans x17
              obtain ⟨r19, hr19, H9⟩ := Option.bind_eq_some_iff.1 H9
              refine wsc rfl (by kernel_rfl) rfl rfl (stp_call (vs := [(u8 r17), (u8 c16)]) Try.func44 rfl rfl rfl (ar2 rfl rfl) (ref02_Mul_calls r17 c16  r19 _  hr19) ?_)
              rintro _ w19 ⟨rfl, x19⟩
              refine ⟨_, rfl, ?_⟩
              replace o0_10 := o0_10.extL (Sc.stab _) x19 (Lift.ext x19 _)
              have e20 := e18.trans x19
              refine wsa rfl rfl rfl (q_xor8 rfl rfl rfl) ?_
              refine wsa rfl rfl rfl (q_assign (v := (u8 ((s9.1 ^^^ r19)))) rfl rfl) ?_
              refine ws_nil ?_
              refine bk_n ?_
              refine W_th ?_
              refine W_reg (by kernel_rfl) ?_
              refine wla rfl rfl (q_addI rfl s21_10 rfl) ?_
              refine wla rfl rfl (q_move (v := (i64 ((wI (s9.2 + 1))))) rfl rfl) ?_
              refine wl_nil ?_
              obtain rfl := Option.some.inj H9
              exact ⟨_, rfl, s0_10, s1_10, s2_10, s7_10, s8_10, rfl, s15_10, s16_10, s20_10, rfl, s45_10, e20, o0_10, n0_10⟩
            · replace H9 := (if_neg (of_decide_eq_false hb11)).symm.trans H9
              refine W_exit ?_
              refine th_x ?_
              obtain rfl := Option.some.inj H9
              obtain rfl := hr9 _ rfl
              refine th_x ?_
              refine bk_x ?_
              exact ⟨s0_10, s1_10, s2_10, s7_10, s9_10, s15_10, s16_10, s45_10, hE10, o0_10, n0_10⟩
        · rintro _ w22 ⟨s0_22, s1_22, s2_22, s7_22, s9_22, s15_22, s16_22, s45_22, hE22, o0_22, n0_22⟩
          refine W_th ?_
          refine W_reg (by kernel_rfl) ?_
          refine wla rfl rfl (q_move (v := v7_7) rfl s7_22) ?_
          refine wla rfl rfl (q_move (v := (u8 x9)) rfl s9_22) ?_
          refine wls rfl rfl (stp_lit (L := [v7_7]) (R := (Sc u8)) [(u8 x9)] ([x9] : List UInt8) rfl T22 rfl (by exact ⟨rfl, rfl, trivial⟩) rfl (litC u8 (oneC_u8) (us := [(u8 x9)]) (l := ([x9] : List UInt8)) rfl) rfl (litS u8 (us := [(u8 x9)]) (l := ([x9] : List UInt8)) rfl) ?_)
          intro v23 w23 o23 n23 g23 l23
          have x23 := grown_ext g23
          have i23 : By w23 [v7_7] v23 (([x9] : List UInt8)) := OwK.slk (Sc.stab _) _ o23 (fun k hk => (Old.cons (Old.nil _) o0_22.lt) k (n23 k hk)) (fun _ h => h.2)
          replace o0_22 := o0_22.extL (Sc.stab _) x23 (Lift.ext x23 _)
          have e24 := hE22.trans x23
          obtain ⟨c25, hc25, H6⟩ := Option.bind_eq_some_iff.1 H6
          refine wls rfl rfl (stp_append (R := (Sc u8)) (v := v7_7) (u := v23) (Sc.stab _) [] [] rfl T22 rfl rfl o0_22 i23 (fun _ _ h => h) hc25 oc_u8 ?_)
          intro v25 w25 o25 g25 nx25 l25
          replace i23 := i23.lift l25
          have e26 := e24.grown g25 n0_22
          have n27 := Nw.nxt e24 n0_22 nx25
          refine wla rfl rfl (q_assign (v := v25) rfl rfl) ?_
          refine wl_nil ?_
          refine bk_n ?_
          refine W_th ?_
          refine W_reg (by kernel_rfl) ?_
          refine wla rfl rfl (q_addI rfl s16_22 rfl) ?_
          refine wla rfl rfl (q_move (v := (i64 ((wI (s6.2 + 1))))) rfl rfl) ?_
          refine wl_nil ?_
          obtain rfl := Option.some.inj H6
          exact ⟨_, rfl, v25, s0_22, s1_22, s2_22, rfl, s15_22, rfl, s45_22, e26, o25, n27⟩
      · replace H6 := (if_neg (of_decide_eq_false hb8)).symm.trans H6
        refine W_exit ?_
        refine th_x ?_
        obtain rfl := Option.some.inj H6
        obtain rfl := hr6 _ rfl
        refine th_x ?_
        refine bk_x ?_
        exact ⟨v7_7, s7_7, s45_7, hE7, o0_7, n0_7⟩
  · rintro _ w30 ⟨v7_30, s7_30, s45_30, hE30, o0_30, n0_30⟩
    refine W_th ?_
    refine W_seq ?_
    refine W_reg (by kernel_rfl) ?_
    refine wla rfl rfl (q_move (v := v7_30) rfl s7_30) ?_
    refine wla rfl rfl (q_assign (v := v7_30) rfl rfl) ?_
    refine wl_nil ?_
    refine W_th ?_
    refine W_ret ?_
    obtain rfl := Option.some.inj H
    refine rt1 v7_30 rfl rfl rfl s45_30 ?_
    exact ⟨v7_30, rfl, hE30, n0_30, (o0_30.weak (Sc.stab _) (fun _ _ => trivial))⟩

/-! largesse/largesselaw08.lives -/
noncomputable def law08_lives  : Option Bool :=
((field_New ).bind fun r1 =>
((shamir_Split r1 2 ([(5 : UInt8)] : List UInt8) ([(3 : UInt8)] : List UInt8) ([(1 : UInt8), (2 : UInt8)] : List UInt8)).bind fun r9 =>
((shamir_Join r1 ([(1 : UInt8), (2 : UInt8)] : List UInt8) r9.1).bind fun r13 =>
(if r9.2 = 0 then
(if r13.2 = 0 then
(if (r9.1.length : Int) = 2 then
((idx r9.1 0).bind fun c18 =>
(if c18 = ([6] : List UInt8) then
((idx r9.1 1).bind fun c21 =>
(if c21 = ([3] : List UInt8) then some (decide (r13.1 = ([5] : List UInt8)))
else some false))
else some false))
else some false)
else some false)
else some false))))
set_option maxRecDepth 100000 in
set_option maxHeartbeats 8000000 in
theorem law08_lives_calls  (r : Bool) (w0 : World) (H : law08_lives = some r) :
    Calls Try.prog 12 [].toArray w0 (fun e w' => e = .returned (.bool r) ∧ Ext w0 w') := by
  have hE : Ext w0 w0 := Ext.refl w0
  unfold law08_lives at H
  refine calls_W (n := 52) Try.func12 rfl rfl rfl ?_
  refine W_seq ?_
  refine W_reg (by kernel_rfl) ?_
  refine wla rfl rfl (q_assign (v := (.bool false)) rfl rfl) ?_
  refine wl_nil ?_
  refine W_th ?_
  refine W_seq ?_
  refine W_reg (by kernel_rfl) ?_
  obtain ⟨r1, hr1, H⟩ := Option.bind_eq_some_iff.1 H
  refine wls rfl rfl (stp_call (vs := []) Try.func14 rfl rfl rfl (ar0 ) (field_New_calls   r1 _ [] (Old.nil _)  hr1) ?_)
  rintro _ w1 ⟨v1, rfl, x1, i1_0⟩
  refine ⟨_, rfl, ?_⟩
  have e2 := hE.trans x1
  refine wla rfl rfl (q_assign (v := v1) rfl rfl) ?_
  refine wl_nil ?_
  refine W_th ?_
  refine W_seq ?_
  refine W_reg (by kernel_rfl) ?_
  refine wla rfl rfl (q_move (v := v1) rfl rfl) ?_
  refine wls rfl rfl (stp_lit (L := []) (R := (Sc u8)) [(u8 5)] ([(5 : UInt8)] : List UInt8) rfl T22 rfl (by exact ⟨rfl, (cst8 (5 : UInt8) rfl), trivial⟩) rfl (litC u8 (oneC_u8) (us := [(u8 5)]) (l := ([(5 : UInt8)] : List UInt8)) rfl) rfl (litS u8 (us := [(u8 5)]) (l := ([(5 : UInt8)] : List UInt8)) rfl) ?_)
  intro v3 w3 o3 n3 g3 l3
  have x3 := grown_ext g3
  have i3 : By w3 [] v3 (([(5 : UInt8)] : List UInt8)) := OwK.slk (Sc.stab _) _ o3 (fun k hk => (Old.nil _) k (n3 k hk)) (fun _ h => h.2)
  replace i1_0 := i1_0.lift (Lift.ext x3 _)
  have e4 := e2.trans x3
  refine wls rfl rfl (stp_lit (L := []) (R := (Sc u8)) [(u8 3)] ([(3 : UInt8)] : List UInt8) rfl T22 rfl (by exact ⟨rfl, (cst8 (3 : UInt8) rfl), trivial⟩) rfl (litC u8 (oneC_u8) (us := [(u8 3)]) (l := ([(3 : UInt8)] : List UInt8)) rfl) rfl (litS u8 (us := [(u8 3)]) (l := ([(3 : UInt8)] : List UInt8)) rfl) ?_)
  intro v5 w5 o5 n5 g5 l5
  have x5 := grown_ext g5
  have i5 : By w5 [] v5 (([(3 : UInt8)] : List UInt8)) := OwK.slk (Sc.stab _) _ o5 (fun k hk => (Old.nil _) k (n5 k hk)) (fun _ h => h.2)
  replace i1_0 := i1_0.lift (Lift.ext x5 _)
  replace i3 := i3.lift (Lift.ext x5 _)
  have e6 := e4.trans x5
  refine wls rfl rfl (stp_lit (L := []) (R := (Sc u8)) [(u8 1), (u8 2)] ([(1 : UInt8), (2 : UInt8)] : List UInt8) rfl T22 rfl (by exact ⟨rfl, (cst8 (1 : UInt8) rfl), rfl, (cst8 (2 : UInt8) rfl), trivial⟩) rfl (litC u8 (oneC_u8) (us := [(u8 1), (u8 2)]) (l := ([(1 : UInt8), (2 : UInt8)] : List UInt8)) rfl) rfl (litS u8 (us := [(u8 1), (u8 2)]) (l := ([(1 : UInt8), (2 : UInt8)] : List UInt8)) rfl) ?_)
  intro v7 w7 o7 n7 g7 l7
  have x7 := grown_ext g7
  have i7 : By w7 [] v7 (([(1 : UInt8), (2 : UInt8)] : List UInt8)) := OwK.slk (Sc.stab _) _ o7 (fun k hk => (Old.nil _) k (n7 k hk)) (fun _ h => h.2)
  replace i1_0 := i1_0.lift (Lift.ext x7 _)
  replace i3 := i3.lift (Lift.ext x7 _)
  replace i5 := i5.lift (Lift.ext x7 _)
  have e8 := e6.trans x7
  obtain ⟨r9, hr9, H⟩ := Option.bind_eq_some_iff.1 H
  refine wls rfl rfl (stp_call (vs := [v1, (i64 2), v3, v5, v7]) Try.func19 rfl rfl rfl (ar5 rfl rfl rfl rfl rfl) (shamir_Split_calls r1 2 ([(5 : UInt8)] : List UInt8) ([(3 : UInt8)] : List UInt8) ([(1 : UInt8), (2 : UInt8)] : List UInt8) v1 v3 v5 v7 r9 _ [] (Old.nil _) (i1_0.lift (Lift.sub (fun _ _ => trivial))) (i3.lift (Lift.sub (fun _ _ => trivial))) (i5.lift (Lift.sub (fun _ _ => trivial))) (i7.lift (Lift.sub (fun _ _ => trivial))) hr9) ?_)
  rintro _ w9 ⟨v9_0, rfl, x9, n9_0, o9_0⟩
  refine ⟨_, rfl, ?_⟩
  have i9_0 : Rw w9 [] v9_0 r9.1 := OwK.slk (SlK.stab (Sc.stab _)) _ o9_0 (fun k hk => (Old.nil _) k (n9_0 k hk)) (fun _ h => h.2)
  replace i1_0 := i1_0.lift (Lift.ext x9 _)
  replace i3 := i3.lift (Lift.ext x9 _)
  replace i5 := i5.lift (Lift.ext x9 _)
  replace i7 := i7.lift (Lift.ext x9 _)
  have e10 := e8.trans x9
  refine wla rfl rfl (q_move (v := (.tuple #[v9_0, (i64 r9.2)])) rfl rfl) ?_
  refine wla rfl rfl (q_extract rfl rfl rfl) ?_
  refine wla rfl rfl (q_extract rfl rfl rfl) ?_
  refine wla rfl rfl (q_assign (v := v9_0) rfl rfl) ?_
  refine wla rfl rfl (q_assign (v := (i64 r9.2)) rfl rfl) ?_
  refine wl_nil ?_
  refine W_th ?_
  refine W_seq ?_
  refine W_reg (by kernel_rfl) ?_
  refine wla rfl rfl (q_move (v := v1) rfl rfl) ?_
  refine wls rfl rfl (stp_lit (L := []) (R := (Sc u8)) [(u8 1), (u8 2)] ([(1 : UInt8), (2 : UInt8)] : List UInt8) rfl T22 rfl (by exact ⟨rfl, (cst8 (1 : UInt8) rfl), rfl, (cst8 (2 : UInt8) rfl), trivial⟩) rfl (litC u8 (oneC_u8) (us := [(u8 1), (u8 2)]) (l := ([(1 : UInt8), (2 : UInt8)] : List UInt8)) rfl) rfl (litS u8 (us := [(u8 1), (u8 2)]) (l := ([(1 : UInt8), (2 : UInt8)] : List UInt8)) rfl) ?_)
  intro v11 w11 o11 n11 g11 l11
  have x11 := grown_ext g11
  have i11 : By w11 [] v11 (([(1 : UInt8), (2 : UInt8)] : List UInt8)) := OwK.slk (Sc.stab _) _ o11 (fun k hk => (Old.nil _) k (n11 k hk)) (fun _ h => h.2)
  replace i1_0 := i1_0.lift (Lift.ext x11 _)
  replace i3 := i3.lift (Lift.ext x11 _)
  replace i5 := i5.lift (Lift.ext x11 _)
  replace i7 := i7.lift (Lift.ext x11 _)
  replace i9_0 := i9_0.lift (Lift.ext x11 _)
  have e12 := e10.trans x11
  refine wla rfl rfl (q_move (v := v9_0) rfl rfl) ?_
  obtain ⟨r13, hr13, H⟩ := Option.bind_eq_some_iff.1 H
  refine wls rfl rfl (stp_call (vs := [v1, v11, v9_0]) Try.func16 rfl rfl rfl (ar3 rfl rfl rfl) (shamir_Join_calls r1 ([(1 : UInt8), (2 : UInt8)] : List UInt8) r9.1 v1 v11 v9_0 r13 _ (i1_0.lift (Lift.sub (fun _ _ => trivial))) (i11.lift (Lift.sub (fun _ _ => trivial))) (i9_0.lift (Lift.sub (fun _ _ => trivial))) hr13) ?_)
  rintro _ w13 ⟨v13_0, rfl, x13, n13_0, o13_0⟩
  refine ⟨_, rfl, ?_⟩
  have i13_0 : By w13 [] v13_0 r13.1 := OwK.slk (Sc.stab _) _ (OwK.scal o13_0 (v13_0 :: [])) (fun k hk => (Old.nil _) k (n13_0 k hk)) (fun _ h => h.2)
  replace i1_0 := i1_0.lift (Lift.ext x13 _)
  replace i3 := i3.lift (Lift.ext x13 _)
  replace i5 := i5.lift (Lift.ext x13 _)
  replace i7 := i7.lift (Lift.ext x13 _)
  replace i9_0 := i9_0.lift (Lift.ext x13 _)
  replace i11 := i11.lift (Lift.ext x13 _)
  have e14 := e12.trans x13
  refine wla rfl rfl (q_move (v := (.tuple #[v13_0, (i64 r13.2)])) rfl rfl) ?_
  refine wla rfl rfl (q_extract rfl rfl rfl) ?_
  refine wla rfl rfl (q_extract rfl rfl rfl) ?_
  refine wla rfl rfl (q_assign (v := v13_0) rfl rfl) ?_
  refine wla rfl rfl (q_assign (v := (i64 r13.2)) rfl rfl) ?_
  refine wl_nil ?_
  refine W_th ?_
  refine W_seq ?_
  refine W_reg (by kernel_rfl) ?_
  refine wla rfl rfl (q_move (v := (i64 r9.2)) rfl rfl) ?_
  refine wla rfl rfl (q_eqI rfl rfl rfl) ?_
  refine wlb rfl rfl (q_move (v := (.bool ((decide (r9.2 = 0))))) rfl rfl) (fun hb15 => ?_) (fun hb15 => ?_)
  · replace H := (if_pos (of_decide_eq_true hb15)).symm.trans H
    refine wla rfl rfl (q_move (v := (i64 r13.2)) rfl rfl) ?_
    refine wla rfl rfl (q_eqI rfl rfl rfl) ?_
    refine wla rfl rfl (q_pick_t (v := (.bool ((decide (r13.2 = 0))))) rfl rfl rfl) ?_
    refine wlb rfl rfl (q_move (v := (.bool ((decide (r13.2 = 0))))) rfl rfl) (fun hb16 => ?_) (fun hb16 => ?_)
    · replace H := (if_pos (of_decide_eq_true hb16)).symm.trans H
      refine wla rfl rfl (q_move (v := v9_0) rfl rfl) ?_
      refine wla rfl rfl (q_len rfl T23.sl rfl i9_0) ?_
      refine wla rfl rfl (q_eqI rfl rfl rfl) ?_
      refine wla rfl rfl (q_pick_t (v := (.bool ((decide ((r9.1.length : Int) = 2))))) rfl rfl rfl) ?_
      refine wlb rfl rfl (q_move (v := (.bool ((decide ((r9.1.length : Int) = 2))))) rfl rfl) (fun hb17 => ?_) (fun hb17 => ?_)
      · replace H := (if_pos (of_decide_eq_true hb17)).symm.trans H
        refine wla rfl rfl (q_move (v := v9_0) rfl rfl) ?_
        obtain ⟨c18, hc18, H⟩ := Option.bind_eq_some_iff.1 H
        refine wla rfl rfl (q_adr rfl T23 rfl rfl i9_0 hc18) ?_
        refine wlq_load rfl rfl rfl T23 rfl i9_0 hc18 (Ext.refl _) (fun v19 i19 => ?_)
        refine wlq rfl rfl (q_str rfl T22 rfl rfl rfl i19) ?_
        refine wla rfl rfl (q_eqS rfl rfl rfl) ?_
        refine wla rfl rfl (q_pick_t (v := (.bool ((decide (c18 = ([6] : List UInt8)))))) rfl rfl rfl) ?_
        refine wlb rfl rfl (q_move (v := (.bool ((decide (c18 = ([6] : List UInt8)))))) rfl rfl) (fun hb20 => ?_) (fun hb20 => ?_)
        · replace H := (if_pos (of_decide_eq_true hb20)).symm.trans H
          refine wla rfl rfl (q_move (v := v9_0) rfl rfl) ?_
          obtain ⟨c21, hc21, H⟩ := Option.bind_eq_some_iff.1 H
          refine wla rfl rfl (q_adr rfl T23 rfl rfl i9_0 hc21) ?_
          refine wlq_load rfl rfl rfl T23 rfl i9_0 hc21 (Ext.refl _) (fun v22 i22 => ?_)
          refine wlq rfl rfl (q_str rfl T22 rfl rfl rfl i22) ?_
          refine wla rfl rfl (q_eqS rfl rfl rfl) ?_
          refine wla rfl rfl (q_pick_t (v := (.bool ((decide (c21 = ([3] : List UInt8)))))) rfl rfl rfl) ?_
          refine wlb rfl rfl (q_move (v := (.bool ((decide (c21 = ([3] : List UInt8)))))) rfl rfl) (fun hb23 => ?_) (fun hb23 => ?_)
          · replace H := (if_pos (of_decide_eq_true hb23)).symm.trans H
            refine wla rfl rfl (q_move (v := v13_0) rfl rfl) ?_
            refine wlq rfl rfl (q_str rfl T22 rfl rfl rfl i13_0) ?_
            refine wla rfl rfl (q_eqS rfl rfl rfl) ?_
            refine wla rfl rfl (q_pick_t (v := (.bool ((decide (r13.1 = ([5] : List UInt8)))))) rfl rfl rfl) ?_
            refine wla rfl rfl (q_assign (v := (.bool ((decide (r13.1 = ([5] : List UInt8)))))) rfl rfl) ?_
            refine wl_nil ?_
            refine W_th ?_
            refine W_ret ?_
            obtain rfl := Option.some.inj H
            refine rt1 (.bool ((decide (r13.1 = ([5] : List UInt8))))) rfl rfl rfl rfl ?_
            exact ⟨rfl, e14⟩
          · replace H := (if_neg (of_decide_eq_false hb23)).symm.trans H
            refine wlk rfl rfl ?_
            refine wlk rfl rfl ?_
            refine wlk rfl rfl ?_
            refine wla rfl rfl (q_pick_f (v := (.bool false)) rfl rfl rfl) ?_
            refine wla rfl rfl (q_assign (v := (.bool false)) rfl rfl) ?_
            refine wl_nil ?_
            refine W_th ?_
            refine W_ret ?_
            obtain rfl := Option.some.inj H
            refine rt1 (.bool false) rfl rfl rfl rfl ?_
            exact ⟨rfl, e14⟩
        · replace H := (if_neg (of_decide_eq_false hb20)).symm.trans H
          refine wlk rfl rfl ?_
          refine wlk rfl rfl ?_
          refine wlk rfl rfl ?_
          refine wlk rfl rfl ?_
          refine wlk rfl rfl ?_
          refine wla rfl rfl (q_pick_f (v := (.bool false)) rfl rfl rfl) ?_
          refine wla rfl rfl (q_move (v := (.bool false)) rfl rfl) ?_
          refine wlk rfl rfl ?_
          refine wlk rfl rfl ?_
          refine wlk rfl rfl ?_
          refine wla rfl rfl (q_pick_f (v := (.bool false)) rfl rfl rfl) ?_
          refine wla rfl rfl (q_assign (v := (.bool false)) rfl rfl) ?_
          refine wl_nil ?_
          refine W_th ?_
          refine W_ret ?_
          obtain rfl := Option.some.inj H
          refine rt1 (.bool false) rfl rfl rfl rfl ?_
          exact ⟨rfl, e14⟩
      · replace H := (if_neg (of_decide_eq_false hb17)).symm.trans H
        refine wlk rfl rfl ?_
        refine wlk rfl rfl ?_
        refine wlk rfl rfl ?_
        refine wlk rfl rfl ?_
        refine wlk rfl rfl ?_
        refine wla rfl rfl (q_pick_f (v := (.bool false)) rfl rfl rfl) ?_
        refine wla rfl rfl (q_move (v := (.bool false)) rfl rfl) ?_
        refine wlk rfl rfl ?_
        refine wlk rfl rfl ?_
        refine wlk rfl rfl ?_
        refine wlk rfl rfl ?_
        refine wlk rfl rfl ?_
        refine wla rfl rfl (q_pick_f (v := (.bool false)) rfl rfl rfl) ?_
        refine wla rfl rfl (q_move (v := (.bool false)) rfl rfl) ?_
        refine wlk rfl rfl ?_
        refine wlk rfl rfl ?_
        refine wlk rfl rfl ?_
        refine wla rfl rfl (q_pick_f (v := (.bool false)) rfl rfl rfl) ?_
        refine wla rfl rfl (q_assign (v := (.bool false)) rfl rfl) ?_
        refine wl_nil ?_
        refine W_th ?_
        refine W_ret ?_
        obtain rfl := Option.some.inj H
        refine rt1 (.bool false) rfl rfl rfl rfl ?_
        exact ⟨rfl, e14⟩
    · replace H := (if_neg (of_decide_eq_false hb16)).symm.trans H
      refine wlk rfl rfl ?_
      refine wlk rfl rfl ?_
      refine wlk rfl rfl ?_
      refine wla rfl rfl (q_pick_f (v := (.bool false)) rfl rfl rfl) ?_
      refine wla rfl rfl (q_move (v := (.bool false)) rfl rfl) ?_
      refine wlk rfl rfl ?_
      refine wlk rfl rfl ?_
      refine wlk rfl rfl ?_
      refine wlk rfl rfl ?_
      refine wlk rfl rfl ?_
      refine wla rfl rfl (q_pick_f (v := (.bool false)) rfl rfl rfl) ?_
      refine wla rfl rfl (q_move (v := (.bool false)) rfl rfl) ?_
      refine wlk rfl rfl ?_
      refine wlk rfl rfl ?_
      refine wlk rfl rfl ?_
      refine wlk rfl rfl ?_
      refine wlk rfl rfl ?_
      refine wla rfl rfl (q_pick_f (v := (.bool false)) rfl rfl rfl) ?_
      refine wla rfl rfl (q_move (v := (.bool false)) rfl rfl) ?_
      refine wlk rfl rfl ?_
      refine wlk rfl rfl ?_
      refine wlk rfl rfl ?_
      refine wla rfl rfl (q_pick_f (v := (.bool false)) rfl rfl rfl) ?_
      refine wla rfl rfl (q_assign (v := (.bool false)) rfl rfl) ?_
      refine wl_nil ?_
      refine W_th ?_
      refine W_ret ?_
      obtain rfl := Option.some.inj H
      refine rt1 (.bool false) rfl rfl rfl rfl ?_
      exact ⟨rfl, e14⟩
  · replace H := (if_neg (of_decide_eq_false hb15)).symm.trans H
    refine wlk rfl rfl ?_
    refine wlk rfl rfl ?_
    refine wla rfl rfl (q_pick_f (v := (.bool false)) rfl rfl rfl) ?_
    refine wla rfl rfl (q_move (v := (.bool false)) rfl rfl) ?_
    refine wlk rfl rfl ?_
    refine wlk rfl rfl ?_
    refine wlk rfl rfl ?_
    refine wla rfl rfl (q_pick_f (v := (.bool false)) rfl rfl rfl) ?_
    refine wla rfl rfl (q_move (v := (.bool false)) rfl rfl) ?_
    refine wlk rfl rfl ?_
    refine wlk rfl rfl ?_
    refine wlk rfl rfl ?_
    refine wlk rfl rfl ?_
    refine wlk rfl rfl ?_
    refine wla rfl rfl (q_pick_f (v := (.bool false)) rfl rfl rfl) ?_
    refine wla rfl rfl (q_move (v := (.bool false)) rfl rfl) ?_
    refine wlk rfl rfl ?_
    refine wlk rfl rfl ?_
    refine wlk rfl rfl ?_
    refine wlk rfl rfl ?_
    refine wlk rfl rfl ?_
    refine wla rfl rfl (q_pick_f (v := (.bool false)) rfl rfl rfl) ?_
    refine wla rfl rfl (q_move (v := (.bool false)) rfl rfl) ?_
    refine wlk rfl rfl ?_
    refine wlk rfl rfl ?_
    refine wlk rfl rfl ?_
    refine wla rfl rfl (q_pick_f (v := (.bool false)) rfl rfl rfl) ?_
    refine wla rfl rfl (q_assign (v := (.bool false)) rfl rfl) ?_
    refine wl_nil ?_
    refine W_th ?_
    refine W_ret ?_
    obtain rfl := Option.some.inj H
    refine rt1 (.bool false) rfl rfl rfl rfl ?_
    exact ⟨rfl, e14⟩

/-! largesse/largesselaw08.Made -/
noncomputable def law08_Made (a0b : List UInt8) (a1n : Int) : Option (List UInt8) :=
((makeL a1n (0 : UInt8)).bind fun c1 => some (copyL c1 0 a0b))
set_option maxRecDepth 100000 in
set_option maxHeartbeats 8000000 in
theorem law08_Made_calls (a0b : List UInt8) (a1n : Int) (p0 : Value) (r : List UInt8) (w0 : World) (hp0 : By w0 [] p0 a0b) (H : law08_Made a0b a1n = some r) :
    Calls Try.prog 18 [p0, (i64 a1n)].toArray w0 (fun e w' => ∃ u0 : Value, e = .returned u0 ∧ Ext w0 w' ∧ Nw w0 u0 ∧ OwK (Sc u8) w' [] 5 u0 r) := by
  have hE : Ext w0 w0 := Ext.refl w0
  unfold law08_Made at H
  refine calls_W (n := 12) Try.func18 rfl rfl rfl ?_
  refine W_seq ?_
  refine W_reg (by kernel_rfl) ?_
  refine wla rfl rfl (q_assign (v := (.slice none 0 0)) rfl rfl) ?_
  refine wl_nil ?_
  refine W_th ?_
  refine W_seq ?_
  refine W_reg (by kernel_rfl) ?_
  refine wla rfl rfl (q_move (v := (i64 a1n)) rfl rfl) ?_
  obtain ⟨c1, hc1, H⟩ := Option.bind_eq_some_iff.1 H
  refine wls rfl rfl (stp_make (L := []) (R := (Sc u8)) rfl T22 rfl rfl hc1 (fun _ _ => rfl) ?_)
  intro v1 w1 o1 n1 g1 l1
  have x1 := grown_ext g1
  have n3 := Nw.ext hE n1
  have e2 := hE.trans x1
  refine wla rfl rfl (q_assign (v := v1) rfl rfl) ?_
  refine wl_nil ?_
  refine W_th ?_
  refine W_seq ?_
  refine W_reg (by kernel_rfl) ?_
  refine wla rfl rfl (q_move (v := v1) rfl rfl) ?_
  refine wla rfl rfl (q_move (v := p0) rfl rfl) ?_
  refine wls rfl rfl (stp_copy (R := (Sc u8)) (off := 0) (dv := v1) (u := p0) (Sc.stab _) [] [] rfl T22 rfl rfl o1 (copy_whole o1) (by decide) (Int.natCast_nonneg _) (hp0.lift (Lift.ext e2 _)) (fun _ _ h => h) oc_u8 ?_)
  intro w4 o4 g4 l4
  have e5 := e2.grown g4 n3
  refine wl_nil ?_
  refine W_th ?_
  refine W_seq ?_
  refine W_reg (by kernel_rfl) ?_
  refine wla rfl rfl (q_move (v := v1) rfl rfl) ?_
  refine wla rfl rfl (q_assign (v := v1) rfl rfl) ?_
  refine wl_nil ?_
  refine W_th ?_
  refine W_ret ?_
  obtain rfl := Option.some.inj H
  refine rt1 v1 rfl rfl rfl rfl ?_
  exact ⟨v1, rfl, e5, n3, (o4.weak (Sc.stab _) (fun _ _ => trivial))⟩

/-! largesse/largesselaw08.Unlike -/
noncomputable def law08_Unlike (a0b : List UInt8) (a1n : Int) : Option (List UInt8) :=
((iterC (fun s6 : (List (UInt8 × Bool)) × List UInt8 × Int =>
(if s6.2.2 < (a0b.length : Int) then
((idx a0b s6.2.2).bind fun c9 =>
(if (!((mget s6.1 c9))) = true then
(if (s6.2.1.length : Int) < a1n then
((appL s6.2.1 (([c9] : List UInt8))).bind fun c14 => some (.inl ((mput s6.1 c9 true), c14, (wI (s6.2.2 + 1)))))
else some (.inl ((mput s6.1 c9 true), s6.2.1, (wI (s6.2.2 + 1)))))
else some (.inl ((mput s6.1 c9 true), s6.2.1, (wI (s6.2.2 + 1))))))
else some (.inr s6.2.1))) ((mput (([] : List (UInt8 × Bool))) ((0 : UInt8)) true), ([] : List UInt8), 0)).bind fun x6 =>
((iterC (fun s26 : List UInt8 × UInt8 =>
(if (s26.1.length : Int) < a1n then
(if (0 : UInt8) < s26.2 then
((iterC (fun s30 : Bool × Int =>
(if s30.2 < (s26.1.length : Int) then
((idx s26.1 s30.2).bind fun c33 =>
(if s30.1 = true then some (.inl (true, (wI (s30.2 + 1))))
else some (.inl ((decide (s26.2 = c33)), (wI (s30.2 + 1))))))
else some (.inr s30.1))) (false, 0)).bind fun x30 =>
(if (!x30) = true then
((appL s26.1 (([s26.2] : List UInt8))).bind fun c40 => some (.inl (c40, (s26.2 + (1 : UInt8)))))
else some (.inl (s26.1, (s26.2 + (1 : UInt8))))))
else some (.inr s26.1))
else some (.inr s26.1))) (x6, (1 : UInt8))).bind fun x26 => some x26))
set_option maxRecDepth 100000 in
set_option maxHeartbeats 8000000 in
theorem law08_Unlike_calls (a0b : List UInt8) (a1n : Int) (p0 : Value) (r : List UInt8) (w0 : World) (hp0 : By w0 [] p0 a0b) (H : law08_Unlike a0b a1n = some r) :
    Calls Try.prog 23 [p0, (i64 a1n)].toArray w0 (fun e w' => ∃ u0 : Value, e = .returned u0 ∧ Ext w0 w' ∧ Nw w0 u0 ∧ OwK (Sc u8) w' [] 5 u0 r) := by
  have hE : Ext w0 w0 := Ext.refl w0
  unfold law08_Unlike at H
  refine calls_W (n := 68) Try.func23 rfl rfl rfl ?_
  refine W_seq ?_
  refine W_reg (by kernel_rfl) ?_
  refine wla rfl rfl (q_assign (v := (.slice none 0 0)) rfl rfl) ?_
  refine wl_nil ?_
  refine W_th ?_
  refine W_seq ?_
  refine W_reg (by kernel_rfl) ?_
  refine wls rfl rfl (stp_makeMap [] rfl ?_)
  intro g1 w1 o1 n1 g1r l1
  have x1 := grown_ext g1r
  have n3 := Nw.ext hE n1
  have e2 := hE.trans x1
  refine wln rfl rfl (stp_mapUpdate [] [] (.inr rfl) Try.underlying76 Try.underlying5 rfl (cst8 (0 : UInt8) rfl) rfl o1 ?_)
  intro w4 o4 g4 l4
  have e5 := e2.grown g4 n3
  refine wla rfl rfl (q_move (v := (mp g1)) rfl rfl) ?_
  refine wla rfl rfl (q_assign (v := (mp g1)) rfl rfl) ?_
  refine wl_nil ?_
  refine W_th ?_
  refine W_seq ?_
  refine W_reg (by kernel_rfl) ?_
  refine wla rfl rfl (q_assign (v := (.slice none 0 0)) rfl rfl) ?_
  refine wl_nil ?_
  refine W_th ?_
  refine W_seq ?_
  refine W_seq ?_
  refine W_reg (by kernel_rfl) ?_
  refine wla rfl rfl (q_move (v := p0) rfl rfl) ?_
  refine wla rfl rfl (q_len rfl T22.sl rfl (hp0.lift (Lift.ext e5 _))) ?_
  refine wla rfl rfl (q_move (v := (i64 0)) rfl rfl) ?_
  refine wl_nil ?_
  refine W_th ?_
  obtain ⟨x6, G6, H⟩ := Option.bind_eq_some_iff.1 H
  refine W_mid (fun f w => ∃ v6_47 : Value, f 1 = (i64 a1n) ∧ f 6 = v6_47 ∧ f 68 = undef ∧ Ext w0 w ∧ OwK (Sc u8) w [v6_47] 5 v6_47 x6 ∧ Nw w0 v6_47) ?_ ?_
  · refine W_block ?_
    refine W_loop (fun s6 f w => ∃ v6_24 : Value, f 1 = (i64 a1n) ∧ f 5 = (mp g1) ∧ f 6 = v6_24 ∧ f 15 = p0 ∧ f 16 = (i64 ((a0b.length : Int))) ∧ f 17 = (i64 s6.2.2) ∧ f 68 = undef ∧ Ext w0 w ∧ Mp w g1 s6.1 ∧ Nw w0 (mp g1) ∧ OwK (Sc u8) w [(mp g1), v6_24] 5 v6_24 s6.2.1 ∧ Nw w0 v6_24 ∧ Nq (mp g1) v6_24) G6 ?_ ?_
    · exact ⟨(.slice none 0 0), rfl, rfl, rfl, rfl, rfl, rfl, rfl, e5, o4, n3, (OwK.nil _ _ _ _), (Nw.nil _), (Nq.nil _).symm⟩
    · rintro s6 _ _ w7 ⟨v6_7, s1_7, s5_7, s6_7, s15_7, s16_7, s17_7, s68_7, hE7, o0_7, n0_7, o1_7, n1_7, q0_1_7⟩ H6 hr6
      refine W_seq ?_
      refine W_reg (by kernel_rfl) ?_
      refine wla rfl rfl (q_ltI rfl s17_7 s16_7) ?_
      refine wl_nil ?_
      refine W_th ?_
      refine W_seq ?_
      refine W_cond _ rfl rfl (fun hb8 => ?_) (fun hb8 => ?_)
      · replace H6 := (if_pos (of_decide_eq_true hb8)).symm.trans H6
        refine W_skip ?_
        refine W_th ?_
        refine W_seq ?_
        refine W_block ?_
        refine W_seq ?_
        refine W_reg (by kernel_rfl) ?_
        obtain ⟨c9, hc9, H6⟩ := Option.bind_eq_some_iff.1 H6
        refine wla rfl rfl (q_adr rfl T22 s15_7 s17_7 (hp0.lift (Lift.ext hE7 _)) hc9) ?_
        refine wlq rfl rfl (q_loadS rfl T22 rfl (hp0.lift (Lift.ext hE7 _)) hc9) ?_
        refine wla rfl rfl (q_assign (v := (u8 c9)) rfl rfl) ?_
        refine wl_nil ?_
        refine W_th ?_
        refine W_seq ?_
        refine W_seq ?_
        refine W_reg (by kernel_rfl) ?_
        refine wla rfl rfl (q_move (v := (mp g1)) rfl s5_7) ?_
        refine wla rfl rfl (q_move (v := (u8 c9)) rfl rfl) ?_
        refine wlq rfl rfl (q_lookup rfl Try.underlying76 Try.underlying5 Try.zeroValue4 rfl rfl o0_7) ?_
        refine wla rfl rfl (q_not rfl rfl) ?_
        refine wlb rfl rfl (q_move (v := (.bool ((!((mget s6.1 c9)))))) rfl rfl) (fun hb10 => ?_) (fun hb10 => ?_)
        · replace H6 := (if_pos hb10).symm.trans H6
          refine wla rfl rfl (q_move (v := v6_7) rfl s6_7) ?_
          refine wla rfl rfl (q_len rfl T22.sl rfl (o1_7.rd (Sc.stab _))) ?_
          refine wla rfl rfl (q_move (v := (i64 a1n)) rfl s1_7) ?_
          refine wla rfl rfl (q_ltI rfl rfl rfl) ?_
          refine wla rfl rfl (q_pick_t (v := (.bool ((decide ((s6.2.1.length : Int) < a1n))))) rfl rfl rfl) ?_
          refine wl_nil ?_
          refine W_th ?_
          refine W_cond _ rfl rfl (fun hb11 => ?_) (fun hb11 => ?_)
          · replace H6 := (if_pos (of_decide_eq_true hb11)).symm.trans H6
            refine W_reg (by kernel_rfl) ?_
            refine wla rfl rfl (q_move (v := v6_7) rfl s6_7) ?_
            refine wla rfl rfl (q_move (v := (u8 c9)) rfl rfl) ?_
            refine wls rfl rfl (stp_lit (L := [(mp g1), v6_7]) (R := (Sc u8)) [(u8 c9)] ([c9] : List UInt8) rfl T22 rfl (by exact ⟨rfl, rfl, trivial⟩) rfl (litC u8 (oneC_u8) (us := [(u8 c9)]) (l := ([c9] : List UInt8)) rfl) rfl (litS u8 (us := [(u8 c9)]) (l := ([c9] : List UInt8)) rfl) ?_)
            intro v12 w12 o12 n12 g12 l12
            have x12 := grown_ext g12
            have i12 : By w12 [(mp g1), v6_7] v12 (([c9] : List UInt8)) := OwK.slk (Sc.stab _) _ o12 (fun k hk => (Old.cons (Old.cons (Old.nil _) o1_7.lt) o0_7.ltB) k (n12 k hk)) (fun _ h => h.2)
            replace o0_7 := o0_7.ext x12
            replace o1_7 := o1_7.extL (Sc.stab _) x12 (Lift.ext x12 _)
            have e13 := hE7.trans x12
            obtain ⟨c14, hc14, H6⟩ := Option.bind_eq_some_iff.1 H6
            refine wls rfl rfl (stp_append (R := (Sc u8)) (v := v6_7) (u := v12) (Sc.stab _) [(mp g1)] [] rfl T22 rfl rfl o1_7 i12 (fun _ _ h => h) hc14 oc_u8 ?_)
            intro v14 w14 o14 g14 nx14 l14
            replace i12 := i12.lift l14
            have q15 : Nq (mp g1) v14 := o0_7.nxt q0_1_7 nx14
            replace o0_7 := o0_7.other g14 q0_1_7
            have e16 := e13.grown g14 n1_7
            have n17 := Nw.nxt e13 n1_7 nx14
            refine wla rfl rfl (q_assign (v := v14) rfl rfl) ?_
            refine wl_nil ?_
            refine W_th ?_
            refine W_reg (by kernel_rfl) ?_
            refine wla rfl rfl (q_move (v := (mp g1)) rfl s5_7) ?_
            refine wla rfl rfl (q_move (v := (u8 c9)) rfl rfl) ?_
            refine wln rfl rfl (stp_mapUpdate [] [v14] (.inl rfl) Try.underlying76 Try.underlying5 rfl rfl rfl o0_7 ?_)
            intro w18 o18 g18 l18
            replace i12 := i12.lift l18
            replace o14 := o14.other (Sc.stab _) g18 q15.symm l18
            have e19 := e16.grown g18 n0_7
            refine wl_nil ?_
            refine bk_n ?_
            refine W_th ?_
            refine W_reg (by kernel_rfl) ?_
            refine wla rfl rfl (q_addI rfl s17_7 rfl) ?_
            refine wla rfl rfl (q_move (v := (i64 ((wI (s6.2.2 + 1))))) rfl rfl) ?_
            refine wl_nil ?_
            obtain rfl := Option.some.inj H6
            exact ⟨_, rfl, v14, s1_7, s5_7, rfl, s15_7, s16_7, rfl, s68_7, e19, o18, n0_7, o14, n17, q15⟩
          · replace H6 := (if_neg (of_decide_eq_false hb11)).symm.trans H6
            refine W_skip ?_
            refine W_th ?_
            refine W_reg (by kernel_rfl) ?_
            refine wla rfl rfl (q_move (v := (mp g1)) rfl s5_7) ?_
            refine wla rfl rfl (q_move (v := (u8 c9)) rfl rfl) ?_
            refine wln rfl rfl (stp_mapUpdate [] [v6_7] (.inl rfl) Try.underlying76 Try.underlying5 rfl rfl rfl o0_7 ?_)
            intro w20 o20 g20 l20
            replace o1_7 := o1_7.other (Sc.stab _) g20 q0_1_7.symm l20
            have e21 := hE7.grown g20 n0_7
            refine wl_nil ?_
            refine bk_n ?_
            refine W_th ?_
            refine W_reg (by kernel_rfl) ?_
            refine wla rfl rfl (q_addI rfl s17_7 rfl) ?_
            refine wla rfl rfl (q_move (v := (i64 ((wI (s6.2.2 + 1))))) rfl rfl) ?_
            refine wl_nil ?_
            obtain rfl := Option.some.inj H6
            exact ⟨_, rfl, v6_7, s1_7, s5_7, s6_7, s15_7, s16_7, rfl, s68_7, e21, o20, n0_7, o1_7, n1_7, q0_1_7⟩
        · replace H6 := (if_neg (ne_true_of_eq_false hb10)).symm.trans H6
          refine wlk rfl rfl ?_
          refine wlk rfl rfl ?_
          refine wlk rfl rfl ?_
          refine wlk rfl rfl ?_
          refine wla rfl rfl (q_pick_f (v := (.bool false)) rfl rfl rfl) ?_
          refine wl_nil ?_
          refine W_th ?_
          refine W_cond false rfl rfl (fun hb => by cases hb) (fun _ => ?_)
          refine W_skip ?_
          refine W_th ?_
          refine W_reg (by kernel_rfl) ?_
          refine wla rfl rfl (q_move (v := (mp g1)) rfl s5_7) ?_
          refine wla rfl rfl (q_move (v := (u8 c9)) rfl rfl) ?_
          refine wln rfl rfl (stp_mapUpdate [] [v6_7] (.inl rfl) Try.underlying76 Try.underlying5 rfl rfl rfl o0_7 ?_)
          intro w22 o22 g22 l22
          replace o1_7 := o1_7.other (Sc.stab _) g22 q0_1_7.symm l22
          have e23 := hE7.grown g22 n0_7
          refine wl_nil ?_
          refine bk_n ?_
          refine W_th ?_
          refine W_reg (by kernel_rfl) ?_
          refine wla rfl rfl (q_addI rfl s17_7 rfl) ?_
          refine wla rfl rfl (q_move (v := (i64 ((wI (s6.2.2 + 1))))) rfl rfl) ?_
          refine wl_nil ?_
          obtain rfl := Option.some.inj H6
          exact ⟨_, rfl, v6_7, s1_7, s5_7, s6_7, s15_7, s16_7, rfl, s68_7, e23, o22, n0_7, o1_7, n1_7, q0_1_7⟩
      · replace H6 := (if_neg (of_decide_eq_false hb8)).symm.trans H6
        refine W_exit ?_
        refine th_x ?_
        obtain rfl := Option.some.inj H6
        obtain rfl := hr6 _ rfl
        refine th_x ?_
        refine bk_x ?_
        exact ⟨v6_7, s1_7, s6_7, s68_7, hE7, (o1_7.weak (Sc.stab _) (fun _ h => ⟨h.2.1, trivial⟩)), n1_7⟩
  · rintro _ w25 ⟨v6_25, s1_25, s6_25, s68_25, hE25, o0_25, n0_25⟩
    refine W_th ?_
    refine W_seq ?_
    refine W_seq ?_
    refine W_reg (by kernel_rfl) ?_
    refine wla rfl rfl (q_assign (v := (u8 1)) rfl (cst8 (1 : UInt8) rfl)) ?_
    refine wl_nil ?_
    refine W_th ?_
    obtain ⟨x26, G26, H⟩ := Option.bind_eq_some_iff.1 H
    refine W_mid (fun f w => ∃ v6_46 : Value, f 6 = v6_46 ∧ f 68 = undef ∧ Ext w0 w ∧ OwK (Sc u8) w [v6_46] 5 v6_46 x26 ∧ Nw w0 v6_46) ?_ ?_
    · refine W_block ?_
      refine W_loop (fun s26 f w => ∃ v6_44 : Value, f 1 = (i64 a1n) ∧ f 6 = v6_44 ∧ f 9 = (u8 s26.2) ∧ f 68 = undef ∧ Ext w0 w ∧ OwK (Sc u8) w [v6_44] 5 v6_44 s26.1 ∧ Nw w0 v6_44) G26 ?_ ?_
      · exact ⟨v6_25, s1_25, s6_25, rfl, s68_25, hE25, o0_25, n0_25⟩
      · rintro s26 _ _ w27 ⟨v6_27, s1_27, s6_27, s9_27, s68_27, hE27, o0_27, n0_27⟩ H26 hr26
        refine W_seq ?_
        refine W_seq ?_
        refine W_reg (by kernel_rfl) ?_
        refine wla rfl rfl (q_move (v := v6_27) rfl s6_27) ?_
        refine wla rfl rfl (q_len rfl T22.sl rfl (o0_27.rd (Sc.stab _))) ?_
        refine wla rfl rfl (q_move (v := (i64 a1n)) rfl s1_27) ?_
        refine wla rfl rfl (q_ltI rfl rfl rfl) ?_
        refine wlb rfl rfl (q_move (v := (.bool ((decide ((s26.1.length : Int) < a1n))))) rfl rfl) (fun hb28 => ?_) (fun hb28 => ?_)
        · replace H26 := (if_pos (of_decide_eq_true hb28)).symm.trans H26
          refine wla rfl rfl (q_move (v := (u8 s26.2)) rfl s9_27) ?_
          refine wla rfl rfl (q_gt8 rfl rfl (cst8 (0 : UInt8) rfl)) ?_
          refine wla rfl rfl (q_pick_t (v := (.bool ((decide ((0 : UInt8) < s26.2))))) rfl rfl rfl) ?_
          refine wl_nil ?_
          refine W_th ?_
          refine W_cond _ rfl rfl (fun hb29 => ?_) (fun hb29 => ?_)
          · replace H26 := (if_pos (of_decide_eq_true hb29)).symm.trans H26
            refine W_skip ?_
            refine W_th ?_
            refine W_seq ?_
            refine W_block ?_
            refine W_seq ?_
            refine W_reg (by kernel_rfl) ?_
            refine wla rfl rfl (q_assign (v := (.bool false)) rfl rfl) ?_
            refine wl_nil ?_
            refine W_th ?_
            refine W_seq ?_
            refine W_seq ?_
            refine W_reg (by kernel_rfl) ?_
            refine wla rfl rfl (q_move (v := v6_27) rfl s6_27) ?_
            refine wla rfl rfl (q_len rfl T22.sl rfl (o0_27.rd (Sc.stab _))) ?_
            refine wla rfl rfl (q_move (v := (i64 0)) rfl rfl) ?_
            refine wl_nil ?_
            refine W_th ?_
            obtain ⟨x30, G30, H26⟩ := Option.bind_eq_some_iff.1 H26
            refine W_mid (fun f w => f 1 = (i64 a1n) ∧ f 6 = v6_27 ∧ f 9 = (u8 s26.2) ∧ f 10 = (.bool x30) ∧ f 68 = undef ∧ Ext w0 w ∧ OwK (Sc u8) w [v6_27] 5 v6_27 s26.1 ∧ Nw w0 v6_27) ?_ ?_
            · refine W_block ?_
              refine W_loop (fun s30 f w => f 1 = (i64 a1n) ∧ f 6 = v6_27 ∧ f 9 = (u8 s26.2) ∧ f 10 = (.bool s30.1) ∧ f 48 = v6_27 ∧ f 49 = (i64 ((s26.1.length : Int))) ∧ f 50 = (i64 s30.2) ∧ f 68 = undef ∧ Ext w0 w ∧ OwK (Sc u8) w [v6_27] 5 v6_27 s26.1 ∧ Nw w0 v6_27) G30 ?_ ?_
              · exact ⟨s1_27, s6_27, s9_27, rfl, rfl, rfl, rfl, s68_27, hE27, o0_27, n0_27⟩
              · rintro s30 _ _ w31 ⟨s1_31, s6_31, s9_31, s10_31, s48_31, s49_31, s50_31, s68_31, hE31, o0_31, n0_31⟩ H30 hr30
                refine W_seq ?_
                refine W_reg (by kernel_rfl) ?_
                refine wla rfl rfl (q_ltI rfl s50_31 s49_31) ?_
                refine wl_nil ?_
                refine W_th ?_
                refine W_seq ?_
                refine W_cond _ rfl rfl (fun hb32 => ?_) (fun hb32 => ?_)
                · replace H30 := (if_pos (of_decide_eq_true hb32)).symm.trans H30
                  refine W_skip ?_
                  refine W_th ?_
                  refine W_seq ?_
                  refine W_block ?_
                  refine W_seq ?_
                  refine W_reg (by kernel_rfl) ?_
                  obtain ⟨c33, hc33, H30⟩ := Option.bind_eq_some_iff.1 H30
                  refine wla rfl rfl (q_adr rfl T22 s48_31 s50_31 (o0_31.rd (Sc.stab _)) hc33) ?_
                  refine wlq rfl rfl (q_loadS rfl T22 rfl (o0_31.rd (Sc.stab _)) hc33) ?_
                  refine wla rfl rfl (q_assign (v := (u8 c33)) rfl rfl) ?_
                  refine wl_nil ?_
                  refine W_th ?_
                  refine W_reg (by kernel_rfl) ?_
                  refine wla rfl rfl (q_move (v := (.bool s30.1)) rfl s10_31) ?_
                  refine wlb rfl rfl (q_move (v := (.bool s30.1)) rfl rfl) (fun hb34 => ?_) (fun hb34 => ?_)
                  · replace H30 := (if_pos hb34).symm.trans H30
                    refine wlk rfl rfl ?_
                    refine wlk rfl rfl ?_
                    refine wlk rfl rfl ?_
                    refine wla rfl rfl (q_pick_t (v := (.bool true)) rfl rfl rfl) ?_
                    refine wla rfl rfl (q_assign (v := (.bool true)) rfl rfl) ?_
                    refine wl_nil ?_
                    refine bk_n ?_
                    refine W_th ?_
                    refine W_reg (by kernel_rfl) ?_
                    refine wla rfl rfl (q_addI rfl s50_31 rfl) ?_
                    refine wla rfl rfl (q_move (v := (i64 ((wI (s30.2 + 1))))) rfl rfl) ?_
                    refine wl_nil ?_
                    obtain rfl := Option.some.inj H30
                    exact ⟨_, rfl, s1_31, s6_31, s9_31, rfl, s48_31, s49_31, rfl, s68_31, hE31, o0_31, n0_31⟩
                  · replace H30 := (if_neg (ne_true_of_eq_false hb34)).symm.trans H30
                    refine wla rfl rfl (q_move (v := (u8 s26.2)) rfl s9_31) ?_
                    refine wla rfl rfl (q_move (v := (u8 c33)) rfl rfl) ?_
                    refine wla rfl rfl (q_eq8 rfl rfl rfl) ?_
                    refine wla rfl rfl (q_pick_f (v := (.bool ((decide (s26.2 = c33))))) rfl rfl rfl) ?_
                    refine wla rfl rfl (q_assign (v := (.bool ((decide (s26.2 = c33))))) rfl rfl) ?_
                    refine wl_nil ?_
                    refine bk_n ?_
                    refine W_th ?_
                    refine W_reg (by kernel_rfl) ?_
                    refine wla rfl rfl (q_addI rfl s50_31 rfl) ?_
                    refine wla rfl rfl (q_move (v := (i64 ((wI (s30.2 + 1))))) rfl rfl) ?_
                    refine wl_nil ?_
                    obtain rfl := Option.some.inj H30
                    exact ⟨_, rfl, s1_31, s6_31, s9_31, rfl, s48_31, s49_31, rfl, s68_31, hE31, o0_31, n0_31⟩
                · replace H30 := (if_neg (of_decide_eq_false hb32)).symm.trans H30
                  refine W_exit ?_
                  refine th_x ?_
                  obtain rfl := Option.some.inj H30
                  obtain rfl := hr30 _ rfl
                  refine th_x ?_
                  refine bk_x ?_
                  exact ⟨s1_31, s6_31, s9_31, s10_31, s68_31, hE31, o0_31, n0_31⟩
            · rintro _ w36 ⟨s1_36, s6_36, s9_36, s10_36, s68_36, hE36, o0_36, n0_36⟩
              refine W_th ?_
              refine W_seq ?_
              refine W_reg (by kernel_rfl) ?_
              refine wla rfl rfl (q_move (v := (.bool x30)) rfl s10_36) ?_
              refine wla rfl rfl (q_not rfl rfl) ?_
              refine wl_nil ?_
              refine W_th ?_
              refine W_cond _ rfl rfl (fun hb37 => ?_) (fun hb37 => ?_)
              · replace H26 := (if_pos hb37).symm.trans H26
                refine W_reg (by kernel_rfl) ?_
                refine wla rfl rfl (q_move (v := v6_27) rfl s6_36) ?_
                refine wla rfl rfl (q_move (v := (u8 s26.2)) rfl s9_36) ?_
                refine wls rfl rfl (stp_lit (L := [v6_27]) (R := (Sc u8)) [(u8 s26.2)] ([s26.2] : List UInt8) rfl T22 rfl (by exact ⟨rfl, rfl, trivial⟩) rfl (litC u8 (oneC_u8) (us := [(u8 s26.2)]) (l := ([s26.2] : List UInt8)) rfl) rfl (litS u8 (us := [(u8 s26.2)]) (l := ([s26.2] : List UInt8)) rfl) ?_)
                intro v38 w38 o38 n38 g38 l38
                have x38 := grown_ext g38
                have i38 : By w38 [v6_27] v38 (([s26.2] : List UInt8)) := OwK.slk (Sc.stab _) _ o38 (fun k hk => (Old.cons (Old.nil _) o0_36.lt) k (n38 k hk)) (fun _ h => h.2)
                replace o0_36 := o0_36.extL (Sc.stab _) x38 (Lift.ext x38 _)
                have e39 := hE36.trans x38
                obtain ⟨c40, hc40, H26⟩ := Option.bind_eq_some_iff.1 H26
                refine wls rfl rfl (stp_append (R := (Sc u8)) (v := v6_27) (u := v38) (Sc.stab _) [] [] rfl T22 rfl rfl o0_36 i38 (fun _ _ h => h) hc40 oc_u8 ?_)
                intro v40 w40 o40 g40 nx40 l40
                replace i38 := i38.lift l40
                have e41 := e39.grown g40 n0_36
                have n42 := Nw.nxt e39 n0_36 nx40
                refine wla rfl rfl (q_assign (v := v40) rfl rfl) ?_
                refine wl_nil ?_
                refine bk_n ?_
                refine W_th ?_
                refine W_reg (by kernel_rfl) ?_
                refine wla rfl rfl (q_move (v := (u8 s26.2)) rfl s9_36) ?_
                refine wla rfl rfl (q_add8 rfl rfl (cst8 (1 : UInt8) rfl)) ?_
                refine wla rfl rfl (q_assign (v := (u8 ((s26.2 + (1 : UInt8))))) rfl rfl) ?_
                refine wl_nil ?_
                obtain rfl := Option.some.inj H26
                exact ⟨_, rfl, v40, s1_36, rfl, rfl, s68_36, e41, o40, n42⟩
              · replace H26 := (if_neg (ne_true_of_eq_false hb37)).symm.trans H26
                refine W_skip ?_
                refine bk_n ?_
                refine W_th ?_
                refine W_reg (by kernel_rfl) ?_
                refine wla rfl rfl (q_move (v := (u8 s26.2)) rfl s9_36) ?_
                refine wla rfl rfl (q_add8 rfl rfl (cst8 (1 : UInt8) rfl)) ?_
                refine wla rfl rfl (q_assign (v := (u8 ((s26.2 + (1 : UInt8))))) rfl rfl) ?_
                refine wl_nil ?_
                obtain rfl := Option.some.inj H26
                exact ⟨_, rfl, v6_27, s1_36, s6_36, rfl, s68_36, hE36, o0_36, n0_36⟩
          · replace H26 := (if_neg (of_decide_eq_false hb29)).symm.trans H26
            refine W_exit ?_
            refine th_x ?_
            obtain rfl := Option.some.inj H26
            obtain rfl := hr26 _ rfl
            refine th_x ?_
            refine bk_x ?_
            exact ⟨v6_27, s6_27, s68_27, hE27, o0_27, n0_27⟩
        · replace H26 := (if_neg (of_decide_eq_false hb28)).symm.trans H26
          refine wlk rfl rfl ?_
          refine wlk rfl rfl ?_
          refine wla rfl rfl (q_pick_f (v := (.bool false)) rfl rfl rfl) ?_
          refine wl_nil ?_
          refine W_th ?_
          refine W_cond false rfl rfl (fun hb => by cases hb) (fun _ => ?_)
          refine W_exit ?_
          refine th_x ?_
          obtain rfl := Option.some.inj H26
          obtain rfl := hr26 _ rfl
          refine th_x ?_
          refine bk_x ?_
          exact ⟨v6_27, s6_27, s68_27, hE27, o0_27, n0_27⟩
    · rintro _ w45 ⟨v6_45, s6_45, s68_45, hE45, o0_45, n0_45⟩
      refine W_th ?_
      refine W_seq ?_
      refine W_reg (by kernel_rfl) ?_
      refine wla rfl rfl (q_move (v := v6_45) rfl s6_45) ?_
      refine wla rfl rfl (q_assign (v := v6_45) rfl rfl) ?_
      refine wl_nil ?_
      refine W_th ?_
      refine W_ret ?_
      obtain rfl := Option.some.inj H
      refine rt1 v6_45 rfl rfl rfl s68_45 ?_
      exact ⟨v6_45, rfl, hE45, n0_45, (o0_45.weak (Sc.stab _) (fun _ _ => trivial))⟩

end Gk

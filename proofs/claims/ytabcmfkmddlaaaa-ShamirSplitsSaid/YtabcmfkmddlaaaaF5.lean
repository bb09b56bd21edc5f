/- Printed by gen.py: for each Go function a pure function, and that the Go code comes to it. No condition beside the equation that says what the pure function gives. -/
import Derived.Test.YtabcmfkmddlaaaaF3
import Derived.Test.YtabcmfkmddlaaaaGm
set_option linter.unusedVariables false
set_option linter.unusedSimpArgs false
namespace Gk
open Go Go.Proofs

/-! largesse/poly.check -/
noncomputable def poly_check (a0f : Bool) (a1xs : List UInt8) : Option Int :=
((iterC (fun s4 : (List (UInt8 × Bool)) × Int =>
(if s4.2 < (a1xs.length : Int) then
((idx a1xs s4.2).bind fun c7 => some (.inl ((mput s4.1 c7 true), (wI (s4.2 + 1)))))
else some (.inr s4.1))) (([] : List (UInt8 × Bool)), 0)).bind fun x4 =>
(if (!a0f) = true then some 1
else
(if (a1xs.length : Int) = 0 then some 5
else
(if 255 < (a1xs.length : Int) then some 4
else
(if (x4.length : Int) = (a1xs.length : Int) then some 0
else some 6)))))
set_option maxRecDepth 100000 in
set_option maxHeartbeats 8000000 in
theorem poly_check_calls (a0f : Bool) (a1xs : List UInt8) (p0 : Value) (p1 : Value) (r : Int) (w0 : World) (hp0 : Fd w0 [] p0 a0f) (hp1 : By w0 [] p1 a1xs) (H : poly_check a0f a1xs = some r) :
    Calls Try.prog 52 [p0, p1].toArray w0 (fun e w' => e = .returned (i64 r) ∧ Ext w0 w') := by
  have hE : Ext w0 w0 := Ext.refl w0
  unfold poly_check at H
  refine calls_W (n := 35) Try.func52 rfl rfl rfl ?_
  refine W_seq ?_
  refine W_reg (by kernel_rfl) ?_
  refine wla rfl rfl (q_assign (v := (i64 0)) rfl rfl) ?_
  refine wl_nil ?_
  refine W_th ?_
  refine W_seq ?_
  refine W_reg (by kernel_rfl) ?_
  refine wls rfl rfl (stp_makeMap [] rfl ?_)
  intro g1 w1 o1 n1 g1r l1
  have x1 := grown_ext g1r
  have n3 := Nw.ext hE n1
  have e2 := hE.trans x1
  refine wla rfl rfl (q_assign (v := (mp g1)) rfl rfl) ?_
  refine wl_nil ?_
  refine W_th ?_
  refine W_seq ?_
  refine W_seq ?_
  refine W_reg (by kernel_rfl) ?_
  refine wla rfl rfl (q_move (v := p1) rfl rfl) ?_
  refine wla rfl rfl (q_len rfl T22.sl rfl (hp1.lift (Lift.ext e2 _))) ?_
  refine wla rfl rfl (q_move (v := (i64 0)) rfl rfl) ?_
  refine wl_nil ?_
  refine W_th ?_
  obtain ⟨x4, G4, H⟩ := Option.bind_eq_some_iff.1 H
  refine W_mid (fun f w => f 0 = p0 ∧ f 1 = p1 ∧ f 5 = (mp g1) ∧ f 35 = undef ∧ Ext w0 w ∧ Mp w g1 x4 ∧ Nw w0 (mp g1)) ?_ ?_
  · refine W_block ?_
    refine W_loop (fun s4 f w => f 0 = p0 ∧ f 1 = p1 ∧ f 5 = (mp g1) ∧ f 9 = p1 ∧ f 10 = (i64 ((a1xs.length : Int))) ∧ f 11 = (i64 s4.2) ∧ f 35 = undef ∧ Ext w0 w ∧ Mp w g1 s4.1 ∧ Nw w0 (mp g1)) G4 ?_ ?_
    · exact ⟨rfl, rfl, rfl, rfl, rfl, rfl, rfl, e2, o1, n3⟩
    · rintro s4 _ _ w5 ⟨s0_5, s1_5, s5_5, s9_5, s10_5, s11_5, s35_5, hE5, o0_5, n0_5⟩ H4 hr4
      refine W_seq ?_
      refine W_reg (by kernel_rfl) ?_
      refine wla rfl rfl (q_ltI rfl s11_5 s10_5) ?_
      refine wl_nil ?_
      refine W_th ?_
      refine W_seq ?_
      refine W_cond _ rfl rfl (fun hb6 => ?_) (fun hb6 => ?_)
      · replace H4 := (if_pos (of_decide_eq_true hb6)).symm.trans H4
        refine W_skip ?_
        refine W_th ?_
        refine W_seq ?_
        refine W_block ?_
        refine W_seq ?_
        refine W_reg (by kernel_rfl) ?_
        obtain ⟨c7, hc7, H4⟩ := Option.bind_eq_some_iff.1 H4
        refine wla rfl rfl (q_adr rfl T22 s9_5 s11_5 (hp1.lift (Lift.ext hE5 _)) hc7) ?_
        refine wlq rfl rfl (q_loadS rfl T22 rfl (hp1.lift (Lift.ext hE5 _)) hc7) ?_
        refine wla rfl rfl (q_assign (v := (u8 c7)) rfl rfl) ?_
        refine wl_nil ?_
        refine W_th ?_
        refine W_reg (by kernel_rfl) ?_
        refine wla rfl rfl (q_move (v := (mp g1)) rfl s5_5) ?_
        refine wla rfl rfl (q_move (v := (u8 c7)) rfl rfl) ?_
        refine wln rfl rfl (stp_mapUpdate [] [] (.inl rfl) Try.underlying76 Try.underlying5 rfl rfl rfl o0_5 ?_)
        intro w8 o8 g8 l8
        have e9 := hE5.grown g8 n0_5
        refine wl_nil ?_
        refine bk_n ?_
        refine W_th ?_
        refine W_reg (by kernel_rfl) ?_
        refine wla rfl rfl (q_addI rfl s11_5 rfl) ?_
        refine wla rfl rfl (q_move (v := (i64 ((wI (s4.2 + 1))))) rfl rfl) ?_
        refine wl_nil ?_
        obtain rfl := Option.some.inj H4
        exact ⟨_, rfl, s0_5, s1_5, s5_5, s9_5, s10_5, rfl, s35_5, e9, o8, n0_5⟩
      · replace H4 := (if_neg (of_decide_eq_false hb6)).symm.trans H4
        refine W_exit ?_
        refine th_x ?_
        obtain rfl := Option.some.inj H4
        obtain rfl := hr4 _ rfl
        refine th_x ?_
        refine bk_x ?_
        exact ⟨s0_5, s1_5, s5_5, s35_5, hE5, o0_5, n0_5⟩
  · rintro _ w11 ⟨s0_11, s1_11, s5_11, s35_11, hE11, o0_11, n0_11⟩
    refine W_th ?_
    refine W_seq ?_
    refine W_block ?_
    refine W_seq ?_
    refine W_reg (by kernel_rfl) ?_
    refine wla rfl rfl (q_move (v := p0) rfl s0_11) ?_
    refine wla rfl rfl (q_eqF rfl rfl rfl rfl (hp0.lift (Lift.ext hE11 _))) ?_
    refine wla rfl rfl (q_assign (v := (.bool ((!a0f)))) rfl rfl) ?_
    refine wl_nil ?_
    refine W_th ?_
    refine W_cond _ rfl rfl (fun hb12 => ?_) (fun hb12 => ?_)
    · replace H := (if_pos hb12).symm.trans H
      refine W_seq ?_
      refine W_reg (by kernel_rfl) ?_
      refine wla rfl rfl (q_assign (v := (i64 1)) rfl rfl) ?_
      refine wl_nil ?_
      refine W_th ?_
      refine W_ret ?_
      refine bk_r ?_
      refine th_r ?_
      obtain rfl := Option.some.inj H
      refine rt1 (i64 1) rfl rfl rfl s35_11 ?_
      exact ⟨rfl, hE11⟩
    · replace H := (if_neg (ne_true_of_eq_false hb12)).symm.trans H
      refine W_seq ?_
      refine W_reg (by kernel_rfl) ?_
      refine wla rfl rfl (q_move (v := p1) rfl s1_11) ?_
      refine wla rfl rfl (q_len rfl T22.sl rfl (hp1.lift (Lift.ext hE11 _))) ?_
      refine wla rfl rfl (q_eqI rfl rfl rfl) ?_
      refine wla rfl rfl (q_assign (v := (.bool ((decide ((a1xs.length : Int) = 0))))) rfl rfl) ?_
      refine wl_nil ?_
      refine W_th ?_
      refine W_cond _ rfl rfl (fun hb13 => ?_) (fun hb13 => ?_)
      · replace H := (if_pos (of_decide_eq_true hb13)).symm.trans H
        refine W_seq ?_
        refine W_reg (by kernel_rfl) ?_
        refine wla rfl rfl (q_assign (v := (i64 5)) rfl rfl) ?_
        refine wl_nil ?_
        refine W_th ?_
        refine W_ret ?_
        refine bk_r ?_
        refine th_r ?_
        obtain rfl := Option.some.inj H
        refine rt1 (i64 5) rfl rfl rfl s35_11 ?_
        exact ⟨rfl, hE11⟩
      · replace H := (if_neg (of_decide_eq_false hb13)).symm.trans H
        refine W_seq ?_
        refine W_reg (by kernel_rfl) ?_
        refine wla rfl rfl (q_move (v := p1) rfl s1_11) ?_
        refine wla rfl rfl (q_len rfl T22.sl rfl (hp1.lift (Lift.ext hE11 _))) ?_
        refine wla rfl rfl (q_gtI rfl rfl rfl) ?_
        refine wla rfl rfl (q_assign (v := (.bool ((decide (255 < (a1xs.length : Int)))))) rfl rfl) ?_
        refine wl_nil ?_
        refine W_th ?_
        refine W_cond _ rfl rfl (fun hb14 => ?_) (fun hb14 => ?_)
        · replace H := (if_pos (of_decide_eq_true hb14)).symm.trans H
          refine W_seq ?_
          refine W_reg (by kernel_rfl) ?_
          refine wla rfl rfl (q_assign (v := (i64 4)) rfl rfl) ?_
          refine wl_nil ?_
          refine W_th ?_
          refine W_ret ?_
          refine bk_r ?_
          refine th_r ?_
          obtain rfl := Option.some.inj H
          refine rt1 (i64 4) rfl rfl rfl s35_11 ?_
          exact ⟨rfl, hE11⟩
        · replace H := (if_neg (of_decide_eq_false hb14)).symm.trans H
          refine W_seq ?_
          refine W_reg (by kernel_rfl) ?_
          refine wla rfl rfl (q_move (v := (mp g1)) rfl s5_11) ?_
          refine wlq rfl rfl (q_lenMap rfl Try.underlying76 rfl o0_11) ?_
          refine wla rfl rfl (q_move (v := p1) rfl s1_11) ?_
          refine wla rfl rfl (q_len rfl T22.sl rfl (hp1.lift (Lift.ext hE11 _))) ?_
          refine wla rfl rfl (q_neI rfl rfl rfl) ?_
          refine wla rfl rfl (q_assign (v := (.bool ((!decide ((x4.length : Int) = (a1xs.length : Int)))))) rfl rfl) ?_
          refine wl_nil ?_
          refine W_th ?_
          refine W_cond _ rfl rfl (fun hb15 => ?_) (fun hb15 => ?_)
          · replace H := (if_neg (ndec_t hb15)).symm.trans H
            refine W_seq ?_
            refine W_reg (by kernel_rfl) ?_
            refine wla rfl rfl (q_assign (v := (i64 6)) rfl rfl) ?_
            refine wl_nil ?_
            refine W_th ?_
            refine W_ret ?_
            refine bk_r ?_
            refine th_r ?_
            obtain rfl := Option.some.inj H
            refine rt1 (i64 6) rfl rfl rfl s35_11 ?_
            exact ⟨rfl, hE11⟩
          · replace H := (if_pos (ndec_f hb15)).symm.trans H
            refine W_skip ?_
            refine bk_n ?_
            refine W_th ?_
            refine W_seq ?_
            refine W_reg (by kernel_rfl) ?_
            refine wla rfl rfl (q_assign (v := (i64 0)) rfl rfl) ?_
            refine wl_nil ?_
            refine W_th ?_
            refine W_ret ?_
            obtain rfl := Option.some.inj H
            refine rt1 (i64 0) rfl rfl rfl s35_11 ?_
            exact ⟨rfl, hE11⟩

/-! largesse/poly.Weights -/
noncomputable def poly_Weights (a0f : Bool) (a1xs : List UInt8) (a2x : UInt8) : Option (List UInt8 × Int) :=
((poly_check a0f a1xs).bind fun r1 =>
(if r1 = 0 then
((makeL ((a1xs.length : Int)) (0 : UInt8)).bind fun c4 =>
((iterC (fun s7 : List UInt8 × Int =>
(if s7.2 < (a1xs.length : Int) then
((idx a1xs s7.2).bind fun c10 =>
((iterC (fun s11 : UInt8 × UInt8 × Int =>
(if s11.2.2 < (a1xs.length : Int) then
((idx a1xs s11.2.2).bind fun c14 =>
(if s11.2.2 = s7.2 then some (.inl (s11.1, s11.2.1, (wI (s11.2.2 + 1))))
else
((field_Add a2x c14).bind fun r16 =>
((field_Mul a0f s11.1 r16).bind fun r18 =>
((field_Add c10 c14).bind fun r20 =>
((field_Mul a0f s11.2.1 r20).bind fun r22 => some (.inl (r18, r22, (wI (s11.2.2 + 1))))))))))
else some (.inr (s11.1, s11.2.1)))) ((1 : UInt8), (1 : UInt8), 0)).bind fun x11 =>
((field_Div a0f x11.1 x11.2).bind fun r26 =>
((idx s7.1 s7.2).bind fun c28 => some (.inl ((s7.1.set (s7.2 : Int).toNat r26.1), (wI (s7.2 + 1))))))))
else some (.inr s7.1))) (c4, 0)).bind fun x7 => some (x7, 0)))
else some (([] : List UInt8), r1)))
set_option maxRecDepth 100000 in
set_option maxHeartbeats 8000000 in
theorem poly_Weights_calls (a0f : Bool) (a1xs : List UInt8) (a2x : UInt8) (p0 : Value) (p1 : Value) (r : List UInt8 × Int) (w0 : World) (hp0 : Fd w0 [] p0 a0f) (hp1 : By w0 [] p1 a1xs) (H : poly_Weights a0f a1xs a2x = some r) :
    Calls Try.prog 27 [p0, p1, (u8 a2x)].toArray w0 (fun e w' => ∃ u0 : Value, e = .returned (.tuple #[u0, (i64 r.2)]) ∧ Ext w0 w' ∧ Nw w0 u0 ∧ OwK (Sc u8) w' [] 5 u0 r.1) := by
  have hE : Ext w0 w0 := Ext.refl w0
  unfold poly_Weights at H
  refine calls_W (n := 67) Try.func27 rfl rfl rfl ?_
  refine W_seq ?_
  refine W_reg (by kernel_rfl) ?_
  refine wla rfl rfl (q_assign (v := (.slice none 0 0)) rfl rfl) ?_
  refine wla rfl rfl (q_assign (v := (i64 0)) rfl rfl) ?_
  refine wl_nil ?_
  refine W_th ?_
  refine W_seq ?_
  refine W_seq ?_
  refine W_reg (by kernel_rfl) ?_
  refine wla rfl rfl (q_move (v := p0) rfl rfl) ?_
  refine wla rfl rfl (q_move (v := p1) rfl rfl) ?_
  obtain ⟨r1, hr1, H⟩ := Option.bind_eq_some_iff.1 H
  refine wls rfl rfl (stp_call (vs := [p0, p1]) Try.func52 rfl rfl rfl (ar2 rfl rfl) (poly_check_calls a0f a1xs p0 p1 r1 _ (hp0.lift (Lift.ext hE _)) (hp1.lift (Lift.ext hE _)) hr1) ?_)
  rintro _ w1 ⟨rfl, x1⟩
  refine ⟨_, rfl, ?_⟩
  have e2 := hE.trans x1
  refine wla rfl rfl (q_assign (v := (i64 r1)) rfl rfl) ?_
  refine wl_nil ?_
  refine W_th ?_
  refine W_seq ?_
  refine W_reg (by kernel_rfl) ?_
  refine wla rfl rfl (q_move (v := (i64 r1)) rfl rfl) ?_
  refine wla rfl rfl (q_neI rfl rfl rfl) ?_
  refine wl_nil ?_
  refine W_th ?_
  refine W_cond _ rfl rfl (fun hb3 => ?_) (fun hb3 => ?_)
  · replace H := (if_neg (ndec_t hb3)).symm.trans H
    refine W_seq ?_
    refine W_reg (by kernel_rfl) ?_
    refine wla rfl rfl (q_move (v := (i64 r1)) rfl rfl) ?_
    refine wla rfl rfl (q_assign (v := (.slice none 0 0)) rfl rfl) ?_
    refine wla rfl rfl (q_assign (v := (i64 r1)) rfl rfl) ?_
    refine wl_nil ?_
    refine W_th ?_
    refine W_ret ?_
    refine th_r ?_
    obtain rfl := Option.some.inj H
    refine rt2 (.slice none 0 0) (i64 r1) rfl rfl rfl rfl rfl rfl ?_
    exact ⟨(.slice none 0 0), rfl, e2, Nw.nil _, (OwK.nil _ _ _ _)⟩
  · replace H := (if_pos (ndec_f hb3)).symm.trans H
    refine W_skip ?_
    refine W_th ?_
    refine W_seq ?_
    refine W_reg (by kernel_rfl) ?_
    refine wla rfl rfl (q_move (v := p1) rfl rfl) ?_
    refine wla rfl rfl (q_len rfl T22.sl rfl (hp1.lift (Lift.ext e2 _))) ?_
    obtain ⟨c4, hc4, H⟩ := Option.bind_eq_some_iff.1 H
    refine wls rfl rfl (stp_make (L := []) (R := (Sc u8)) rfl T22 rfl rfl hc4 (fun _ _ => rfl) ?_)
    intro v4 w4 o4 n4 g4 l4
    have x4 := grown_ext g4
    have n6 := Nw.ext e2 n4
    have e5 := e2.trans x4
    refine wla rfl rfl (q_assign (v := v4) rfl rfl) ?_
    refine wl_nil ?_
    refine W_th ?_
    refine W_seq ?_
    refine W_seq ?_
    refine W_reg (by kernel_rfl) ?_
    refine wla rfl rfl (q_move (v := p1) rfl rfl) ?_
    refine wla rfl rfl (q_len rfl T22.sl rfl (hp1.lift (Lift.ext e5 _))) ?_
    refine wla rfl rfl (q_move (v := (i64 0)) rfl rfl) ?_
    refine wl_nil ?_
    refine W_th ?_
    obtain ⟨x7, G7, H⟩ := Option.bind_eq_some_iff.1 H
    refine W_mid (fun f w => f 9 = v4 ∧ f 67 = undef ∧ Ext w0 w ∧ OwK (Sc u8) w [v4] 5 v4 x7 ∧ Nw w0 v4) ?_ ?_
    · refine W_block ?_
      refine W_loop (fun s7 f w => f 0 = p0 ∧ f 1 = p1 ∧ f 2 = (u8 a2x) ∧ f 9 = v4 ∧ f 25 = p1 ∧ f 26 = (i64 ((a1xs.length : Int))) ∧ f 27 = (i64 s7.2) ∧ f 67 = undef ∧ Ext w0 w ∧ OwK (Sc u8) w [v4] 5 v4 s7.1 ∧ Nw w0 v4) G7 ?_ ?_
      · exact ⟨rfl, rfl, rfl, rfl, rfl, rfl, rfl, rfl, e5, o4, n6⟩
      · rintro s7 _ _ w8 ⟨s0_8, s1_8, s2_8, s9_8, s25_8, s26_8, s27_8, s67_8, hE8, o0_8, n0_8⟩ H7 hr7
        refine W_seq ?_
        refine W_reg (by kernel_rfl) ?_
        refine wla rfl rfl (q_ltI rfl s27_8 s26_8) ?_
        refine wl_nil ?_
        refine W_th ?_
        refine W_seq ?_
        refine W_cond _ rfl rfl (fun hb9 => ?_) (fun hb9 => ?_)
        · replace H7 := (if_pos (of_decide_eq_true hb9)).symm.trans H7
          refine W_skip ?_
          refine W_th ?_
          refine W_seq ?_
          refine W_block ?_
          refine W_seq ?_
          refine W_reg (by kernel_rfl) ?_
          refine wla rfl rfl (q_move (v := (i64 s7.2)) rfl s27_8) ?_
          obtain ⟨c10, hc10, H7⟩ := Option.bind_eq_some_iff.1 H7
          refine wla rfl rfl (q_adr rfl T22 s25_8 s27_8 (hp1.lift (Lift.ext hE8 _)) hc10) ?_
          refine wlq rfl rfl (q_loadS rfl T22 rfl (hp1.lift (Lift.ext hE8 _)) hc10) ?_
          refine wla rfl rfl (q_assign (v := (i64 s7.2)) rfl rfl) ?_
          refine wla rfl rfl (q_assign (v := (u8 c10)) rfl rfl) ?_
          refine wl_nil ?_
          refine W_th ?_
          refine W_seq ?_
          refine W_reg (by kernel_rfl) ?_
          refine wla rfl rfl (q_assign (v := (u8 1)) rfl (cst8 (1 : UInt8) rfl)) ?_
          refine wla rfl rfl (q_assign (v := (u8 1)) rfl (cst8 (1 : UInt8) rfl)) ?_
          refine wl_nil ?_
          refine W_th ?_
          refine W_seq ?_
          refine W_seq ?_
          refine W_reg (by kernel_rfl) ?_
          refine wla rfl rfl (q_move (v := p1) rfl s1_8) ?_
          refine wla rfl rfl (q_len rfl T22.sl rfl (hp1.lift (Lift.ext hE8 _))) ?_
          refine wla rfl rfl (q_move (v := (i64 0)) rfl rfl) ?_
          refine wl_nil ?_
          refine W_th ?_
          obtain ⟨x11, G11, H7⟩ := Option.bind_eq_some_iff.1 H7
          refine W_mid (fun f w => f 0 = p0 ∧ f 1 = p1 ∧ f 2 = (u8 a2x) ∧ f 9 = v4 ∧ f 10 = (i64 s7.2) ∧ f 12 = (u8 x11.1) ∧ f 13 = (u8 x11.2) ∧ f 25 = p1 ∧ f 26 = (i64 ((a1xs.length : Int))) ∧ f 27 = (i64 s7.2) ∧ f 67 = undef ∧ Ext w0 w ∧ OwK (Sc u8) w [v4] 5 v4 s7.1 ∧ Nw w0 v4) ?_ ?_
          · refine W_block ?_
            refine W_loop (fun s11 f w => f 0 = p0 ∧ f 1 = p1 ∧ f 2 = (u8 a2x) ∧ f 9 = v4 ∧ f 10 = (i64 s7.2) ∧ f 11 = (u8 c10) ∧ f 12 = (u8 s11.1) ∧ f 13 = (u8 s11.2.1) ∧ f 25 = p1 ∧ f 26 = (i64 ((a1xs.length : Int))) ∧ f 27 = (i64 s7.2) ∧ f 32 = p1 ∧ f 33 = (i64 ((a1xs.length : Int))) ∧ f 34 = (i64 s11.2.2) ∧ f 67 = undef ∧ Ext w0 w ∧ OwK (Sc u8) w [v4] 5 v4 s7.1 ∧ Nw w0 v4) G11 ?_ ?_
            · exact ⟨s0_8, s1_8, s2_8, s9_8, rfl, rfl, rfl, rfl, s25_8, s26_8, s27_8, rfl, rfl, rfl, s67_8, hE8, o0_8, n0_8⟩
            · rintro s11 _ _ w12 ⟨s0_12, s1_12, s2_12, s9_12, s10_12, s11_12, s12_12, s13_12, s25_12, s26_12, s27_12, s32_12, s33_12, s34_12, s67_12, hE12, o0_12, n0_12⟩ H11 hr11
              refine W_seq ?_
              refine W_reg (by kernel_rfl) ?_
              refine wla rfl rfl (q_ltI rfl s34_12 s33_12) ?_
              refine wl_nil ?_
              refine W_th ?_
              refine W_seq ?_
              refine W_cond _ rfl rfl (fun hb13 => ?_) (fun hb13 => ?_)
              · replace H11 := (if_pos (of_decide_eq_true hb13)).symm.trans H11
                refine W_skip ?_
                refine W_th ?_
                refine W_seq ?_
                refine W_block ?_
                refine W_seq ?_
                refine W_reg (by kernel_rfl) ?_
                refine wla rfl rfl (q_move (v := (i64 s11.2.2)) rfl s34_12) ?_
                obtain ⟨c14, hc14, H11⟩ := Option.bind_eq_some_iff.1 H11
                refine wla rfl rfl (q_adr rfl T22 s32_12 s34_12 (hp1.lift (Lift.ext hE12 _)) hc14) ?_
                refine wlq rfl rfl (q_loadS rfl T22 rfl (hp1.lift (Lift.ext hE12 _)) hc14) ?_
                refine wla rfl rfl (q_assign (v := (i64 s11.2.2)) rfl rfl) ?_
                refine wla rfl rfl (q_assign (v := (u8 c14)) rfl rfl) ?_
                refine wl_nil ?_
                refine W_th ?_
                refine W_seq ?_
                refine W_reg (by kernel_rfl) ?_
                refine wla rfl rfl (q_move (v := (i64 s11.2.2)) rfl rfl) ?_
                refine wla rfl rfl (q_move (v := (i64 s7.2)) rfl s10_12) ?_
                refine wla rfl rfl (q_neI rfl rfl rfl) ?_
                refine wl_nil ?_
                refine W_th ?_
                refine W_cond _ rfl rfl (fun hb15 => ?_) (fun hb15 => ?_)
                · replace H11 := (if_neg (ndec_t hb15)).symm.trans H11
                  refine W_reg (by kernel_rfl) ?_
                  refine wla rfl rfl (q_move (v := p0) rfl s0_12) ?_
                  refine wla rfl rfl (q_move (v := (u8 s11.1)) rfl s12_12) ?_
                  refine wla rfl rfl (q_move (v := (u8 a2x)) rfl s2_12) ?_
                  refine wla rfl rfl (q_move (v := (u8 c14)) rfl rfl) ?_
                  obtain ⟨r16, hr16, H11⟩ := Option.bind_eq_some_iff.1 H11
                  refine wls rfl rfl (stp_call (vs := [(u8 a2x), (u8 c14)]) Try.func53 rfl rfl rfl (ar2 rfl rfl) (field_Add_calls a2x c14  r16 _  hr16) ?_)
                  rintro _ w16 ⟨rfl, x16⟩
                  refine ⟨_, rfl, ?_⟩
                  replace o0_12 := o0_12.extL (Sc.stab _) x16 (Lift.ext x16 _)
                  have e17 := hE12.trans x16
                  obtain ⟨r18, hr18, H11⟩ := Option.bind_eq_some_iff.1 H11
                  refine wls rfl rfl (stp_call (vs := [p0, (u8 s11.1), (u8 r16)]) Try.func29 rfl rfl rfl (ar3 rfl rfl rfl) (field_Mul_calls a0f s11.1 r16 p0 r18 _ (hp0.lift (Lift.ext e17 _)) hr18) ?_)
                  rintro _ w18 ⟨rfl, x18⟩
                  refine ⟨_, rfl, ?_⟩
                  replace o0_12 := o0_12.extL (Sc.stab _) x18 (Lift.ext x18 _)
                  have e19 := e17.trans x18
                  refine wla rfl rfl (q_move (v := p0) rfl s0_12) ?_
                  refine wla rfl rfl (q_move (v := (u8 s11.2.1)) rfl s13_12) ?_
                  refine wla rfl rfl (q_move (v := (u8 c10)) rfl s11_12) ?_
                  refine wla rfl rfl (q_move (v := (u8 c14)) rfl rfl) ?_
                  obtain ⟨r20, hr20, H11⟩ := Option.bind_eq_some_iff.1 H11
                  refine wls rfl rfl (stp_call (vs := [(u8 c10), (u8 c14)]) Try.func53 rfl rfl rfl (ar2 rfl rfl) (field_Add_calls c10 c14  r20 _  hr20) ?_)
                  rintro _ w20 ⟨rfl, x20⟩
                  refine ⟨_, rfl, ?_⟩
                  replace o0_12 := o0_12.extL (Sc.stab _) x20 (Lift.ext x20 _)
                  have e21 := e19.trans x20
                  obtain ⟨r22, hr22, H11⟩ := Option.bind_eq_some_iff.1 H11
                  refine wls rfl rfl (stp_call (vs := [p0, (u8 s11.2.1), (u8 r20)]) Try.func29 rfl rfl rfl (ar3 rfl rfl rfl) (field_Mul_calls a0f s11.2.1 r20 p0 r22 _ (hp0.lift (Lift.ext e21 _)) hr22) ?_)
                  rintro _ w22 ⟨rfl, x22⟩
                  refine ⟨_, rfl, ?_⟩
                  replace o0_12 := o0_12.extL (Sc.stab _) x22 (Lift.ext x22 _)
                  have e23 := e21.trans x22
                  refine wla rfl rfl (q_assign (v := (u8 r18)) rfl rfl) ?_
                  refine wla rfl rfl (q_assign (v := (u8 r22)) rfl rfl) ?_
                  refine wl_nil ?_
                  refine bk_n ?_
                  refine W_th ?_
                  refine W_reg (by kernel_rfl) ?_
                  refine wla rfl rfl (q_addI rfl s34_12 rfl) ?_
                  refine wla rfl rfl (q_move (v := (i64 ((wI (s11.2.2 + 1))))) rfl rfl) ?_
                  refine wl_nil ?_
                  obtain rfl := Option.some.inj H11
                  exact ⟨_, rfl, s0_12, s1_12, s2_12, s9_12, s10_12, s11_12, rfl, rfl, s25_12, s26_12, s27_12, s32_12, s33_12, rfl, s67_12, e23, o0_12, n0_12⟩
                · replace H11 := (if_pos (ndec_f hb15)).symm.trans H11
                  refine W_skip ?_
                  refine bk_n ?_
                  refine W_th ?_
                  refine W_reg (by kernel_rfl) ?_
                  refine wla rfl rfl (q_addI rfl s34_12 rfl) ?_
                  refine wla rfl rfl (q_move (v := (i64 ((wI (s11.2.2 + 1))))) rfl rfl) ?_
                  refine wl_nil ?_
                  obtain rfl := Option.some.inj H11
                  exact ⟨_, rfl, s0_12, s1_12, s2_12, s9_12, s10_12, s11_12, s12_12, s13_12, s25_12, s26_12, s27_12, s32_12, s33_12, rfl, s67_12, hE12, o0_12, n0_12⟩
              · replace H11 := (if_neg (of_decide_eq_false hb13)).symm.trans H11
                refine W_exit ?_
                refine th_x ?_
                obtain rfl := Option.some.inj H11
                obtain rfl := hr11 _ rfl
                refine th_x ?_
                refine bk_x ?_
                exact ⟨s0_12, s1_12, s2_12, s9_12, s10_12, s12_12, s13_12, s25_12, s26_12, s27_12, s67_12, hE12, o0_12, n0_12⟩
          · rintro _ w25 ⟨s0_25, s1_25, s2_25, s9_25, s10_25, s12_25, s13_25, s25_25, s26_25, s27_25, s67_25, hE25, o0_25, n0_25⟩
            refine W_th ?_
            refine W_reg (by kernel_rfl) ?_
            refine wla rfl rfl (q_move (v := v4) rfl s9_25) ?_
            refine wla rfl rfl (q_move (v := (i64 s7.2)) rfl s10_25) ?_
            refine wla rfl rfl (q_move (v := p0) rfl s0_25) ?_
            refine wla rfl rfl (q_move (v := (u8 x11.1)) rfl s12_25) ?_
            refine wla rfl rfl (q_move (v := (u8 x11.2)) rfl s13_25) ?_
            obtain ⟨r26, hr26, H7⟩ := Option.bind_eq_some_iff.1 H7
            refine wls rfl rfl (stp_call (vs := [p0, (u8 x11.1), (u8 x11.2)]) Try.func54 rfl rfl rfl (ar3 rfl rfl rfl) (field_Div_calls a0f x11.1 x11.2 p0 r26 _ (hp0.lift (Lift.ext hE25 _)) hr26) ?_)
            rintro _ w26 ⟨rfl, x26⟩
            refine ⟨_, rfl, ?_⟩
            replace o0_25 := o0_25.extL (Sc.stab _) x26 (Lift.ext x26 _)
            have e27 := hE25.trans x26
            refine wla rfl rfl (q_move (v := (.tuple #[(u8 r26.1), (i64 r26.2)])) rfl rfl) ?_
            refine wla rfl rfl (q_extract rfl rfl rfl) ?_
            refine wla rfl rfl (q_extract rfl rfl rfl) ?_
            obtain ⟨c28, hc28, H7⟩ := Option.bind_eq_some_iff.1 H7
            refine wla rfl rfl (q_adr rfl T22 rfl rfl (o0_25.rd (Sc.stab _)) hc28) ?_
            refine wln rfl rfl (stp_store (R := (Sc u8)) (u := (u8 r26.1)) (Sc.stab _) [] [] rfl T22 rfl rfl o0_25 (put_of r26.1 hc28) rfl rfl ?_)
            intro w29 o29 g29 l29
            have e30 := e27.grown g29 n0_25
            refine wl_nil ?_
            refine bk_n ?_
            refine W_th ?_
            refine W_reg (by kernel_rfl) ?_
            refine wla rfl rfl (q_addI rfl s27_25 rfl) ?_
            refine wla rfl rfl (q_move (v := (i64 ((wI (s7.2 + 1))))) rfl rfl) ?_
            refine wl_nil ?_
            obtain rfl := Option.some.inj H7
            exact ⟨_, rfl, s0_25, s1_25, s2_25, s9_25, s25_25, s26_25, rfl, s67_25, e30, o29, n0_25⟩
        · replace H7 := (if_neg (of_decide_eq_false hb9)).symm.trans H7
          refine W_exit ?_
          refine th_x ?_
          obtain rfl := Option.some.inj H7
          obtain rfl := hr7 _ rfl
          refine th_x ?_
          refine bk_x ?_
          exact ⟨s9_8, s67_8, hE8, o0_8, n0_8⟩
    · rintro _ w33 ⟨s9_33, s67_33, hE33, o0_33, n0_33⟩
      refine W_th ?_
      refine W_seq ?_
      refine W_reg (by kernel_rfl) ?_
      refine wla rfl rfl (q_move (v := v4) rfl s9_33) ?_
      refine wla rfl rfl (q_assign (v := v4) rfl rfl) ?_
      refine wla rfl rfl (q_assign (v := (i64 0)) rfl rfl) ?_
      refine wl_nil ?_
      refine W_th ?_
      refine W_ret ?_
      obtain rfl := Option.some.inj H
      refine rt2 v4 (i64 0) rfl rfl rfl rfl rfl s67_33 ?_
      exact ⟨v4, rfl, hE33, n0_33, (o0_33.weak (Sc.stab _) (fun _ _ => trivial))⟩

end Gk

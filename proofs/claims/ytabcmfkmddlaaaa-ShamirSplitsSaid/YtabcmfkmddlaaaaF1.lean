/- Printed by gen.py: for each Go function a pure function, and that the Go code comes to it. No condition beside the equation that says what the pure function gives. -/
import Derived.Test.YtabcmfkmddlaaaaS
import Derived.Test.YtabcmfkmddlaaaaFa
import Derived.Test.YtabcmfkmddlaaaaF0
set_option linter.unusedVariables false
set_option linter.unusedSimpArgs false
namespace Gk
open Go Go.Proofs

/-! (*largesse/field.Field).Mul -/
noncomputable def field_Mul (a0f : Bool) (a1a : UInt8) (a2b : UInt8) : Option UInt8 :=
(if (!a0f) = true then some (0 : UInt8)
else
(if a1a = (0 : UInt8) then some (0 : UInt8)
else
(if a2b = (0 : UInt8) then some (0 : UInt8)
else
((grd a0f).bind fun c6 =>
((idx Gf.lgT ((a1a.toNat : Int))).bind fun c7 =>
((idx Gf.lgT ((a2b.toNat : Int))).bind fun c8 =>
((idx Gf.pwT ((wI (c7 + c8)))).bind fun c9 => some c9)))))))
set_option maxRecDepth 100000 in
set_option maxHeartbeats 8000000 in
theorem field_Mul_calls (a0f : Bool) (a1a : UInt8) (a2b : UInt8) (p0 : Value) (r : UInt8) (w0 : World) (hp0 : Fd w0 [] p0 a0f) (H : field_Mul a0f a1a a2b = some r) :
    Calls Try.prog 29 [p0, (u8 a1a), (u8 a2b)].toArray w0 (fun e w' => e = .returned (u8 r) ∧ Ext w0 w') := by
  have hE : Ext w0 w0 := Ext.refl w0
  unfold field_Mul at H
  refine calls_W (n := 35) Try.func29 rfl rfl rfl ?_
  refine W_seq ?_
  refine W_reg (by kernel_rfl) ?_
  refine wla rfl rfl (q_assign (v := (u8 0)) rfl (cst8 (0 : UInt8) rfl)) ?_
  refine wl_nil ?_
  refine W_th ?_
  refine W_seq ?_
  refine W_seq ?_
  refine W_reg (by kernel_rfl) ?_
  refine wla rfl rfl (q_move (v := p0) rfl rfl) ?_
  refine wla rfl rfl (q_eqF rfl rfl rfl rfl (hp0.lift (Lift.ext hE _))) ?_
  refine wlb rfl rfl (q_move (v := (.bool ((!a0f)))) rfl rfl) (fun hb1 => ?_) (fun hb1 => ?_)
  · replace H := (if_pos hb1).symm.trans H
    refine wlk rfl rfl ?_
    refine wlk rfl rfl ?_
    refine wla rfl rfl (q_pick_t (v := (.bool true)) rfl rfl rfl) ?_
    refine wla rfl rfl (q_move (v := (.bool true)) rfl rfl) ?_
    refine wlk rfl rfl ?_
    refine wlk rfl rfl ?_
    refine wla rfl rfl (q_pick_t (v := (.bool true)) rfl rfl rfl) ?_
    refine wl_nil ?_
    refine W_th ?_
    refine W_cond true rfl rfl (fun _ => ?_) (fun hb => by cases hb)
    refine W_seq ?_
    refine W_reg (by kernel_rfl) ?_
    refine wla rfl rfl (q_assign (v := (u8 0)) rfl (cst8 (0 : UInt8) rfl)) ?_
    refine wl_nil ?_
    refine W_th ?_
    refine W_ret ?_
    refine th_r ?_
    obtain rfl := Option.some.inj H
    refine rt1 (u8 0) rfl rfl rfl rfl ?_
    exact ⟨rfl, hE⟩
  · replace H := (if_neg (ne_true_of_eq_false hb1)).symm.trans H
    refine wla rfl rfl (q_move (v := (u8 a1a)) rfl rfl) ?_
    refine wla rfl rfl (q_eq8 rfl rfl (cst8 (0 : UInt8) rfl)) ?_
    refine wla rfl rfl (q_pick_f (v := (.bool ((decide (a1a = (0 : UInt8)))))) rfl rfl rfl) ?_
    refine wlb rfl rfl (q_move (v := (.bool ((decide (a1a = (0 : UInt8)))))) rfl rfl) (fun hb2 => ?_) (fun hb2 => ?_)
    · replace H := (if_pos (of_decide_eq_true hb2)).symm.trans H
      refine wlk rfl rfl ?_
      refine wlk rfl rfl ?_
      refine wla rfl rfl (q_pick_t (v := (.bool true)) rfl rfl rfl) ?_
      refine wl_nil ?_
      refine W_th ?_
      refine W_cond true rfl rfl (fun _ => ?_) (fun hb => by cases hb)
      refine W_seq ?_
      refine W_reg (by kernel_rfl) ?_
      refine wla rfl rfl (q_assign (v := (u8 0)) rfl (cst8 (0 : UInt8) rfl)) ?_
      refine wl_nil ?_
      refine W_th ?_
      refine W_ret ?_
      refine th_r ?_
      obtain rfl := Option.some.inj H
      refine rt1 (u8 0) rfl rfl rfl rfl ?_
      exact ⟨rfl, hE⟩
    · replace H := (if_neg (of_decide_eq_false hb2)).symm.trans H
      refine wla rfl rfl (q_move (v := (u8 a2b)) rfl rfl) ?_
      refine wla rfl rfl (q_eq8 rfl rfl (cst8 (0 : UInt8) rfl)) ?_
      refine wla rfl rfl (q_pick_f (v := (.bool ((decide (a2b = (0 : UInt8)))))) rfl rfl rfl) ?_
      refine wl_nil ?_
      refine W_th ?_
      refine W_cond _ rfl rfl (fun hb3 => ?_) (fun hb3 => ?_)
      · replace H := (if_pos (of_decide_eq_true hb3)).symm.trans H
        refine W_seq ?_
        refine W_reg (by kernel_rfl) ?_
        refine wla rfl rfl (q_assign (v := (u8 0)) rfl (cst8 (0 : UInt8) rfl)) ?_
        refine wl_nil ?_
        refine W_th ?_
        refine W_ret ?_
        refine th_r ?_
        obtain rfl := Option.some.inj H
        refine rt1 (u8 0) rfl rfl rfl rfl ?_
        exact ⟨rfl, hE⟩
      · replace H := (if_neg (of_decide_eq_false hb3)).symm.trans H
        refine W_skip ?_
        refine W_th ?_
        refine W_seq ?_
        refine W_draw [6, 12, 17] [(0, 0), (1, 0), (2, 0), (3, 0), (4, 0), (5, 0), (6, 1), (7, 0), (8, 0), (9, 0), (10, 0), (11, 0), (12, 1), (13, 0), (14, 0), (15, 0), (16, 0), (17, 1), (18, 0)] mixed (by kernel_rfl) (by kernel_rfl) (by kernel_rfl) (by kernel_rfl) ?_
        have x4 := Ext.drew w0
        have e5 := hE.trans x4
        refine wsa rfl rfl rfl (q_move (v := p0) rfl rfl) ?_
        refine wsa rfl rfl rfl (q_move (v := p0) rfl rfl) ?_
        refine wsa rfl rfl rfl (q_move (v := (u8 a1a)) rfl rfl) ?_
        obtain ⟨c6, hc6, H⟩ := Option.bind_eq_some_iff.1 H
        refine wsa rfl rfl rfl (q_nilF rfl rfl (hp0.lift (Lift.ext e5 _)) (grd_eq hc6)) ?_
        refine wsa rfl rfl rfl (q_fld1 rfl rfl (hp0.lift (Lift.ext e5 _)) (grd_eq hc6)) ?_
        obtain ⟨c7, hc7, H⟩ := Option.bind_eq_some_iff.1 H
        refine wsa rfl rfl rfl (q_fix1 rfl rfl rfl (hp0.lift (Lift.ext e5 _)) (grd_eq hc6) hc7) ?_
        refine wsq rfl rfl rfl (q_fload1 rfl rfl (hp0.lift (Lift.ext e5 _)) (grd_eq hc6) hc7) ?_
        refine wsa rfl rfl rfl (q_move (v := p0) rfl rfl) ?_
        refine wsa rfl rfl rfl (q_move (v := (u8 a2b)) rfl rfl) ?_
        refine wsa rfl rfl rfl (q_nilF rfl rfl (hp0.lift (Lift.ext e5 _)) (grd_eq hc6)) ?_
        refine wsa rfl rfl rfl (q_fld1 rfl rfl (hp0.lift (Lift.ext e5 _)) (grd_eq hc6)) ?_
        obtain ⟨c8, hc8, H⟩ := Option.bind_eq_some_iff.1 H
        refine wsa rfl rfl rfl (q_fix1 rfl rfl rfl (hp0.lift (Lift.ext e5 _)) (grd_eq hc6) hc8) ?_
        refine wsq rfl rfl rfl (q_fload1 rfl rfl (hp0.lift (Lift.ext e5 _)) (grd_eq hc6) hc8) ?_
        refine wsa rfl rfl rfl (q_addI rfl rfl rfl) ?_
        refine wsa rfl rfl rfl (q_nilF rfl rfl (hp0.lift (Lift.ext e5 _)) (grd_eq hc6)) ?_
        refine wsa rfl rfl rfl (q_fld0 rfl rfl (hp0.lift (Lift.ext e5 _)) (grd_eq hc6)) ?_
        obtain ⟨c9, hc9, H⟩ := Option.bind_eq_some_iff.1 H
        refine wsa rfl rfl rfl (q_fix0 rfl rfl rfl (hp0.lift (Lift.ext e5 _)) (grd_eq hc6) hc9) ?_
        refine wsq rfl rfl rfl (q_fload0 rfl rfl (hp0.lift (Lift.ext e5 _)) (grd_eq hc6) hc9) ?_
        refine wsa rfl rfl rfl (q_assign (v := (u8 c9)) rfl rfl) ?_
        refine ws_nil ?_
        refine W_th ?_
        refine W_ret ?_
        obtain rfl := Option.some.inj H
        refine rt1 (u8 c9) rfl rfl rfl rfl ?_
        exact ⟨rfl, e5⟩

/-! (*largesse/field.Field).Inv -/
noncomputable def field_Inv (a0f : Bool) (a1a : UInt8) : Option (UInt8 × Int) :=
(if (!a0f) = true then some ((0 : UInt8), 1)
else
(if a1a = (0 : UInt8) then some ((0 : UInt8), 7)
else
((grd a0f).bind fun c5 =>
((idx Gf.lgT ((a1a.toNat : Int))).bind fun c6 =>
((idx Gf.pwT ((wI (255 - c6)))).bind fun c7 => some (c7, 0))))))
set_option maxRecDepth 100000 in
set_option maxHeartbeats 8000000 in
theorem field_Inv_calls (a0f : Bool) (a1a : UInt8) (p0 : Value) (r : UInt8 × Int) (w0 : World) (hp0 : Fd w0 [] p0 a0f) (H : field_Inv a0f a1a = some r) :
    Calls Try.prog 28 [p0, (u8 a1a)].toArray w0 (fun e w' => e = .returned (.tuple #[(u8 r.1), (i64 r.2)]) ∧ Ext w0 w') := by
  have hE : Ext w0 w0 := Ext.refl w0
  unfold field_Inv at H
  refine calls_W (n := 24) Try.func28 rfl rfl rfl ?_
  refine W_seq ?_
  refine W_reg (by kernel_rfl) ?_
  refine wla rfl rfl (q_assign (v := (u8 0)) rfl (cst8 (0 : UInt8) rfl)) ?_
  refine wla rfl rfl (q_assign (v := (i64 0)) rfl rfl) ?_
  refine wl_nil ?_
  refine W_th ?_
  refine W_seq ?_
  refine W_block ?_
  refine W_seq ?_
  refine W_reg (by kernel_rfl) ?_
  refine wla rfl rfl (q_move (v := p0) rfl rfl) ?_
  refine wla rfl rfl (q_eqF rfl rfl rfl rfl (hp0.lift (Lift.ext hE _))) ?_
  refine wla rfl rfl (q_assign (v := (.bool ((!a0f)))) rfl rfl) ?_
  refine wl_nil ?_
  refine W_th ?_
  refine W_cond _ rfl rfl (fun hb1 => ?_) (fun hb1 => ?_)
  · replace H := (if_pos hb1).symm.trans H
    refine W_seq ?_
    refine W_reg (by kernel_rfl) ?_
    refine wla rfl rfl (q_assign (v := (u8 0)) rfl (cst8 (0 : UInt8) rfl)) ?_
    refine wla rfl rfl (q_assign (v := (i64 1)) rfl rfl) ?_
    refine wl_nil ?_
    refine W_th ?_
    refine W_ret ?_
    refine bk_r ?_
    refine th_r ?_
    obtain rfl := Option.some.inj H
    refine rt2 (u8 0) (i64 1) rfl rfl rfl rfl rfl rfl ?_
    exact ⟨rfl, hE⟩
  · replace H := (if_neg (ne_true_of_eq_false hb1)).symm.trans H
    refine W_seq ?_
    refine W_reg (by kernel_rfl) ?_
    refine wla rfl rfl (q_move (v := (u8 a1a)) rfl rfl) ?_
    refine wla rfl rfl (q_eq8 rfl rfl (cst8 (0 : UInt8) rfl)) ?_
    refine wla rfl rfl (q_assign (v := (.bool ((decide (a1a = (0 : UInt8)))))) rfl rfl) ?_
    refine wl_nil ?_
    refine W_th ?_
    refine W_cond _ rfl rfl (fun hb2 => ?_) (fun hb2 => ?_)
    · replace H := (if_pos (of_decide_eq_true hb2)).symm.trans H
      refine W_seq ?_
      refine W_reg (by kernel_rfl) ?_
      refine wla rfl rfl (q_assign (v := (u8 0)) rfl (cst8 (0 : UInt8) rfl)) ?_
      refine wla rfl rfl (q_assign (v := (i64 7)) rfl rfl) ?_
      refine wl_nil ?_
      refine W_th ?_
      refine W_ret ?_
      refine bk_r ?_
      refine th_r ?_
      obtain rfl := Option.some.inj H
      refine rt2 (u8 0) (i64 7) rfl rfl rfl rfl rfl rfl ?_
      exact ⟨rfl, hE⟩
    · replace H := (if_neg (of_decide_eq_false hb2)).symm.trans H
      refine W_skip ?_
      refine bk_n ?_
      refine W_th ?_
      refine W_seq ?_
      refine W_draw [6, 11] [(0, 0), (1, 0), (2, 0), (3, 0), (4, 0), (5, 0), (6, 1), (7, 0), (8, 0), (9, 0), (10, 0), (11, 1), (12, 0), (13, 0)] mixed (by kernel_rfl) (by kernel_rfl) (by kernel_rfl) (by kernel_rfl) ?_
      have x3 := Ext.drew w0
      have e4 := hE.trans x3
      refine wsa rfl rfl rfl (q_move (v := p0) rfl rfl) ?_
      refine wsa rfl rfl rfl (q_move (v := p0) rfl rfl) ?_
      refine wsa rfl rfl rfl (q_move (v := (u8 a1a)) rfl rfl) ?_
      obtain ⟨c5, hc5, H⟩ := Option.bind_eq_some_iff.1 H
      refine wsa rfl rfl rfl (q_nilF rfl rfl (hp0.lift (Lift.ext e4 _)) (grd_eq hc5)) ?_
      refine wsa rfl rfl rfl (q_fld1 rfl rfl (hp0.lift (Lift.ext e4 _)) (grd_eq hc5)) ?_
      obtain ⟨c6, hc6, H⟩ := Option.bind_eq_some_iff.1 H
      refine wsa rfl rfl rfl (q_fix1 rfl rfl rfl (hp0.lift (Lift.ext e4 _)) (grd_eq hc5) hc6) ?_
      refine wsq rfl rfl rfl (q_fload1 rfl rfl (hp0.lift (Lift.ext e4 _)) (grd_eq hc5) hc6) ?_
      refine wsa rfl rfl rfl (q_subI rfl rfl rfl) ?_
      refine wsa rfl rfl rfl (q_nilF rfl rfl (hp0.lift (Lift.ext e4 _)) (grd_eq hc5)) ?_
      refine wsa rfl rfl rfl (q_fld0 rfl rfl (hp0.lift (Lift.ext e4 _)) (grd_eq hc5)) ?_
      obtain ⟨c7, hc7, H⟩ := Option.bind_eq_some_iff.1 H
      refine wsa rfl rfl rfl (q_fix0 rfl rfl rfl (hp0.lift (Lift.ext e4 _)) (grd_eq hc5) hc7) ?_
      refine wsq rfl rfl rfl (q_fload0 rfl rfl (hp0.lift (Lift.ext e4 _)) (grd_eq hc5) hc7) ?_
      refine wsa rfl rfl rfl (q_assign (v := (u8 c7)) rfl rfl) ?_
      refine wsa rfl rfl rfl (q_assign (v := (i64 0)) rfl rfl) ?_
      refine ws_nil ?_
      refine W_th ?_
      refine W_ret ?_
      obtain rfl := Option.some.inj H
      refine rt2 (u8 c7) (i64 0) rfl rfl rfl rfl rfl rfl ?_
      exact ⟨rfl, e4⟩

/-! (*largesse/field.Field).Div -/
noncomputable def field_Div (a0f : Bool) (a1a : UInt8) (a2b : UInt8) : Option (UInt8 × Int) :=
((field_Inv a0f a2b).bind fun r1 =>
(if r1.2 = 0 then
((field_Mul a0f a1a r1.1).bind fun r4 => some (r4, 0))
else some ((0 : UInt8), r1.2)))
set_option maxRecDepth 100000 in
set_option maxHeartbeats 8000000 in
theorem field_Div_calls (a0f : Bool) (a1a : UInt8) (a2b : UInt8) (p0 : Value) (r : UInt8 × Int) (w0 : World) (hp0 : Fd w0 [] p0 a0f) (H : field_Div a0f a1a a2b = some r) :
    Calls Try.prog 54 [p0, (u8 a1a), (u8 a2b)].toArray w0 (fun e w' => e = .returned (.tuple #[(u8 r.1), (i64 r.2)]) ∧ Ext w0 w') := by
  have hE : Ext w0 w0 := Ext.refl w0
  unfold field_Div at H
  refine calls_W (n := 23) Try.func54 rfl rfl rfl ?_
  refine W_seq ?_
  refine W_reg (by kernel_rfl) ?_
  refine wla rfl rfl (q_assign (v := (u8 0)) rfl (cst8 (0 : UInt8) rfl)) ?_
  refine wla rfl rfl (q_assign (v := (i64 0)) rfl rfl) ?_
  refine wl_nil ?_
  refine W_th ?_
  refine W_seq ?_
  refine W_reg (by kernel_rfl) ?_
  refine wla rfl rfl (q_move (v := p0) rfl rfl) ?_
  refine wla rfl rfl (q_move (v := (u8 a2b)) rfl rfl) ?_
  obtain ⟨r1, hr1, H⟩ := Option.bind_eq_some_iff.1 H
  refine wls rfl rfl (stp_call (vs := [p0, (u8 a2b)]) Try.func28 rfl rfl rfl (ar2 rfl rfl) (field_Inv_calls a0f a2b p0 r1 _ (hp0.lift (Lift.ext hE _)) hr1) ?_)
  rintro _ w1 ⟨rfl, x1⟩
  refine ⟨_, rfl, ?_⟩
  have e2 := hE.trans x1
  refine wla rfl rfl (q_move (v := (.tuple #[(u8 r1.1), (i64 r1.2)])) rfl rfl) ?_
  refine wla rfl rfl (q_extract rfl rfl rfl) ?_
  refine wla rfl rfl (q_extract rfl rfl rfl) ?_
  refine wla rfl rfl (q_assign (v := (u8 r1.1)) rfl rfl) ?_
  refine wla rfl rfl (q_assign (v := (i64 r1.2)) rfl rfl) ?_
  refine wl_nil ?_
  refine W_th ?_
  refine W_seq ?_
  refine W_seq ?_
  refine W_reg (by kernel_rfl) ?_
  refine wla rfl rfl (q_move (v := (i64 r1.2)) rfl rfl) ?_
  refine wla rfl rfl (q_neI rfl rfl rfl) ?_
  refine wl_nil ?_
  refine W_th ?_
  refine W_cond _ rfl rfl (fun hb3 => ?_) (fun hb3 => ?_)
  · replace H := (if_neg (ndec_t hb3)).symm.trans H
    refine W_seq ?_
    refine W_reg (by kernel_rfl) ?_
    refine wla rfl rfl (q_move (v := (i64 r1.2)) rfl rfl) ?_
    refine wla rfl rfl (q_assign (v := (u8 0)) rfl (cst8 (0 : UInt8) rfl)) ?_
    refine wla rfl rfl (q_assign (v := (i64 r1.2)) rfl rfl) ?_
    refine wl_nil ?_
    refine W_th ?_
    refine W_ret ?_
    refine th_r ?_
    obtain rfl := Option.some.inj H
    refine rt2 (u8 0) (i64 r1.2) rfl rfl rfl rfl rfl rfl ?_
    exact ⟨rfl, e2⟩
  · replace H := (if_pos (ndec_f hb3)).symm.trans H
    refine W_skip ?_
    refine W_th ?_
    refine W_seq ?_
    refine W_reg (by kernel_rfl) ?_
    refine wla rfl rfl (q_move (v := p0) rfl rfl) ?_
    refine wla rfl rfl (q_move (v := (u8 a1a)) rfl rfl) ?_
    refine wla rfl rfl (q_move (v := (u8 r1.1)) rfl rfl) ?_
    obtain ⟨r4, hr4, H⟩ := Option.bind_eq_some_iff.1 H
    refine wls rfl rfl (stp_call (vs := [p0, (u8 a1a), (u8 r1.1)]) Try.func29 rfl rfl rfl (ar3 rfl rfl rfl) (field_Mul_calls a0f a1a r1.1 p0 r4 _ (hp0.lift (Lift.ext e2 _)) hr4) ?_)
    rintro _ w4 ⟨rfl, x4⟩
    refine ⟨_, rfl, ?_⟩
    have e5 := e2.trans x4
    refine wla rfl rfl (q_assign (v := (u8 r4)) rfl rfl) ?_
    refine wla rfl rfl (q_assign (v := (i64 0)) rfl rfl) ?_
    refine wl_nil ?_
    refine W_th ?_
    refine W_ret ?_
    obtain rfl := Option.some.inj H
    refine rt2 (u8 r4) (i64 0) rfl rfl rfl rfl rfl rfl ?_
    exact ⟨rfl, e5⟩

/-! (*largesse/field.Field).Sum -/
noncomputable def field_Sum (a0f : Bool) (a1a : List UInt8) (a2c : UInt8) (a3b : List UInt8) : Option (List UInt8) :=
(if (!a0f) = true then some ([] : List UInt8)
else
((makeL ((a1a.length : Int)) (0 : UInt8)).bind fun c2 =>
((iterC (fun s7 : List UInt8 × Int =>
(if s7.2 < (if (a3b.length : Int) < (a1a.length : Int) then (a3b.length : Int) else (a1a.length : Int)) then
((idx s7.1 s7.2).bind fun c12 =>
((idx a3b s7.2).bind fun c13 =>
((field_Mul a0f a2c c13).bind fun r14 => some (.inl ((s7.1.set (s7.2 : Int).toNat ((c12 ^^^ r14))), (wI (s7.2 + 1)))))))
else some (.inr s7.1))) ((copyL c2 0 a1a), 0)).bind fun x7 => some x7)))
set_option maxRecDepth 100000 in
set_option maxHeartbeats 8000000 in
theorem field_Sum_calls (a0f : Bool) (a1a : List UInt8) (a2c : UInt8) (a3b : List UInt8) (p0 : Value) (p1 : Value) (p3 : Value) (r : List UInt8) (w0 : World) (hp0 : Fd w0 [] p0 a0f) (hp1 : By w0 [] p1 a1a) (hp3 : By w0 [] p3 a3b) (H : field_Sum a0f a1a a2c a3b = some r) :
    Calls Try.prog 43 [p0, p1, (u8 a2c), p3].toArray w0 (fun e w' => ∃ u0 : Value, e = .returned u0 ∧ Ext w0 w' ∧ Nw w0 u0 ∧ OwK (Sc u8) w' [] 5 u0 r) := by
  have hE : Ext w0 w0 := Ext.refl w0
  unfold field_Sum at H
  refine calls_W (n := 42) Try.func43 rfl rfl rfl ?_
  refine W_seq ?_
  refine W_reg (by kernel_rfl) ?_
  refine wla rfl rfl (q_assign (v := (.slice none 0 0)) rfl rfl) ?_
  refine wl_nil ?_
  refine W_th ?_
  refine W_seq ?_
  refine W_seq ?_
  refine W_reg (by kernel_rfl) ?_
  refine wla rfl rfl (q_move (v := p0) rfl rfl) ?_
  refine wla rfl rfl (q_eqF rfl rfl rfl rfl (hp0.lift (Lift.ext hE _))) ?_
  refine wl_nil ?_
  refine W_th ?_
  refine W_cond _ rfl rfl (fun hb1 => ?_) (fun hb1 => ?_)
  · replace H := (if_pos hb1).symm.trans H
    refine W_seq ?_
    refine W_reg (by kernel_rfl) ?_
    refine wla rfl rfl (q_assign (v := (.slice none 0 0)) rfl rfl) ?_
    refine wl_nil ?_
    refine W_th ?_
    refine W_ret ?_
    refine th_r ?_
    obtain rfl := Option.some.inj H
    refine rt1 (.slice none 0 0) rfl rfl rfl rfl ?_
    exact ⟨(.slice none 0 0), rfl, hE, Nw.nil _, (OwK.nil _ _ _ _)⟩
  · replace H := (if_neg (ne_true_of_eq_false hb1)).symm.trans H
    refine W_skip ?_
    refine W_th ?_
    refine W_seq ?_
    refine W_reg (by kernel_rfl) ?_
    refine wla rfl rfl (q_move (v := p1) rfl rfl) ?_
    refine wla rfl rfl (q_len rfl T22.sl rfl (hp1.lift (Lift.ext hE _))) ?_
    obtain ⟨c2, hc2, H⟩ := Option.bind_eq_some_iff.1 H
    refine wls rfl rfl (stp_make (L := []) (R := (Sc u8)) rfl T22 rfl rfl hc2 (fun _ _ => rfl) ?_)
    intro v2 w2 o2 n2 g2 l2
    have x2 := grown_ext g2
    have n4 := Nw.ext hE n2
    have e3 := hE.trans x2
    refine wla rfl rfl (q_assign (v := v2) rfl rfl) ?_
    refine wl_nil ?_
    refine W_th ?_
    refine W_seq ?_
    refine W_reg (by kernel_rfl) ?_
    refine wla rfl rfl (q_move (v := v2) rfl rfl) ?_
    refine wla rfl rfl (q_move (v := p1) rfl rfl) ?_
    refine wls rfl rfl (stp_copy (R := (Sc u8)) (off := 0) (dv := v2) (u := p1) (Sc.stab _) [] [] rfl T22 rfl rfl o2 (copy_whole o2) (by decide) (Int.natCast_nonneg _) (hp1.lift (Lift.ext e3 _)) (fun _ _ h => h) oc_u8 ?_)
    intro w5 o5 g5 l5
    have e6 := e3.grown g5 n4
    refine wl_nil ?_
    refine W_th ?_
    refine W_seq ?_
    refine W_seq ?_
    refine W_reg (by kernel_rfl) ?_
    refine wla rfl rfl (q_move (v := p1) rfl rfl) ?_
    refine wla rfl rfl (q_len rfl T22.sl rfl (hp1.lift (Lift.ext e6 _))) ?_
    refine wla rfl rfl (q_move (v := p3) rfl rfl) ?_
    refine wla rfl rfl (q_len rfl T22.sl rfl (hp3.lift (Lift.ext e6 _))) ?_
    refine wla rfl rfl (q_minI rfl rfl rfl) ?_
    refine wla rfl rfl (q_move (v := (i64 0)) rfl rfl) ?_
    refine wl_nil ?_
    refine W_th ?_
    obtain ⟨x7, G7, H⟩ := Option.bind_eq_some_iff.1 H
    refine W_mid (fun f w => f 9 = v2 ∧ f 42 = undef ∧ Ext w0 w ∧ OwK (Sc u8) w [v2] 5 v2 x7 ∧ Nw w0 v2) ?_ ?_
    · refine W_block ?_
      refine W_loop (fun s7 f w => f 0 = p0 ∧ f 2 = (u8 a2c) ∧ f 3 = p3 ∧ f 9 = v2 ∧ f 23 = (i64 ((if (a3b.length : Int) < (a1a.length : Int) then (a3b.length : Int) else (a1a.length : Int)))) ∧ f 24 = (i64 s7.2) ∧ f 42 = undef ∧ Ext w0 w ∧ OwK (Sc u8) w [v2] 5 v2 s7.1 ∧ Nw w0 v2) G7 ?_ ?_
      · exact ⟨rfl, rfl, rfl, rfl, rfl, rfl, rfl, e6, o5, n4⟩
      · rintro s7 _ _ w8 ⟨s0_8, s2_8, s3_8, s9_8, s23_8, s24_8, s42_8, hE8, o0_8, n0_8⟩ H7 hr7
        refine W_seq ?_
        refine W_reg (by kernel_rfl) ?_
        refine wla rfl rfl (q_ltI rfl s24_8 s23_8) ?_
        refine wl_nil ?_
        refine W_th ?_
        refine W_seq ?_
        refine W_cond _ rfl rfl (fun hb9 => ?_) (fun hb9 => ?_)
        · replace H7 := (if_pos (of_decide_eq_true hb9)).symm.trans H7
          refine W_skip ?_
          refine W_th ?_
          refine W_seq ?_
          refine W_block ?_
          refine W_seq ?_
          refine W_reg (by kernel_rfl) ?_
          refine wla rfl rfl (q_move (v := (i64 s7.2)) rfl s24_8) ?_
          refine wla rfl rfl (q_assign (v := (i64 s7.2)) rfl rfl) ?_
          refine wl_nil ?_
          refine W_th ?_
          refine W_draw [3, 9] [(0, 0), (1, 0), (2, 0), (3, 1), (4, 0), (5, 0), (6, 0), (7, 0), (8, 0), (9, 1), (10, 2), (11, 0), (12, 0), (13, 2)] mixed (by kernel_rfl) (by kernel_rfl) (by kernel_rfl) (by kernel_rfl) ?_
          have x10 := Ext.drew w8
          replace o0_8 := o0_8.extL (Sc.stab _) x10 (Lift.ext x10 _)
          have e11 := hE8.trans x10
          refine wsa rfl rfl rfl (q_move (v := v2) rfl s9_8) ?_
          refine wsa rfl rfl rfl (q_move (v := (i64 s7.2)) rfl rfl) ?_
          obtain ⟨c12, hc12, H7⟩ := Option.bind_eq_some_iff.1 H7
          refine wsa rfl rfl rfl (q_adr rfl T22 rfl rfl (o0_8.rd (Sc.stab _)) hc12) ?_
          refine wsq rfl rfl rfl (q_loadS rfl T22 rfl (o0_8.rd (Sc.stab _)) hc12) ?_
          refine wsa rfl rfl rfl (q_move (v := p0) rfl s0_8) ?_
          refine wsa rfl rfl rfl (q_move (v := (u8 a2c)) rfl s2_8) ?_
          refine wsa rfl rfl rfl (q_move (v := p3) rfl s3_8) ?_
          refine wsa rfl rfl rfl (q_move (v := (i64 s7.2)) rfl rfl) ?_
          obtain ⟨c13, hc13, H7⟩ := Option.bind_eq_some_iff.1 H7
          refine wsa rfl rfl rfl (q_adr rfl T22 rfl rfl (hp3.lift (Lift.ext e11 _)) hc13) ?_
          refine wsq rfl rfl rfl (q_loadS rfl T22 rfl (hp3.lift (Lift.ext e11 _)) hc13) ?_
          obtain ⟨r14, hr14, H7⟩ := Option.bind_eq_some_iff.1 H7
          refine wss rfl rfl rfl (stp_call (vs := [p0, (u8 a2c), (u8 c13)]) Try.func29 rfl rfl rfl (ar3 rfl rfl rfl) (field_Mul_calls a0f a2c c13 p0 r14 _ (hp0.lift (Lift.ext e11 _)) hr14) ?_)
          rintro _ w14 ⟨rfl, x14⟩
          refine ⟨_, rfl, x14, ?_⟩
          replace o0_8 := o0_8.extL (Sc.stab _) x14 (Lift.ext x14 _)
          have e15 := e11.trans x14
          refine wsa rfl rfl rfl (q_xor8 rfl rfl rfl) ?_
          refine wsa rfl rfl rfl (q_adr rfl T22 rfl rfl (o0_8.rd (Sc.stab _)) hc12) ?_
          refine wsn rfl (by kernel_rfl) rfl rfl (stp_store (R := (Sc u8)) (u := (u8 ((c12 ^^^ r14)))) (Sc.stab _) [] [] rfl T22 rfl rfl o0_8 (put_of ((c12 ^^^ r14)) hc12) rfl rfl ?_)
          intro w16 o16 g16 l16
          have e17 := e15.grown g16 n0_8
          refine ws_nil ?_
          refine bk_n ?_
          refine W_th ?_
          refine W_reg (by kernel_rfl) ?_
          refine wla rfl rfl (q_addI rfl s24_8 rfl) ?_
          refine wla rfl rfl (q_move (v := (i64 ((wI (s7.2 + 1))))) rfl rfl) ?_
          refine wl_nil ?_
          obtain rfl := Option.some.inj H7
          exact ⟨_, rfl, s0_8, s2_8, s3_8, s9_8, s23_8, rfl, s42_8, e17, o16, n0_8⟩
        · replace H7 := (if_neg (of_decide_eq_false hb9)).symm.trans H7
          refine W_exit ?_
          refine th_x ?_
          obtain rfl := Option.some.inj H7
          obtain rfl := hr7 _ rfl
          refine th_x ?_
          refine bk_x ?_
          exact ⟨s9_8, s42_8, hE8, o0_8, n0_8⟩
    · rintro _ w19 ⟨s9_19, s42_19, hE19, o0_19, n0_19⟩
      refine W_th ?_
      refine W_seq ?_
      refine W_reg (by kernel_rfl) ?_
      refine wla rfl rfl (q_move (v := v2) rfl s9_19) ?_
      refine wla rfl rfl (q_assign (v := v2) rfl rfl) ?_
      refine wl_nil ?_
      refine W_th ?_
      refine W_ret ?_
      obtain rfl := Option.some.inj H
      refine rt1 v2 rfl rfl rfl s42_19 ?_
      exact ⟨v2, rfl, hE19, n0_19, (o0_19.weak (Sc.stab _) (fun _ _ => trivial))⟩

end Gk

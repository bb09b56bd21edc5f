/- Printed by gen.py: for each Go function a pure function, and that the Go code comes to it. No condition beside the equation that says what the pure function gives. -/
import Derived.Test.YteinpdignnpbgaaFc
import Derived.Test.YteinpdignnpbgaaFd
import Derived.Test.YteinpdignnpbgaaFe
import Derived.Test.YteinpdignnpbgaaFb
import Derived.Test.YteinpdignnpbgaaF1
set_option linter.unusedVariables false
set_option linter.unusedSimpArgs false
namespace Gk
open Go Go.Proofs

/-! largesse/poly.Trim -/
noncomputable def poly_Trim (a0p : List UInt8) : Option (List UInt8) :=
((poly_Degree a0p).bind fun r1 =>
((subL a0p 0 ((wI (r1 + 1)))).bind fun c3 =>
((slices_Clone_sbytebyte c3).bind fun r4 => some r4)))
set_option maxRecDepth 100000 in
set_option maxHeartbeats 8000000 in
theorem poly_Trim_calls (a0p : List UInt8) (p0 : Value) (r : List UInt8) (w0 : World) (hp0 : By w0 [] p0 a0p) (H : poly_Trim a0p = some r) :
    Calls Try.prog 27 [p0].toArray w0 (fun e w' => ∃ u0 : Value, e = .returned u0 ∧ Ext w0 w' ∧ Nw w0 u0 ∧ OwK (Sc u8) w' [] 5 u0 r) := by
  have hE : Ext w0 w0 := Ext.refl w0
  unfold poly_Trim at H
  refine calls_W (n := 9) Try.func27 rfl rfl rfl ?_
  refine W_seq ?_
  refine W_reg (by kernel_rfl) ?_
  refine wla rfl rfl (q_assign (v := (.slice none 0 0)) rfl rfl) ?_
  refine wl_nil ?_
  refine W_th ?_
  refine W_seq ?_
  refine W_reg (by kernel_rfl) ?_
  refine wla rfl rfl (q_move (v := p0) rfl rfl) ?_
  refine wla rfl rfl (q_move (v := p0) rfl rfl) ?_
  obtain ⟨r1, hr1, H⟩ := Option.bind_eq_some_iff.1 H
  refine wls rfl rfl (stp_call (vs := [p0]) Try.func28 rfl rfl rfl (ar1 rfl) (poly_Degree_calls a0p p0 r1 _ (hp0.lift (Lift.ext hE _)) hr1) ?_)
  rintro _ w1 ⟨rfl, x1⟩
  refine ⟨_, rfl, ?_⟩
  have e2 := hE.trans x1
  refine wla rfl rfl (q_addI rfl rfl rfl) ?_
  obtain ⟨c3, hc3, H⟩ := Option.bind_eq_some_iff.1 H
  refine wla rfl rfl (q_slice (a := 0) (b := (wI (r1 + 1))) rfl T22 rfl (hp0.lift (Lift.ext e2 _)) rfl rfl hc3) ?_
  obtain ⟨r4, hr4, H⟩ := Option.bind_eq_some_iff.1 H
  refine wls rfl rfl (stp_call (vs := [(subV p0 (0 : Int).toNat ((wI (r1 + 1)) : Int).toNat)]) Try.func67 rfl rfl rfl (ar1 rfl) (slices_Clone_sbytebyte_calls c3 (subV p0 (0 : Int).toNat ((wI (r1 + 1)) : Int).toNat) r4 _ (SlK.cut (hp0.lift (Lift.ext e2 _)) hc3) hr4) ?_)
  rintro _ w4 ⟨v4, rfl, x4, n4_0, o4_0⟩
  refine ⟨_, rfl, ?_⟩
  have o4 : OwK (Sc u8) w4 (v4 :: []) 5 v4 r4 := OwK.scal o4_0 _
  have n6 := Nw.ext e2 n4_0
  have e5 := e2.trans x4
  refine wla rfl rfl (q_assign (v := v4) rfl rfl) ?_
  refine wl_nil ?_
  refine W_th ?_
  refine W_ret ?_
  obtain rfl := Option.some.inj H
  refine rt1 v4 rfl rfl rfl rfl ?_
  exact ⟨v4, rfl, e5, n6, (o4.weak (Sc.stab _) (fun _ _ => trivial))⟩

/-! largesse/poly.Add -/
noncomputable def poly_Add (a0p : List UInt8) (a1q : List UInt8) : Option (List UInt8) :=
((makeL ((if (a0p.length : Int) < (a1q.length : Int) then (a1q.length : Int) else (a0p.length : Int))) (0 : UInt8)).bind fun c1 =>
((iterC (fun s6 : List UInt8 × Int =>
(if s6.2 < (a1q.length : Int) then
((idx a1q s6.2).bind fun c9 =>
((idx s6.1 s6.2).bind fun c10 => some (.inl ((s6.1.set (s6.2 : Int).toNat ((c10 ^^^ c9))), (wI (s6.2 + 1))))))
else some (.inr s6.1))) ((copyL c1 0 a0p), 0)).bind fun x6 =>
((poly_Trim x6).bind fun r15 => some r15)))
set_option maxRecDepth 100000 in
set_option maxHeartbeats 8000000 in
theorem poly_Add_calls (a0p : List UInt8) (a1q : List UInt8) (p0 : Value) (p1 : Value) (r : List UInt8) (w0 : World) (hp0 : By w0 [] p0 a0p) (hp1 : By w0 [] p1 a1q) (H : poly_Add a0p a1q = some r) :
    Calls Try.prog 20 [p0, p1].toArray w0 (fun e w' => ∃ u0 : Value, e = .returned u0 ∧ Ext w0 w' ∧ Nw w0 u0 ∧ OwK (Sc u8) w' [] 5 u0 r) := by
  have hE : Ext w0 w0 := Ext.refl w0
  unfold poly_Add at H
  refine calls_W (n := 34) Try.func20 rfl rfl rfl ?_
  refine W_seq ?_
  refine W_reg (by kernel_rfl) ?_
  refine wla rfl rfl (q_assign (v := (.slice none 0 0)) rfl rfl) ?_
  refine wl_nil ?_
  refine W_th ?_
  refine W_seq ?_
  refine W_reg (by kernel_rfl) ?_
  refine wla rfl rfl (q_move (v := p0) rfl rfl) ?_
  refine wla rfl rfl (q_len rfl T22.sl rfl (hp0.lift (Lift.ext hE _))) ?_
  refine wla rfl rfl (q_move (v := p1) rfl rfl) ?_
  refine wla rfl rfl (q_len rfl T22.sl rfl (hp1.lift (Lift.ext hE _))) ?_
  refine wla rfl rfl (q_maxI rfl rfl rfl) ?_
  obtain ⟨c1, hc1, H⟩ := Option.bind_eq_some_iff.1 H
  refine wls rfl rfl (stp_make (L := []) (R := (Sc u8)) rfl T22 rfl rfl hc1 (fun _ _ => rfl) ?_)
  intro v1 w1 o1 n1 g1 l1
  have x1 := grown_ext g1
  have n3 := Nw.ext hE n1
  have e2 := hE.trans x1
  refine wla rfl rfl (q_assign (v := v1) rfl rfl) ?_
  refine wl_nil ?_
  refine W_th ?_
  refine W_seq ?_
  refine W_reg (by kernel_rfl) ?_
  refine wla rfl rfl (q_move (v := v1) rfl rfl) ?_
  refine wla rfl rfl (q_move (v := p0) rfl rfl) ?_
  refine wls rfl rfl (stp_copy (R := (Sc u8)) (off := 0) (dv := v1) (u := p0) (Sc.stab _) [] [] rfl T22 rfl rfl o1 (copy_whole o1) (by decide) (Int.natCast_nonneg _) (hp0.lift (Lift.ext e2 _)) (fun _ _ h => h) oc_u8 ?_)
  intro w4 o4 g4 l4
  have e5 := e2.grown g4 n3
  refine wl_nil ?_
  refine W_th ?_
  refine W_seq ?_
  refine W_seq ?_
  refine W_reg (by kernel_rfl) ?_
  refine wla rfl rfl (q_move (v := p1) rfl rfl) ?_
  refine wla rfl rfl (q_len rfl T22.sl rfl (hp1.lift (Lift.ext e5 _))) ?_
  refine wla rfl rfl (q_move (v := (i64 0)) rfl rfl) ?_
  refine wl_nil ?_
  refine W_th ?_
  obtain ⟨x6, G6, H⟩ := Option.bind_eq_some_iff.1 H
  refine W_mid (fun f w => f 5 = v1 ∧ f 34 = undef ∧ Ext w0 w ∧ OwK (Sc u8) w [v1] 5 v1 x6 ∧ Nw w0 v1) ?_ ?_
  · refine W_block ?_
    refine W_loop (fun s6 f w => f 5 = v1 ∧ f 17 = p1 ∧ f 18 = (i64 ((a1q.length : Int))) ∧ f 19 = (i64 s6.2) ∧ f 34 = undef ∧ Ext w0 w ∧ OwK (Sc u8) w [v1] 5 v1 s6.1 ∧ Nw w0 v1) G6 ?_ ?_
    · exact ⟨rfl, rfl, rfl, rfl, rfl, e5, o4, n3⟩
    · rintro s6 _ _ w7 ⟨s5_7, s17_7, s18_7, s19_7, s34_7, hE7, o0_7, n0_7⟩ H6 hr6
      refine W_seq ?_
      refine W_reg (by kernel_rfl) ?_
      refine wla rfl rfl (q_ltI rfl s19_7 s18_7) ?_
      refine wl_nil ?_
      refine W_th ?_
      refine W_seq ?_
      refine W_cond _ rfl rfl (fun hb8 => ?_) (fun hb8 => ?_)
      · replace H6 := (if_pos (of_decide_eq_true hb8)).symm.trans H6
        refine W_skip ?_
        refine W_th ?_
        refine W_seq ?_
        refine W_block ?_
        refine W_seq ?_
        refine W_reg (by kernel_rfl) ?_
        refine wla rfl rfl (q_move (v := (i64 s6.2)) rfl s19_7) ?_
        obtain ⟨c9, hc9, H6⟩ := Option.bind_eq_some_iff.1 H6
        refine wla rfl rfl (q_adr rfl T22 s17_7 s19_7 (hp1.lift (Lift.ext hE7 _)) hc9) ?_
        refine wlq rfl rfl (q_loadS rfl T22 rfl (hp1.lift (Lift.ext hE7 _)) hc9) ?_
        refine wla rfl rfl (q_assign (v := (i64 s6.2)) rfl rfl) ?_
        refine wla rfl rfl (q_assign (v := (u8 c9)) rfl rfl) ?_
        refine wl_nil ?_
        refine W_th ?_
        refine W_reg (by kernel_rfl) ?_
        refine wla rfl rfl (q_move (v := v1) rfl s5_7) ?_
        refine wla rfl rfl (q_move (v := (i64 s6.2)) rfl rfl) ?_
        obtain ⟨c10, hc10, H6⟩ := Option.bind_eq_some_iff.1 H6
        refine wla rfl rfl (q_adr rfl T22 rfl rfl (o0_7.rd (Sc.stab _)) hc10) ?_
        refine wlq rfl rfl (q_loadS rfl T22 rfl (o0_7.rd (Sc.stab _)) hc10) ?_
        refine wla rfl rfl (q_move (v := (u8 c9)) rfl rfl) ?_
        refine wla rfl rfl (q_xor8 rfl rfl rfl) ?_
        refine wla rfl rfl (q_adr rfl T22 rfl rfl (o0_7.rd (Sc.stab _)) hc10) ?_
        refine wln rfl rfl (stp_store (R := (Sc u8)) (u := (u8 ((c10 ^^^ c9)))) (Sc.stab _) [] [] rfl T22 rfl rfl o0_7 (put_of ((c10 ^^^ c9)) hc10) rfl rfl ?_)
        intro w11 o11 g11 l11
        have e12 := hE7.grown g11 n0_7
        refine wl_nil ?_
        refine bk_n ?_
        refine W_th ?_
        refine W_reg (by kernel_rfl) ?_
        refine wla rfl rfl (q_addI rfl s19_7 rfl) ?_
        refine wla rfl rfl (q_move (v := (i64 ((wI (s6.2 + 1))))) rfl rfl) ?_
        refine wl_nil ?_
        obtain rfl := Option.some.inj H6
        exact ⟨_, rfl, s5_7, s17_7, s18_7, rfl, s34_7, e12, o11, n0_7⟩
      · replace H6 := (if_neg (of_decide_eq_false hb8)).symm.trans H6
        refine W_exit ?_
        refine th_x ?_
        obtain rfl := Option.some.inj H6
        obtain rfl := hr6 _ rfl
        refine th_x ?_
        refine bk_x ?_
        exact ⟨s5_7, s34_7, hE7, o0_7, n0_7⟩
  · rintro _ w14 ⟨s5_14, s34_14, hE14, o0_14, n0_14⟩
    refine W_th ?_
    refine W_seq ?_
    refine W_reg (by kernel_rfl) ?_
    refine wla rfl rfl (q_move (v := v1) rfl s5_14) ?_
    obtain ⟨r15, hr15, H⟩ := Option.bind_eq_some_iff.1 H
    refine wls rfl rfl (stp_call (vs := [v1]) Try.func27 rfl rfl rfl (ar1 rfl) (poly_Trim_calls x6 v1 r15 _ (o0_14.rd (Sc.stab _)) hr15) ?_)
    rintro _ w15 ⟨v15, rfl, x15, n15_0, o15_0⟩
    refine ⟨_, rfl, ?_⟩
    have o15 : OwK (Sc u8) w15 (v15 :: [v1]) 5 v15 r15 := OwK.scal o15_0 _
    have q16 : Nq v1 v15 := o0_14.nq n15_0
    replace o0_14 := o0_14.extL (Sc.stab _) x15 (Lift.call _ x15 n15_0)
    have n18 := Nw.ext hE14 n15_0
    have e17 := hE14.trans x15
    refine wla rfl rfl (q_assign (v := v15) rfl rfl) ?_
    refine wl_nil ?_
    refine W_th ?_
    refine W_ret ?_
    obtain rfl := Option.some.inj H
    refine rt1 v15 rfl rfl rfl s34_14 ?_
    exact ⟨v15, rfl, e17, n18, (o15.weak (Sc.stab _) (fun _ _ => trivial))⟩

/-! largesse/poly.Mul -/
noncomputable def poly_Mul (a0f : Bool) (a1p : List UInt8) (a2q : List UInt8) : Option (List UInt8 × Int) :=
((poly_Trim a1p).bind fun r1 =>
((poly_Trim a2q).bind fun r3 =>
(if (!a0f) = true then some (([] : List UInt8), 1)
else
(if (r1.length : Int) = 0 then some (([] : List UInt8), 0)
else
(if (r3.length : Int) = 0 then some (([] : List UInt8), 0)
else
(if 256 < (wI ((wI ((r1.length : Int) + (r3.length : Int))) - 1)) then some (([] : List UInt8), 4)
else
((makeL ((wI ((wI ((r1.length : Int) + (r3.length : Int))) - 1))) (0 : UInt8)).bind fun c9 =>
((iterC (fun s12 : List UInt8 × Int =>
(if s12.2 < (r1.length : Int) then
((idx r1 s12.2).bind fun c15 =>
((subL s12.1 s12.2 ((s12.1.length : Int))).bind fun c18 =>
((subL s12.1 s12.2 ((wI (s12.2 + (r3.length : Int))))).bind fun c19 =>
((field_Sum a0f c19 c15 r3).bind fun r20 => some (.inl ((copyL s12.1 s12.2 r20), (wI (s12.2 + 1))))))))
else some (.inr s12.1))) (c9, 0)).bind fun x12 => some (x12, 0)))))))))
set_option maxRecDepth 100000 in
set_option maxHeartbeats 8000000 in
theorem poly_Mul_calls (a0f : Bool) (a1p : List UInt8) (a2q : List UInt8) (p0 : Value) (p1 : Value) (p2 : Value) (r : List UInt8 × Int) (w0 : World) (hp0 : Fd w0 [] p0 a0f) (hp1 : By w0 [] p1 a1p) (hp2 : By w0 [] p2 a2q) (H : poly_Mul a0f a1p a2q = some r) :
    Calls Try.prog 19 [p0, p1, p2].toArray w0 (fun e w' => ∃ u0 : Value, e = .returned (.tuple #[u0, (i64 r.2)]) ∧ Ext w0 w' ∧ Nw w0 u0 ∧ OwK (Sc u8) w' [] 5 u0 r.1) := by
  have hE : Ext w0 w0 := Ext.refl w0
  unfold poly_Mul at H
  refine calls_W (n := 66) Try.func19 rfl rfl rfl ?_
  refine W_seq ?_
  refine W_reg (by kernel_rfl) ?_
  refine wla rfl rfl (q_assign (v := (.slice none 0 0)) rfl rfl) ?_
  refine wla rfl rfl (q_assign (v := (i64 0)) rfl rfl) ?_
  refine wl_nil ?_
  refine W_th ?_
  refine W_seq ?_
  refine W_reg (by kernel_rfl) ?_
  refine wla rfl rfl (q_move (v := p1) rfl rfl) ?_
  obtain ⟨r1, hr1, H⟩ := Option.bind_eq_some_iff.1 H
  refine wls rfl rfl (stp_call (vs := [p1]) Try.func27 rfl rfl rfl (ar1 rfl) (poly_Trim_calls a1p p1 r1 _ (hp1.lift (Lift.ext hE _)) hr1) ?_)
  rintro _ w1 ⟨v1, rfl, x1, n1_0, o1_0⟩
  refine ⟨_, rfl, ?_⟩
  have i1_0 : By w1 [] v1 r1 := OwK.slk (Sc.stab _) _ (OwK.scal o1_0 (v1 :: [])) (fun k hk => (Old.nil _) k (n1_0 k hk)) (fun _ h => h.2)
  have e2 := hE.trans x1
  refine wla rfl rfl (q_move (v := p2) rfl rfl) ?_
  obtain ⟨r3, hr3, H⟩ := Option.bind_eq_some_iff.1 H
  refine wls rfl rfl (stp_call (vs := [p2]) Try.func27 rfl rfl rfl (ar1 rfl) (poly_Trim_calls a2q p2 r3 _ (hp2.lift (Lift.ext e2 _)) hr3) ?_)
  rintro _ w3 ⟨v3, rfl, x3, n3_0, o3_0⟩
  refine ⟨_, rfl, ?_⟩
  have i3_0 : By w3 [] v3 r3 := OwK.slk (Sc.stab _) _ (OwK.scal o3_0 (v3 :: [])) (fun k hk => (Old.nil _) k (n3_0 k hk)) (fun _ h => h.2)
  replace i1_0 := i1_0.lift (Lift.ext x3 _)
  have e4 := e2.trans x3
  refine wla rfl rfl (q_assign (v := v1) rfl rfl) ?_
  refine wla rfl rfl (q_assign (v := v3) rfl rfl) ?_
  refine wl_nil ?_
  refine W_th ?_
  refine W_seq ?_
  refine W_block ?_
  refine W_seq ?_
  refine W_reg (by kernel_rfl) ?_
  refine wla rfl rfl (q_move (v := p0) rfl rfl) ?_
  refine wla rfl rfl (q_eqF rfl rfl rfl rfl (hp0.lift (Lift.ext e4 _))) ?_
  refine wla rfl rfl (q_assign (v := (.bool ((!a0f)))) rfl rfl) ?_
  refine wl_nil ?_
  refine W_th ?_
  refine W_cond _ rfl rfl (fun hb5 => ?_) (fun hb5 => ?_)
  · replace H := (if_pos hb5).symm.trans H
    refine W_seq ?_
    refine W_reg (by kernel_rfl) ?_
    refine wla rfl rfl (q_assign (v := (.slice none 0 0)) rfl rfl) ?_
    refine wla rfl rfl (q_assign (v := (i64 1)) rfl rfl) ?_
    refine wl_nil ?_
    refine W_th ?_
    refine W_ret ?_
    refine bk_r ?_
    refine th_r ?_
    obtain rfl := Option.some.inj H
    refine rt2 (.slice none 0 0) (i64 1) rfl rfl rfl rfl rfl rfl ?_
    exact ⟨(.slice none 0 0), rfl, e4, Nw.nil _, (OwK.nil _ _ _ _)⟩
  · replace H := (if_neg (ne_true_of_eq_false hb5)).symm.trans H
    refine W_seq ?_
    refine W_reg (by kernel_rfl) ?_
    refine wla rfl rfl (q_move (v := v1) rfl rfl) ?_
    refine wla rfl rfl (q_len rfl T22.sl rfl i1_0) ?_
    refine wla rfl rfl (q_eqI rfl rfl rfl) ?_
    refine wlb rfl rfl (q_move (v := (.bool ((decide ((r1.length : Int) = 0))))) rfl rfl) (fun hb6 => ?_) (fun hb6 => ?_)
    · replace H := (if_pos (of_decide_eq_true hb6)).symm.trans H
      refine wlk rfl rfl ?_
      refine wlk rfl rfl ?_
      refine wlk rfl rfl ?_
      refine wla rfl rfl (q_pick_t (v := (.bool true)) rfl rfl rfl) ?_
      refine wla rfl rfl (q_assign (v := (.bool true)) rfl rfl) ?_
      refine wl_nil ?_
      refine W_th ?_
      refine W_cond true rfl rfl (fun _ => ?_) (fun hb => by cases hb)
      refine W_seq ?_
      refine W_reg (by kernel_rfl) ?_
      refine wla rfl rfl (q_assign (v := (.slice none 0 0)) rfl rfl) ?_
      refine wla rfl rfl (q_assign (v := (i64 0)) rfl rfl) ?_
      refine wl_nil ?_
      refine W_th ?_
      refine W_ret ?_
      refine bk_r ?_
      refine th_r ?_
      obtain rfl := Option.some.inj H
      refine rt2 (.slice none 0 0) (i64 0) rfl rfl rfl rfl rfl rfl ?_
      exact ⟨(.slice none 0 0), rfl, e4, Nw.nil _, (OwK.nil _ _ _ _)⟩
    · replace H := (if_neg (of_decide_eq_false hb6)).symm.trans H
      refine wla rfl rfl (q_move (v := v3) rfl rfl) ?_
      refine wla rfl rfl (q_len rfl T22.sl rfl i3_0) ?_
      refine wla rfl rfl (q_eqI rfl rfl rfl) ?_
      refine wla rfl rfl (q_pick_f (v := (.bool ((decide ((r3.length : Int) = 0))))) rfl rfl rfl) ?_
      refine wla rfl rfl (q_assign (v := (.bool ((decide ((r3.length : Int) = 0))))) rfl rfl) ?_
      refine wl_nil ?_
      refine W_th ?_
      refine W_cond _ rfl rfl (fun hb7 => ?_) (fun hb7 => ?_)
      · replace H := (if_pos (of_decide_eq_true hb7)).symm.trans H
        refine W_seq ?_
        refine W_reg (by kernel_rfl) ?_
        refine wla rfl rfl (q_assign (v := (.slice none 0 0)) rfl rfl) ?_
        refine wla rfl rfl (q_assign (v := (i64 0)) rfl rfl) ?_
        refine wl_nil ?_
        refine W_th ?_
        refine W_ret ?_
        refine bk_r ?_
        refine th_r ?_
        obtain rfl := Option.some.inj H
        refine rt2 (.slice none 0 0) (i64 0) rfl rfl rfl rfl rfl rfl ?_
        exact ⟨(.slice none 0 0), rfl, e4, Nw.nil _, (OwK.nil _ _ _ _)⟩
      · replace H := (if_neg (of_decide_eq_false hb7)).symm.trans H
        refine W_seq ?_
        refine W_reg (by kernel_rfl) ?_
        refine wla rfl rfl (q_move (v := v1) rfl rfl) ?_
        refine wla rfl rfl (q_len rfl T22.sl rfl i1_0) ?_
        refine wla rfl rfl (q_move (v := v3) rfl rfl) ?_
        refine wla rfl rfl (q_len rfl T22.sl rfl i3_0) ?_
        refine wla rfl rfl (q_addI rfl rfl rfl) ?_
        refine wla rfl rfl (q_subI rfl rfl rfl) ?_
        refine wla rfl rfl (q_gtI rfl rfl rfl) ?_
        refine wla rfl rfl (q_assign (v := (.bool ((decide (256 < (wI ((wI ((r1.length : Int) + (r3.length : Int))) - 1))))))) rfl rfl) ?_
        refine wl_nil ?_
        refine W_th ?_
        refine W_cond _ rfl rfl (fun hb8 => ?_) (fun hb8 => ?_)
        · replace H := (if_pos (of_decide_eq_true hb8)).symm.trans H
          refine W_seq ?_
          refine W_reg (by kernel_rfl) ?_
          refine wla rfl rfl (q_assign (v := (.slice none 0 0)) rfl rfl) ?_
          refine wla rfl rfl (q_assign (v := (i64 4)) rfl rfl) ?_
          refine wl_nil ?_
          refine W_th ?_
          refine W_ret ?_
          refine bk_r ?_
          refine th_r ?_
          obtain rfl := Option.some.inj H
          refine rt2 (.slice none 0 0) (i64 4) rfl rfl rfl rfl rfl rfl ?_
          exact ⟨(.slice none 0 0), rfl, e4, Nw.nil _, (OwK.nil _ _ _ _)⟩
        · replace H := (if_neg (of_decide_eq_false hb8)).symm.trans H
          refine W_skip ?_
          refine bk_n ?_
          refine W_th ?_
          refine W_seq ?_
          refine W_reg (by kernel_rfl) ?_
          refine wla rfl rfl (q_move (v := v1) rfl rfl) ?_
          refine wla rfl rfl (q_len rfl T22.sl rfl i1_0) ?_
          refine wla rfl rfl (q_move (v := v3) rfl rfl) ?_
          refine wla rfl rfl (q_len rfl T22.sl rfl i3_0) ?_
          refine wla rfl rfl (q_addI rfl rfl rfl) ?_
          refine wla rfl rfl (q_subI rfl rfl rfl) ?_
          obtain ⟨c9, hc9, H⟩ := Option.bind_eq_some_iff.1 H
          refine wls rfl rfl (stp_make (L := []) (R := (Sc u8)) rfl T22 rfl rfl hc9 (fun _ _ => rfl) ?_)
          intro v9 w9 o9 n9 g9 l9
          have x9 := grown_ext g9
          replace i1_0 := i1_0.lift (Lift.call _ x9 n9)
          replace i3_0 := i3_0.lift (Lift.call _ x9 n9)
          have n11 := Nw.ext e4 n9
          have e10 := e4.trans x9
          refine wla rfl rfl (q_assign (v := v9) rfl rfl) ?_
          refine wl_nil ?_
          refine W_th ?_
          refine W_seq ?_
          refine W_seq ?_
          refine W_reg (by kernel_rfl) ?_
          refine wla rfl rfl (q_move (v := v1) rfl rfl) ?_
          refine wla rfl rfl (q_len rfl T22.sl rfl i1_0) ?_
          refine wla rfl rfl (q_move (v := (i64 0)) rfl rfl) ?_
          refine wl_nil ?_
          refine W_th ?_
          obtain ⟨x12, G12, H⟩ := Option.bind_eq_some_iff.1 H
          refine W_mid (fun f w => f 8 = v9 ∧ f 66 = undef ∧ Ext w0 w ∧ OwK (Sc u8) w [v9] 5 v9 x12 ∧ Nw w0 v9) ?_ ?_
          · refine W_block ?_
            refine W_loop (fun s12 f w => f 0 = p0 ∧ f 2 = v3 ∧ f 8 = v9 ∧ f 42 = v1 ∧ f 43 = (i64 ((r1.length : Int))) ∧ f 44 = (i64 s12.2) ∧ f 66 = undef ∧ Ext w0 w ∧ OwK (Sc u8) w [v9] 5 v9 s12.1 ∧ Nw w0 v9 ∧ By w [v9] v3 r3 ∧ By w [v9] v1 r1) G12 ?_ ?_
            · exact ⟨rfl, rfl, rfl, rfl, rfl, rfl, rfl, e10, o9, n11, i3_0, i1_0⟩
            · rintro s12 _ _ w13 ⟨s0_13, s2_13, s8_13, s42_13, s43_13, s44_13, s66_13, hE13, o0_13, n0_13, i0_13, i1_13⟩ H12 hr12
              refine W_seq ?_
              refine W_reg (by kernel_rfl) ?_
              refine wla rfl rfl (q_ltI rfl s44_13 s43_13) ?_
              refine wl_nil ?_
              refine W_th ?_
              refine W_seq ?_
              refine W_cond _ rfl rfl (fun hb14 => ?_) (fun hb14 => ?_)
              · replace H12 := (if_pos (of_decide_eq_true hb14)).symm.trans H12
                refine W_skip ?_
                refine W_th ?_
                refine W_seq ?_
                refine W_block ?_
                refine W_seq ?_
                refine W_reg (by kernel_rfl) ?_
                refine wla rfl rfl (q_move (v := (i64 s12.2)) rfl s44_13) ?_
                obtain ⟨c15, hc15, H12⟩ := Option.bind_eq_some_iff.1 H12
                refine wla rfl rfl (q_adr rfl T22 s42_13 s44_13 i1_13 hc15) ?_
                refine wlq rfl rfl (q_loadS rfl T22 rfl i1_13 hc15) ?_
                refine wla rfl rfl (q_assign (v := (i64 s12.2)) rfl rfl) ?_
                refine wla rfl rfl (q_assign (v := (u8 c15)) rfl rfl) ?_
                refine wl_nil ?_
                refine W_th ?_
                refine W_draw [] [(0, 0), (1, 0), (2, 0), (3, 0), (4, 0), (5, 0), (6, 0), (7, 0), (8, 0), (9, 0), (10, 0), (11, 0), (12, 0), (13, 2), (14, 2)] mixed (by kernel_rfl) (by kernel_rfl) (by kernel_rfl) (by kernel_rfl) ?_
                have x16 := Ext.drew w13
                replace i0_13 := i0_13.lift (Lift.ext x16 _)
                replace i1_13 := i1_13.lift (Lift.ext x16 _)
                replace o0_13 := o0_13.extL (Sc.stab _) x16 (Lift.ext x16 _)
                have e17 := hE13.trans x16
                refine wsa rfl rfl rfl (q_move (v := v9) rfl s8_13) ?_
                refine wsa rfl rfl rfl (q_move (v := (i64 s12.2)) rfl rfl) ?_
                obtain ⟨c18, hc18, H12⟩ := Option.bind_eq_some_iff.1 H12
                refine wsa rfl rfl rfl (q_slice (a := s12.2) (b := (s12.1.length : Int)) rfl T22 rfl (o0_13.rd (Sc.stab _)) rfl rfl hc18) ?_
                refine wsa rfl rfl rfl (q_move (v := p0) rfl s0_13) ?_
                refine wsa rfl rfl rfl (q_move (v := v9) rfl s8_13) ?_
                refine wsa rfl rfl rfl (q_move (v := (i64 s12.2)) rfl rfl) ?_
                refine wsa rfl rfl rfl (q_move (v := (i64 s12.2)) rfl rfl) ?_
                refine wsa rfl rfl rfl (q_move (v := v3) rfl s2_13) ?_
                refine wsa rfl rfl rfl (q_len rfl T22.sl rfl i0_13) ?_
                refine wsa rfl rfl rfl (q_addI rfl rfl rfl) ?_
                obtain ⟨c19, hc19, H12⟩ := Option.bind_eq_some_iff.1 H12
                refine wsa rfl rfl rfl (q_slice (a := s12.2) (b := (wI (s12.2 + (r3.length : Int)))) rfl T22 rfl (o0_13.rd (Sc.stab _)) rfl rfl hc19) ?_
                refine wsa rfl rfl rfl (q_move (v := (u8 c15)) rfl rfl) ?_
                refine wsa rfl rfl rfl (q_move (v := v3) rfl s2_13) ?_
                obtain ⟨r20, hr20, H12⟩ := Option.bind_eq_some_iff.1 H12
                refine wsc rfl (by kernel_rfl) rfl rfl (stp_call (vs := [p0, (subV v9 (s12.2 : Int).toNat ((wI (s12.2 + (r3.length : Int))) : Int).toNat), (u8 c15), v3]) Try.func64 rfl rfl rfl (ar4 rfl rfl rfl rfl) (field_Sum_calls a0f c19 c15 r3 p0 (subV v9 (s12.2 : Int).toNat ((wI (s12.2 + (r3.length : Int))) : Int).toNat) v3 r20 _ (hp0.lift (Lift.ext e17 _)) (SlK.cut (o0_13.rd (Sc.stab _)) hc19) (i0_13.lift (Lift.sub (fun _ _ => trivial))) hr20) ?_)
                rintro _ w20 ⟨v20, rfl, x20, n20_0, o20_0⟩
                refine ⟨_, rfl, ?_⟩
                have i20_0 : By w20 [v9] v20 r20 := OwK.slk (Sc.stab _) _ (OwK.scal o20_0 (v20 :: [v9])) (fun k hk => (Old.cons (Old.nil _) o0_13.lt) k (n20_0 k hk)) (fun _ h => h.2)
                replace i0_13 := i0_13.lift (Lift.ext x20 _)
                replace i1_13 := i1_13.lift (Lift.ext x20 _)
                replace o0_13 := o0_13.extL (Sc.stab _) x20 (Lift.ext x20 _)
                have e21 := e17.trans x20
                refine wsc rfl (by kernel_rfl) rfl rfl (stp_copy (R := (Sc u8)) (off := s12.2) (dv := (subV v9 (s12.2 : Int).toNat ((s12.1.length : Int) : Int).toNat)) (u := v20) (Sc.stab _) [] [] rfl T22 rfl rfl o0_13 rfl (subL_some.1 hc18).1.1 (subL_lo hc18) i20_0 (fun _ _ h => h) oc_u8 ?_)
                intro w22 o22 g22 l22
                replace i0_13 := i0_13.lift l22
                replace i1_13 := i1_13.lift l22
                replace i20_0 := i20_0.lift l22
                have e23 := e21.grown g22 n0_13
                refine ws_nil ?_
                refine bk_n ?_
                refine W_th ?_
                refine W_reg (by kernel_rfl) ?_
                refine wla rfl rfl (q_addI rfl s44_13 rfl) ?_
                refine wla rfl rfl (q_move (v := (i64 ((wI (s12.2 + 1))))) rfl rfl) ?_
                refine wl_nil ?_
                obtain rfl := Option.some.inj H12
                exact ⟨_, rfl, s0_13, s2_13, s8_13, s42_13, s43_13, rfl, s66_13, e23, o22, n0_13, i0_13, i1_13⟩
              · replace H12 := (if_neg (of_decide_eq_false hb14)).symm.trans H12
                refine W_exit ?_
                refine th_x ?_
                obtain rfl := Option.some.inj H12
                obtain rfl := hr12 _ rfl
                refine th_x ?_
                refine bk_x ?_
                exact ⟨s8_13, s66_13, hE13, o0_13, n0_13⟩
          · rintro _ w25 ⟨s8_25, s66_25, hE25, o0_25, n0_25⟩
            refine W_th ?_
            refine W_seq ?_
            refine W_reg (by kernel_rfl) ?_
            refine wla rfl rfl (q_move (v := v9) rfl s8_25) ?_
            refine wla rfl rfl (q_assign (v := v9) rfl rfl) ?_
            refine wla rfl rfl (q_assign (v := (i64 0)) rfl rfl) ?_
            refine wl_nil ?_
            refine W_th ?_
            refine W_ret ?_
            obtain rfl := Option.some.inj H
            refine rt2 v9 (i64 0) rfl rfl rfl rfl rfl s66_25 ?_
            exact ⟨v9, rfl, hE25, n0_25, (o0_25.weak (Sc.stab _) (fun _ _ => trivial))⟩

/-! largesse/poly.Vanish -/
noncomputable def poly_Vanish (a0f : Bool) (a1xs : List UInt8) : Option (List UInt8 × Int) :=
(if (!a0f) = true then some (([] : List UInt8), 1)
else
(if 255 < (a1xs.length : Int) then some (([] : List UInt8), 4)
else
((iterC (fun s6 : List UInt8 × Int =>
(if s6.2 < (a1xs.length : Int) then
((idx a1xs s6.2).bind fun c9 =>
((poly_Mul a0f s6.1 ([c9, (1 : UInt8)] : List UInt8)).bind fun r12 => some (.inl (r12.1, (wI (s6.2 + 1))))))
else some (.inr s6.1))) (([(1 : UInt8)] : List UInt8), 0)).bind fun x6 => some (x6, 0))))
set_option maxRecDepth 100000 in
set_option maxHeartbeats 8000000 in
theorem poly_Vanish_calls (a0f : Bool) (a1xs : List UInt8) (p0 : Value) (p1 : Value) (r : List UInt8 × Int) (w0 : World) (hp0 : Fd w0 [] p0 a0f) (hp1 : By w0 [] p1 a1xs) (H : poly_Vanish a0f a1xs = some r) :
    Calls Try.prog 30 [p0, p1].toArray w0 (fun e w' => ∃ u0 : Value, e = .returned (.tuple #[u0, (i64 r.2)]) ∧ Ext w0 w' ∧ Nw w0 u0 ∧ OwK (Sc u8) w' [] 5 u0 r.1) := by
  have hE : Ext w0 w0 := Ext.refl w0
  unfold poly_Vanish at H
  refine calls_W (n := 33) Try.func30 rfl rfl rfl ?_
  refine W_seq ?_
  refine W_reg (by kernel_rfl) ?_
  refine wla rfl rfl (q_assign (v := (.slice none 0 0)) rfl rfl) ?_
  refine wla rfl rfl (q_assign (v := (i64 0)) rfl rfl) ?_
  refine wl_nil ?_
  refine W_th ?_
  refine W_seq ?_
  refine W_block ?_
  refine W_seq ?_
  refine W_reg (by kernel_rfl) ?_
  refine wla rfl rfl (q_move (v := p0) rfl rfl) ?_
  refine wla rfl rfl (q_eqF rfl rfl rfl rfl (hp0.lift (Lift.ext hE _))) ?_
  refine wla rfl rfl (q_assign (v := (.bool ((!a0f)))) rfl rfl) ?_
  refine wl_nil ?_
  refine W_th ?_
  refine W_cond _ rfl rfl (fun hb1 => ?_) (fun hb1 => ?_)
  · replace H := (if_pos hb1).symm.trans H
    refine W_seq ?_
    refine W_reg (by kernel_rfl) ?_
    refine wla rfl rfl (q_assign (v := (.slice none 0 0)) rfl rfl) ?_
    refine wla rfl rfl (q_assign (v := (i64 1)) rfl rfl) ?_
    refine wl_nil ?_
    refine W_th ?_
    refine W_ret ?_
    refine bk_r ?_
    refine th_r ?_
    obtain rfl := Option.some.inj H
    refine rt2 (.slice none 0 0) (i64 1) rfl rfl rfl rfl rfl rfl ?_
    exact ⟨(.slice none 0 0), rfl, hE, Nw.nil _, (OwK.nil _ _ _ _)⟩
  · replace H := (if_neg (ne_true_of_eq_false hb1)).symm.trans H
    refine W_seq ?_
    refine W_reg (by kernel_rfl) ?_
    refine wla rfl rfl (q_move (v := p1) rfl rfl) ?_
    refine wla rfl rfl (q_len rfl T22.sl rfl (hp1.lift (Lift.ext hE _))) ?_
    refine wla rfl rfl (q_gtI rfl rfl rfl) ?_
    refine wla rfl rfl (q_assign (v := (.bool ((decide (255 < (a1xs.length : Int)))))) rfl rfl) ?_
    refine wl_nil ?_
    refine W_th ?_
    refine W_cond _ rfl rfl (fun hb2 => ?_) (fun hb2 => ?_)
    · replace H := (if_pos (of_decide_eq_true hb2)).symm.trans H
      refine W_seq ?_
      refine W_reg (by kernel_rfl) ?_
      refine wla rfl rfl (q_assign (v := (.slice none 0 0)) rfl rfl) ?_
      refine wla rfl rfl (q_assign (v := (i64 4)) rfl rfl) ?_
      refine wl_nil ?_
      refine W_th ?_
      refine W_ret ?_
      refine bk_r ?_
      refine th_r ?_
      obtain rfl := Option.some.inj H
      refine rt2 (.slice none 0 0) (i64 4) rfl rfl rfl rfl rfl rfl ?_
      exact ⟨(.slice none 0 0), rfl, hE, Nw.nil _, (OwK.nil _ _ _ _)⟩
    · replace H := (if_neg (of_decide_eq_false hb2)).symm.trans H
      refine W_skip ?_
      refine bk_n ?_
      refine W_th ?_
      refine W_seq ?_
      refine W_reg (by kernel_rfl) ?_
      refine wls rfl rfl (stp_lit (L := []) (R := (Sc u8)) [(u8 1)] ([(1 : UInt8)] : List UInt8) rfl T22 rfl (by exact ⟨rfl, (cst8 (1 : UInt8) rfl), trivial⟩) rfl (litC u8 (oneC_u8) (us := [(u8 1)]) (l := ([(1 : UInt8)] : List UInt8)) rfl) rfl (litS u8 (us := [(u8 1)]) (l := ([(1 : UInt8)] : List UInt8)) rfl) ?_)
      intro v3 w3 o3 n3 g3 l3
      have x3 := grown_ext g3
      have n5 := Nw.ext hE n3
      have e4 := hE.trans x3
      refine wla rfl rfl (q_assign (v := v3) rfl rfl) ?_
      refine wl_nil ?_
      refine W_th ?_
      refine W_seq ?_
      refine W_seq ?_
      refine W_reg (by kernel_rfl) ?_
      refine wla rfl rfl (q_move (v := p1) rfl rfl) ?_
      refine wla rfl rfl (q_len rfl T22.sl rfl (hp1.lift (Lift.ext e4 _))) ?_
      refine wla rfl rfl (q_move (v := (i64 0)) rfl rfl) ?_
      refine wl_nil ?_
      refine W_th ?_
      obtain ⟨x6, G6, H⟩ := Option.bind_eq_some_iff.1 H
      refine W_mid (fun f w => ∃ v6_18 : Value, f 6 = v6_18 ∧ f 33 = undef ∧ Ext w0 w ∧ OwK (Sc u8) w [v6_18] 5 v6_18 x6 ∧ Nw w0 v6_18) ?_ ?_
      · refine W_block ?_
        refine W_loop (fun s6 f w => ∃ v6_16 : Value, f 0 = p0 ∧ f 6 = v6_16 ∧ f 17 = p1 ∧ f 18 = (i64 ((a1xs.length : Int))) ∧ f 19 = (i64 s6.2) ∧ f 33 = undef ∧ Ext w0 w ∧ OwK (Sc u8) w [v6_16] 5 v6_16 s6.1 ∧ Nw w0 v6_16) G6 ?_ ?_
        · exact ⟨v3, rfl, rfl, rfl, rfl, rfl, rfl, e4, o3, n5⟩
        · rintro s6 _ _ w7 ⟨v6_7, s0_7, s6_7, s17_7, s18_7, s19_7, s33_7, hE7, o0_7, n0_7⟩ H6 hr6
          refine W_seq ?_
          refine W_reg (by kernel_rfl) ?_
          refine wla rfl rfl (q_ltI rfl s19_7 s18_7) ?_
          refine wl_nil ?_
          refine W_th ?_
          refine W_seq ?_
          refine W_cond _ rfl rfl (fun hb8 => ?_) (fun hb8 => ?_)
          · replace H6 := (if_pos (of_decide_eq_true hb8)).symm.trans H6
            refine W_skip ?_
            refine W_th ?_
            refine W_seq ?_
            refine W_block ?_
            refine W_seq ?_
            refine W_reg (by kernel_rfl) ?_
            obtain ⟨c9, hc9, H6⟩ := Option.bind_eq_some_iff.1 H6
            refine wla rfl rfl (q_adr rfl T22 s17_7 s19_7 (hp1.lift (Lift.ext hE7 _)) hc9) ?_
            refine wlq rfl rfl (q_loadS rfl T22 rfl (hp1.lift (Lift.ext hE7 _)) hc9) ?_
            refine wla rfl rfl (q_assign (v := (u8 c9)) rfl rfl) ?_
            refine wl_nil ?_
            refine W_th ?_
            refine W_reg (by kernel_rfl) ?_
            refine wla rfl rfl (q_move (v := p0) rfl s0_7) ?_
            refine wla rfl rfl (q_move (v := v6_7) rfl s6_7) ?_
            refine wla rfl rfl (q_move (v := (u8 c9)) rfl rfl) ?_
            refine wls rfl rfl (stp_lit (L := [v6_7]) (R := (Sc u8)) [(u8 c9), (u8 1)] ([c9, (1 : UInt8)] : List UInt8) rfl T22 rfl (by exact ⟨rfl, rfl, rfl, (cst8 (1 : UInt8) rfl), trivial⟩) rfl (litC u8 (oneC_u8) (us := [(u8 c9), (u8 1)]) (l := ([c9, (1 : UInt8)] : List UInt8)) rfl) rfl (litS u8 (us := [(u8 c9), (u8 1)]) (l := ([c9, (1 : UInt8)] : List UInt8)) rfl) ?_)
            intro v10 w10 o10 n10 g10 l10
            have x10 := grown_ext g10
            have i10 : By w10 [v6_7] v10 (([c9, (1 : UInt8)] : List UInt8)) := OwK.slk (Sc.stab _) _ o10 (fun k hk => (Old.cons (Old.nil _) o0_7.lt) k (n10 k hk)) (fun _ h => h.2)
            replace o0_7 := o0_7.extL (Sc.stab _) x10 (Lift.ext x10 _)
            have e11 := hE7.trans x10
            obtain ⟨r12, hr12, H6⟩ := Option.bind_eq_some_iff.1 H6
            refine wls rfl rfl (stp_call (vs := [p0, v6_7, v10]) Try.func19 rfl rfl rfl (ar3 rfl rfl rfl) (poly_Mul_calls a0f s6.1 ([c9, (1 : UInt8)] : List UInt8) p0 v6_7 v10 r12 _ (hp0.lift (Lift.ext e11 _)) (o0_7.rd (Sc.stab _)) (i10.lift (Lift.sub (fun _ _ => trivial))) hr12) ?_)
            rintro _ w12 ⟨v12_0, rfl, x12, n12_0, o12_0⟩
            refine ⟨_, rfl, ?_⟩
            have o12 : OwK (Sc u8) w12 (v12_0 :: [v6_7]) 5 v12_0 r12.1 := OwK.scal o12_0 _
            have q13 : Nq v6_7 v12_0 := o0_7.nq n12_0
            replace i10 := i10.lift (Lift.call _ x12 n12_0)
            replace o0_7 := o0_7.extL (Sc.stab _) x12 (Lift.call _ x12 n12_0)
            have n15 := Nw.ext e11 n12_0
            have e14 := e11.trans x12
            refine wla rfl rfl (q_move (v := (.tuple #[v12_0, (i64 r12.2)])) rfl rfl) ?_
            refine wla rfl rfl (q_extract rfl rfl rfl) ?_
            refine wla rfl rfl (q_extract rfl rfl rfl) ?_
            refine wla rfl rfl (q_assign (v := v12_0) rfl rfl) ?_
            refine wl_nil ?_
            refine bk_n ?_
            refine W_th ?_
            refine W_reg (by kernel_rfl) ?_
            refine wla rfl rfl (q_addI rfl s19_7 rfl) ?_
            refine wla rfl rfl (q_move (v := (i64 ((wI (s6.2 + 1))))) rfl rfl) ?_
            refine wl_nil ?_
            obtain rfl := Option.some.inj H6
            exact ⟨_, rfl, v12_0, s0_7, rfl, s17_7, s18_7, rfl, s33_7, e14, (o12.weak (Sc.stab _) (fun _ h => ⟨h.1, trivial⟩)), n15⟩
          · replace H6 := (if_neg (of_decide_eq_false hb8)).symm.trans H6
            refine W_exit ?_
            refine th_x ?_
            obtain rfl := Option.some.inj H6
            obtain rfl := hr6 _ rfl
            refine th_x ?_
            refine bk_x ?_
            exact ⟨v6_7, s6_7, s33_7, hE7, o0_7, n0_7⟩
      · rintro _ w17 ⟨v6_17, s6_17, s33_17, hE17, o0_17, n0_17⟩
        refine W_th ?_
        refine W_seq ?_
        refine W_reg (by kernel_rfl) ?_
        refine wla rfl rfl (q_move (v := v6_17) rfl s6_17) ?_
        refine wla rfl rfl (q_assign (v := v6_17) rfl rfl) ?_
        refine wla rfl rfl (q_assign (v := (i64 0)) rfl rfl) ?_
        refine wl_nil ?_
        refine W_th ?_
        refine W_ret ?_
        obtain rfl := Option.some.inj H
        refine rt2 v6_17 (i64 0) rfl rfl rfl rfl rfl s33_17 ?_
        exact ⟨v6_17, rfl, hE17, n0_17, (o0_17.weak (Sc.stab _) (fun _ _ => trivial))⟩

/-! largesse/poly.Eval -/
noncomputable def poly_Eval (a0f : Bool) (a1p : List UInt8) (a2x : UInt8) : Option UInt8 :=
((lim a1p.length).bind fun lim19 =>
((rangeL (fun (s19 : UInt8) (y19 : (Int × UInt8)) =>
((field_Mul a0f s19 a2x).bind fun r22 =>
((field_Add r22 y19.2).bind fun r25 => some r25))) (revI a1p) (0 : UInt8)).bind fun x19 =>
(if (!a0f) = true then some (0 : UInt8)
else some x19)))
set_option maxRecDepth 100000 in
set_option maxHeartbeats 8000000 in
theorem poly_Eval_calls (a0f : Bool) (a1p : List UInt8) (a2x : UInt8) (p0 : Value) (p1 : Value) (r : UInt8) (w0 : World) (hp0 : Fd w0 [] p0 a0f) (hp1 : By w0 [] p1 a1p) (H : poly_Eval a0f a1p a2x = some r) :
    Calls Try.prog 21 [p0, p1, (u8 a2x)].toArray w0 (fun e w' => e = .returned (u8 r) ∧ Ext w0 w') := by
  have hE : Ext w0 w0 := Ext.refl w0
  unfold poly_Eval at H
  refine calls_W (n := 23) Try.func21 rfl rfl rfl ?_
  refine W_seq ?_
  refine W_reg (by kernel_rfl) ?_
  refine wls rfl rfl (stp_boxL (v := p0) (cs := #[p0]) [] rfl rfl (cells_fd (hp0.lift (Lift.ext hE _))) ?_)
  intro g1 w1 o1 n1 g1r l1
  have x1 := grown_ext g1r
  have n3 := Nw.ext hE n1
  have e2 := hE.trans x1
  refine wls rfl rfl (stp_boxL (v := (u8 a2x)) (cs := #[(u8 a2x)]) [(bp g1)] rfl rfl rfl ?_)
  intro g4 w4 o4 n4 g4r l4
  have x4 := grown_ext g4r
  have q5 : Nq (bp g1) (bp g4) := o1.nq n4
  replace o1 := o1.ext x4
  have n7 := Nw.ext e2 n4
  have e6 := e2.trans x4
  refine wla rfl rfl (q_assign (v := (u8 0)) rfl (cst8 (0 : UInt8) rfl)) ?_
  refine wl_nil ?_
  refine W_th ?_
  refine W_seq ?_
  refine W_reg (by kernel_rfl) ?_
  refine wls rfl rfl (stp_allocL (z := (u8 0)) (cs := #[(u8 0)]) [(bp g4), (bp g1)] rfl Try.zeroValue5 rfl ?_)
  intro g8 w8 o8 n8 g8r l8
  have x8 := grown_ext g8r
  have q9 : Nq (bp g4) (bp g8) := o4.nq n8
  have q10 : Nq (bp g1) (bp g8) := o1.nq n8
  replace o4 := o4.ext x8
  replace o1 := o1.ext x8
  have n12 := Nw.ext e6 n8
  have e11 := e6.trans x8
  refine wl_nil ?_
  refine W_th ?_
  refine W_seq ?_
  refine W_seq ?_
  refine W_reg (by kernel_rfl) ?_
  refine wla rfl rfl (q_move (v := p1) rfl rfl) ?_
  refine wls rfl rfl (stp_call (vs := [p1]) Try.func65 rfl rfl rfl (ar1 rfl) (Backward_callsG _ (cells_sl _ _ (hp1.lift (Lift.ext e11 _))) _) ?_)
  rintro _ w13 ⟨g13, rfl, n13, o13, x13⟩
  refine ⟨_, rfl, ?_⟩
  have q14 : Nq (bp g8) (bp g13) := o8.nq n13
  have q15 : Nq (bp g4) (bp g13) := o4.nq n13
  have q16 : Nq (bp g1) (bp g13) := o1.nq n13
  replace o8 := o8.ext x13
  replace o4 := o4.ext x13
  replace o1 := o1.ext x13
  have n18 := Nw.ext e11 n13
  have e17 := e11.trans x13
  refine wl_nil ?_
  refine W_th ?_
  refine W_block ?_
  obtain ⟨lim19, hl19, H⟩ := Option.bind_eq_some_iff.1 H
  obtain ⟨x19, G19, H⟩ := Option.bind_eq_some_iff.1 H
  refine W_rangeS (π := fun x : BwEl (· = a1p) => x.1) (xs := (revI a1p)) (ea := fun x => i64 x.1.1) (eb := fun x => u8 x.1.2) (Rd := RdB (· = a1p) g13 p1) (gf := 91) (lb := #[(bp g13)]) G19 rfl rfl rfl (enters Try.func91 rfl rfl) ((revI_len _).symm) (backward_gen (· = a1p) _ (fun l h => congrArg List.length h) p1 g13 _ ⟨o13, _, rfl, (hp1.lift (Lift.ext e17 _))⟩ (lim_lt hl19)) (fun ys h => bw_exact h) bw_mem (fun _ _ t h => h.tn t) rfl rfl (fun s19 w => Ext w0 w ∧ Blk w g1 24 #[p0] ∧ Nw w0 (bp g1) ∧ Blk w g4 5 #[(u8 a2x)] ∧ Nw w0 (bp g4) ∧ Blk w g8 5 #[(u8 s19)] ∧ Nw w0 (bp g8) ∧ Blk w g13 22 #[p1] ∧ Nw w0 (bp g13) ∧ Nq (bp g1) (bp g4) ∧ Nq (bp g1) (bp g8) ∧ Nq (bp g1) (bp g13) ∧ Nq (bp g4) (bp g8) ∧ Nq (bp g4) (bp g13) ∧ Nq (bp g8) (bp g13)) ?_ ⟨e17, o1, n3, o4, n7, o8, n12, o13, n18, q5, q10, q16, q9, q15, q14⟩ (fun x f => upd (f) 9 (u8 x.1.2)) ?_ ?_ ?_
  · rintro s19 W W' t ⟨hE20, o0_20, n0_20, o1_20, n1_20, o2_20, n2_20, o3_20, n3_20, q0_1_20, q0_2_20, q0_3_20, q1_2_20, q1_3_20, q2_3_20⟩
    exact ⟨(hE20.tn t e17.size), (o0_20.tn t), n0_20, (o1_20.tn t), n1_20, (o2_20.tn t), n2_20, (o3_20.tn t), n3_20, q0_1_20, q0_2_20, q0_3_20, q1_2_20, q1_3_20, q2_3_20⟩
  · intro l x W1 K hK
    refine W_reg (by kernel_rfl) ?_
    refine wla rfl rfl (q_assign (v := u8 x.1.2) rfl rfl) ?_
    refine wl_nil ?_
    exact hK
  · rintro l ⟨y19, hy19⟩ s19 sp19 w21 ⟨hE21, o0_21, n0_21, o1_21, n1_21, o2_21, n2_21, o3_21, n3_21, q0_1_21, q0_2_21, q0_3_21, q1_2_21, q1_3_21, q2_3_21⟩ H19
    have kf19 := KeepsFrom.refl w13.heap.size w21
    refine W_block ?_
    refine W_reg (by kernel_rfl) ?_
    refine wlq rfl rfl (q_loadB (u := p0) rfl Try.isAgg24 rfl o0_21 rfl) ?_
    refine wlq rfl rfl (q_loadB (u := (u8 s19)) rfl Try.isAgg5 rfl o2_21 rfl) ?_
    refine wlq rfl rfl (q_loadB (u := (u8 a2x)) rfl Try.isAgg5 rfl o1_21 rfl) ?_
    obtain ⟨r22, hr22, H19⟩ := Option.bind_eq_some_iff.1 H19
    refine wls rfl rfl (stp_call (vs := [p0, (u8 s19), (u8 a2x)]) Try.func23 rfl rfl rfl (ar3 rfl rfl rfl) (field_Mul_calls a0f s19 a2x p0 r22 _ (hp0.lift (Lift.ext hE21 _)) hr22) ?_)
    rintro _ w22 ⟨rfl, x22⟩
    refine ⟨_, rfl, ?_⟩
    replace o0_21 := o0_21.ext x22
    replace o1_21 := o1_21.ext x22
    replace o2_21 := o2_21.ext x22
    replace o3_21 := o3_21.ext x22
    have k23 := kf19.ext x22
    have e24 := hE21.trans x22
    refine wla rfl rfl (q_move (v := (u8 y19.2)) rfl rfl) ?_
    obtain ⟨r25, hr25, H19⟩ := Option.bind_eq_some_iff.1 H19
    refine wls rfl rfl (stp_call (vs := [(u8 r22), (u8 y19.2)]) Try.func22 rfl rfl rfl (ar2 rfl rfl) (field_Add_calls r22 y19.2  r25 _  hr25) ?_)
    rintro _ w25 ⟨rfl, x25⟩
    refine ⟨_, rfl, ?_⟩
    replace o0_21 := o0_21.ext x25
    replace o1_21 := o1_21.ext x25
    replace o2_21 := o2_21.ext x25
    replace o3_21 := o3_21.ext x25
    have k26 := k23.ext x25
    have e27 := e24.trans x25
    refine wln rfl rfl (stp_storeL (u := (u8 r25)) [(bp g1), (bp g4)] [(bp g13)] rfl Try.sizeOf5 rfl rfl o2_21 rfl ?_)
    intro w28 o28 g28 l28
    have k29 := k26.own g28 o2_21.cl
    replace o0_21 := o0_21.other g28 q0_2_21
    replace o1_21 := o1_21.other g28 q1_2_21
    replace o3_21 := o3_21.other g28 q2_3_21.symm
    have e30 := e27.grown g28 n2_21
    refine wl_nil ?_
    refine bk_n ?_
    obtain rfl := Option.some.inj H19
    exact ⟨k29, ⟨o3_21, _, rfl, (hp1.lift (Lift.ext e30 _))⟩, e30, o0_21, n0_21, o1_21, n1_21, o28, n2_21, o3_21, n3_21, q0_1_21, q0_2_21, q0_3_21, q1_2_21, q1_3_21, q2_3_21⟩
  · intro D19 w31 hD19 ⟨hE31, o0_31, n0_31, o1_31, n1_31, o2_31, n2_31, o3_31, n3_31, q0_1_31, q0_2_31, q0_3_31, q1_2_31, q1_3_31, q2_3_31⟩ hK19
    have hd19 := Nat.le_trans e17.size hD19
    have kd19 := KeepsFrom.refl 0 w31
    refine bk_n ?_
    refine W_th ?_
    refine W_seq ?_
    refine W_seq ?_
    refine W_reg (by kernel_rfl) ?_
    refine wlq rfl rfl (q_loadB (u := p0) rfl Try.isAgg24 rfl o0_31 rfl) ?_
    refine wla rfl rfl (q_eqF rfl rfl rfl rfl (hp0.lift (Lift.ext hE31 _))) ?_
    refine wl_nil ?_
    refine W_th ?_
    refine W_cond _ rfl rfl (fun hb32 => ?_) (fun hb32 => ?_)
    · replace H := (if_pos hb32).symm.trans H
      refine W_seq ?_
      refine W_reg (by kernel_rfl) ?_
      refine wla rfl rfl (q_assign (v := (u8 0)) rfl (cst8 (0 : UInt8) rfl)) ?_
      refine wl_nil ?_
      refine W_th ?_
      refine W_ret ?_
      refine th_r ?_
      obtain rfl := Option.some.inj H
      have hk33 := kd19.same D19 _ (Nat.zero_le _) hK19 rfl
      have t33 := Tn.put hk33 hd19 (.deferred none)
      refine rtm1 (u8 0) rfl rfl rfl rfl hk33 ?_
      exact ⟨rfl, (hE31.tn t33 (Nat.le_refl _))⟩
    · replace H := (if_neg (ne_true_of_eq_false hb32)).symm.trans H
      refine W_skip ?_
      refine W_th ?_
      refine W_seq ?_
      refine W_reg (by kernel_rfl) ?_
      refine wlq rfl rfl (q_loadB (u := (u8 x19)) rfl Try.isAgg5 rfl o2_31 rfl) ?_
      refine wla rfl rfl (q_assign (v := (u8 x19)) rfl rfl) ?_
      refine wl_nil ?_
      refine W_th ?_
      refine W_ret ?_
      obtain rfl := Option.some.inj H
      have hk34 := kd19.same D19 _ (Nat.zero_le _) hK19 rfl
      have t34 := Tn.put hk34 hd19 (.deferred none)
      refine rtm1 (u8 x19) rfl rfl rfl rfl hk34 ?_
      exact ⟨rfl, (hE31.tn t34 (Nat.le_refl _))⟩

end Gk

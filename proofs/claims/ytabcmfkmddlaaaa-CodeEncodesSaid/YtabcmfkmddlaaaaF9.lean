/- Printed by gen.py: for each Go function a pure function, and that the Go code comes to it. No condition beside the equation that says what the pure function gives. -/
import Derived.Test.YtabcmfkmddlaaaaL8a
set_option linter.unusedVariables false
set_option linter.unusedSimpArgs false
namespace Gk
open Go Go.Proofs

/-! largesse/code.member -/
noncomputable def code_member (a0n : Int) : Option Bool :=
(if 1 ≤ a0n then some (decide (a0n ≤ 255))
else some false)
set_option maxRecDepth 100000 in
set_option maxHeartbeats 8000000 in
theorem code_member_calls (a0n : Int) (r : Bool) (w0 : World) (H : code_member a0n = some r) :
    Calls Try.prog 56 [(i64 a0n)].toArray w0 (fun e w' => e = .returned (.bool r) ∧ Ext w0 w') := by
  have hE : Ext w0 w0 := Ext.refl w0
  unfold code_member at H
  refine calls_W (n := 9) Try.func56 rfl rfl rfl ?_
  refine W_seq ?_
  refine W_reg (by kernel_rfl) ?_
  refine wla rfl rfl (q_assign (v := (.bool false)) rfl rfl) ?_
  refine wl_nil ?_
  refine W_th ?_
  refine W_seq ?_
  refine W_reg (by kernel_rfl) ?_
  refine wla rfl rfl (q_move (v := (i64 a0n)) rfl rfl) ?_
  refine wla rfl rfl (q_geI rfl rfl rfl) ?_
  refine wlb rfl rfl (q_move (v := (.bool ((decide (1 ≤ a0n))))) rfl rfl) (fun hb1 => ?_) (fun hb1 => ?_)
  · replace H := (if_pos (of_decide_eq_true hb1)).symm.trans H
    refine wla rfl rfl (q_move (v := (i64 a0n)) rfl rfl) ?_
    refine wla rfl rfl (q_leI rfl rfl rfl) ?_
    refine wla rfl rfl (q_pick_t (v := (.bool ((decide (a0n ≤ 255))))) rfl rfl rfl) ?_
    refine wla rfl rfl (q_assign (v := (.bool ((decide (a0n ≤ 255))))) rfl rfl) ?_
    refine wl_nil ?_
    refine W_th ?_
    refine W_ret ?_
    obtain rfl := Option.some.inj H
    refine rt1 (.bool ((decide (a0n ≤ 255)))) rfl rfl rfl rfl ?_
    exact ⟨rfl, hE⟩
  · replace H := (if_neg (of_decide_eq_false hb1)).symm.trans H
    refine wlk rfl rfl ?_
    refine wlk rfl rfl ?_
    refine wla rfl rfl (q_pick_f (v := (.bool false)) rfl rfl rfl) ?_
    refine wla rfl rfl (q_assign (v := (.bool false)) rfl rfl) ?_
    refine wl_nil ?_
    refine W_th ?_
    refine W_ret ?_
    obtain rfl := Option.some.inj H
    refine rt1 (.bool false) rfl rfl rfl rfl ?_
    exact ⟨rfl, hE⟩

/-! largesse/code.places -/
noncomputable def code_places (a0n : Int) : Option (List UInt8) :=
((makeL a0n (0 : UInt8)).bind fun c1 =>
((iterC (fun s4 : List UInt8 × Int =>
(if s4.2 < (c1.length : Int) then
((idx s4.1 s4.2).bind fun c7 => some (.inl ((s4.1.set (s4.2 : Int).toNat ((UInt8.ofInt ((wI (s4.2 + 1)))))), (wI (s4.2 + 1)))))
else some (.inr s4.1))) (c1, 0)).bind fun x4 => some x4))
set_option maxRecDepth 100000 in
set_option maxHeartbeats 8000000 in
theorem code_places_calls (a0n : Int) (r : List UInt8) (w0 : World) (H : code_places a0n = some r) :
    Calls Try.prog 58 [(i64 a0n)].toArray w0 (fun e w' => ∃ u0 : Value, e = .returned u0 ∧ Ext w0 w' ∧ Nw w0 u0 ∧ OwK (Sc u8) w' [] 5 u0 r) := by
  have hE : Ext w0 w0 := Ext.refl w0
  unfold code_places at H
  refine calls_W (n := 20) Try.func58 rfl rfl rfl ?_
  refine W_seq ?_
  refine W_reg (by kernel_rfl) ?_
  refine wla rfl rfl (q_assign (v := (.slice none 0 0)) rfl rfl) ?_
  refine wl_nil ?_
  refine W_th ?_
  refine W_seq ?_
  refine W_reg (by kernel_rfl) ?_
  refine wla rfl rfl (q_move (v := (i64 a0n)) rfl rfl) ?_
  obtain ⟨c1, hc1, H⟩ := Option.bind_eq_some_iff.1 H
  refine wls rfl rfl (stp_make (L := []) (R := (Sc u8)) rfl T22 rfl rfl hc1 (fun _ _ => rfl) ?_)
  intro v1 w1 o1 n1 g1 l1
  have x1 := grown_ext g1
  have n3 := Nw.ext hE n1
  have e2 := hE.trans x1
  refine wla rfl rfl (q_assign (v := v1) rfl rfl) ?_
  refine wl_nil ?_
  refine W_th ?_
  refine W_seq ?_
  refine W_seq ?_
  refine W_reg (by kernel_rfl) ?_
  refine wla rfl rfl (q_move (v := v1) rfl rfl) ?_
  refine wla rfl rfl (q_len rfl T22.sl rfl (o1.rd (Sc.stab _))) ?_
  refine wla rfl rfl (q_move (v := (i64 0)) rfl rfl) ?_
  refine wl_nil ?_
  refine W_th ?_
  obtain ⟨x4, G4, H⟩ := Option.bind_eq_some_iff.1 H
  refine W_mid (fun f w => f 3 = v1 ∧ f 20 = undef ∧ Ext w0 w ∧ OwK (Sc u8) w [v1] 5 v1 x4 ∧ Nw w0 v1) ?_ ?_
  · refine W_block ?_
    refine W_loop (fun s4 f w => f 3 = v1 ∧ f 8 = (i64 ((c1.length : Int))) ∧ f 9 = (i64 s4.2) ∧ f 20 = undef ∧ Ext w0 w ∧ OwK (Sc u8) w [v1] 5 v1 s4.1 ∧ Nw w0 v1) G4 ?_ ?_
    · exact ⟨rfl, rfl, rfl, rfl, e2, o1, n3⟩
    · rintro s4 _ _ w5 ⟨s3_5, s8_5, s9_5, s20_5, hE5, o0_5, n0_5⟩ H4 hr4
      refine W_seq ?_
      refine W_reg (by kernel_rfl) ?_
      refine wla rfl rfl (q_ltI rfl s9_5 s8_5) ?_
      refine wl_nil ?_
      refine W_th ?_
      refine W_seq ?_
      refine W_cond _ rfl rfl (fun hb6 => ?_) (fun hb6 => ?_)
      · replace H4 := (if_pos (of_decide_eq_true hb6)).symm.trans H4
        refine W_skip ?_
        refine W_th ?_
        refine W_seq ?_
        refine W_block ?_
        refine W_seq ?_
        refine W_reg (by kernel_rfl) ?_
        refine wla rfl rfl (q_move (v := (i64 s4.2)) rfl s9_5) ?_
        refine wla rfl rfl (q_assign (v := (i64 s4.2)) rfl rfl) ?_
        refine wl_nil ?_
        refine W_th ?_
        refine W_reg (by kernel_rfl) ?_
        refine wla rfl rfl (q_move (v := v1) rfl s3_5) ?_
        refine wla rfl rfl (q_move (v := (i64 s4.2)) rfl rfl) ?_
        refine wla rfl rfl (q_move (v := (i64 s4.2)) rfl rfl) ?_
        refine wla rfl rfl (q_addI rfl rfl rfl) ?_
        refine wla rfl rfl (q_cvt8I rfl rfl rfl rfl) ?_
        obtain ⟨c7, hc7, H4⟩ := Option.bind_eq_some_iff.1 H4
        refine wla rfl rfl (q_adr rfl T22 rfl rfl (o0_5.rd (Sc.stab _)) hc7) ?_
        refine wln rfl rfl (stp_store (R := (Sc u8)) (u := (u8 ((UInt8.ofInt ((wI (s4.2 + 1))))))) (Sc.stab _) [] [] rfl T22 rfl rfl o0_5 (put_of ((UInt8.ofInt ((wI (s4.2 + 1))))) hc7) rfl rfl ?_)
        intro w8 o8 g8 l8
        have e9 := hE5.grown g8 n0_5
        refine wl_nil ?_
        refine bk_n ?_
        refine W_th ?_
        refine W_reg (by kernel_rfl) ?_
        refine wla rfl rfl (q_addI rfl s9_5 rfl) ?_
        refine wla rfl rfl (q_move (v := (i64 ((wI (s4.2 + 1))))) rfl rfl) ?_
        refine wl_nil ?_
        obtain rfl := Option.some.inj H4
        exact ⟨_, rfl, s3_5, s8_5, rfl, s20_5, e9, o8, n0_5⟩
      · replace H4 := (if_neg (of_decide_eq_false hb6)).symm.trans H4
        refine W_exit ?_
        refine th_x ?_
        obtain rfl := Option.some.inj H4
        obtain rfl := hr4 _ rfl
        refine th_x ?_
        refine bk_x ?_
        exact ⟨s3_5, s20_5, hE5, o0_5, n0_5⟩
  · rintro _ w11 ⟨s3_11, s20_11, hE11, o0_11, n0_11⟩
    refine W_th ?_
    refine W_seq ?_
    refine W_reg (by kernel_rfl) ?_
    refine wla rfl rfl (q_move (v := v1) rfl s3_11) ?_
    refine wla rfl rfl (q_assign (v := v1) rfl rfl) ?_
    refine wl_nil ?_
    refine W_th ?_
    refine W_ret ?_
    obtain rfl := Option.some.inj H
    refine rt1 v1 rfl rfl rfl s20_11 ?_
    exact ⟨v1, rfl, hE11, n0_11, (o0_11.weak (Sc.stab _) (fun _ _ => trivial))⟩

/-! largesse/code.unlike$1 -/
noncomputable def code_unlike_1 (a0r : List UInt8) (b0 : List (List UInt8)) : Option Bool :=
((idx b0 0).bind fun c1 => some (!decide ((a0r.length : Int) = (c1.length : Int))))
set_option maxRecDepth 100000 in
set_option maxHeartbeats 8000000 in
theorem code_unlike_1_calls (a0r : List UInt8) (b0 : List (List UInt8)) (p0 : Value) (gc0 : Nat) (cv0 : Value) (r : Bool) (w0 : World) (hp0 : By w0 [] p0 a0r) (hcB0 : Blk w0 gc0 23 #[cv0]) (hcv0 : Rw w0 [] cv0 b0) (H : code_unlike_1 a0r b0 = some r) :
    Calls Try.prog 67 [p0, (bp gc0)].toArray w0 (fun e w' => e = .returned (.bool r) ∧ Ext w0 w') := by
  have hE : Ext w0 w0 := Ext.refl w0
  unfold code_unlike_1 at H
  refine calls_W (n := 11) Try.func67 rfl rfl rfl ?_
  refine W_seq ?_
  refine W_reg (by kernel_rfl) ?_
  refine wla rfl rfl (q_assign (v := (.bool false)) rfl rfl) ?_
  refine wl_nil ?_
  refine W_th ?_
  refine W_seq ?_
  refine W_reg (by kernel_rfl) ?_
  refine wla rfl rfl (q_move (v := p0) rfl rfl) ?_
  refine wla rfl rfl (q_len rfl T22.sl rfl (hp0.lift (Lift.ext hE _))) ?_
  refine wlq rfl rfl (q_loadB (u := cv0) rfl Try.isAgg23 rfl (hcB0.ext hE) rfl) ?_
  obtain ⟨c1, hc1, H⟩ := Option.bind_eq_some_iff.1 H
  refine wla rfl rfl (q_adr rfl T23 rfl rfl (hcv0.lift (Lift.ext hE _)) hc1) ?_
  refine wlq_load rfl rfl rfl T23 rfl hcv0 hc1 hE (fun v2 ha2 => ?_)
  refine wla rfl rfl (q_len rfl T22.sl rfl (ha2.lift (Lift.ext hE _))) ?_
  refine wla rfl rfl (q_neI rfl rfl rfl) ?_
  refine wla rfl rfl (q_assign (v := (.bool ((!decide ((a0r.length : Int) = (c1.length : Int)))))) rfl rfl) ?_
  refine wl_nil ?_
  refine W_th ?_
  refine W_ret ?_
  obtain rfl := Option.some.inj H
  refine rt1 (.bool ((!decide ((a0r.length : Int) = (c1.length : Int))))) rfl rfl rfl rfl ?_
  exact ⟨rfl, hE⟩

/-! largesse/code.unlike -/
noncomputable def code_unlike (a0l : List (List UInt8)) : Option Bool :=
((lim a0l.length).bind fun lim4 =>
((anyO (fun y4 => code_unlike_1 y4 a0l) a0l).bind fun r4 => some r4))
set_option maxRecDepth 100000 in
set_option maxHeartbeats 8000000 in
theorem code_unlike_calls (a0l : List (List UInt8)) (p0 : Value) (r : Bool) (w0 : World) (hp0 : Rw w0 [] p0 a0l) (H : code_unlike a0l = some r) :
    Calls Try.prog 55 [p0].toArray w0 (fun e w' => e = .returned (.bool r) ∧ Ext w0 w') := by
  have hE : Ext w0 w0 := Ext.refl w0
  unfold code_unlike at H
  refine calls_W (n := 6) Try.func55 rfl rfl rfl ?_
  refine W_seq ?_
  refine W_reg (by kernel_rfl) ?_
  refine wls rfl rfl (stp_boxL (v := p0) (cs := #[p0]) [] rfl rfl (cells_sl _ _ (hp0.lift (Lift.ext hE _))) ?_)
  intro g1 w1 o1 n1 g1r l1
  have x1 := grown_ext g1r
  have n3 := Nw.ext hE n1
  have e2 := hE.trans x1
  refine wla rfl rfl (q_assign (v := (.bool false)) rfl rfl) ?_
  refine wl_nil ?_
  refine W_th ?_
  refine W_seq ?_
  refine W_reg (by kernel_rfl) ?_
  refine wlq rfl rfl (q_loadB (u := p0) rfl Try.isAgg23 rfl o1 rfl) ?_
  refine wla rfl rfl (q_mkfuncN (vs := [(bp g1)]) rfl (ar1 rfl)) ?_
  obtain ⟨lim4, hl4, H⟩ := Option.bind_eq_some_iff.1 H
  obtain ⟨r4, hr4, H⟩ := Option.bind_eq_some_iff.1 H
  refine wls rfl rfl (stp_call (vs := [p0, (.func (.func 67) #[] [(bp g1)].toArray)]) Try.func62 rfl rfl rfl (ar2 rfl rfl) (ContainsFunc_rows_calls p0 a0l 67 _ Try.func67 rfl rfl [(bp g1)] (fun y4 => code_unlike_1 y4 a0l) r4 _ (hp0.lift (Lift.ext e2 _)) (lim_lt hl4) hr4 (fun y4 _ b w' xE hb u hu => code_unlike_1_calls y4 a0l u g1 p0 b w' hu (o1.ext xE) ((hp0.lift (Lift.ext e2 _)).lift (Lift.ext xE _)) hb)) ?_)
  rintro _ w4 ⟨rfl, x4⟩
  refine ⟨_, rfl, ?_⟩
  replace o1 := o1.ext x4
  have e5 := e2.trans x4
  refine wla rfl rfl (q_assign (v := (.bool r4)) rfl rfl) ?_
  refine wl_nil ?_
  refine W_th ?_
  refine W_ret ?_
  obtain rfl := Option.some.inj H
  refine rt1 (.bool r4) rfl rfl rfl rfl ?_
  exact ⟨rfl, e5⟩

/-! largesse/code.Piece -/
noncomputable def code_Piece (a0f : Bool) (a1parts : List (List UInt8)) (a2x : Int) : Option (List UInt8 × Int) :=
(if (!a0f) = true then some (([] : List UInt8), 1)
else
((code_member (a1parts.length : Int)).bind fun r2 =>
(if (!r2) = true then some (([] : List UInt8), 2)
else
((code_member a2x).bind fun r5 =>
(if (!r5) = true then some (([] : List UInt8), 2)
else
((code_unlike a1parts).bind fun r8 =>
(if r8 = true then some (([] : List UInt8), 3)
else
(if a2x ≤ (a1parts.length : Int) then
((idx a1parts ((wI (a2x - 1)))).bind fun c12 =>
((slices_Clone_sbytebyte c12).bind fun r14 => some (r14, 0)))
else
((code_places (a1parts.length : Int)).bind fun r17 =>
((shamir_At a0f r17 a1parts (UInt8.ofInt a2x)).bind fun r19 => some (r19.1, r19.2)))))))))))
set_option maxRecDepth 100000 in
set_option maxHeartbeats 8000000 in
theorem code_Piece_calls (a0f : Bool) (a1parts : List (List UInt8)) (a2x : Int) (p0 : Value) (p1 : Value) (r : List UInt8 × Int) (w0 : World) (hp0 : Fd w0 [] p0 a0f) (hp1 : Rw w0 [] p1 a1parts) (H : code_Piece a0f a1parts a2x = some r) :
    Calls Try.prog 34 [p0, p1, (i64 a2x)].toArray w0 (fun e w' => ∃ u0 : Value, e = .returned (.tuple #[u0, (i64 r.2)]) ∧ Ext w0 w' ∧ Nw w0 u0 ∧ OwK (Sc u8) w' [] 5 u0 r.1) := by
  have hE : Ext w0 w0 := Ext.refl w0
  unfold code_Piece at H
  refine calls_W (n := 45) Try.func34 rfl rfl rfl ?_
  refine W_seq ?_
  refine W_reg (by kernel_rfl) ?_
  refine wla rfl rfl (q_assign (v := (.slice none 0 0)) rfl rfl) ?_
  refine wla rfl rfl (q_assign (v := (i64 0)) rfl rfl) ?_
  refine wl_nil ?_
  refine W_th ?_
  refine W_seq ?_
  refine W_block ?_
  refine W_seq ?_
  refine W_reg (by kernel_rfl) ?_
  refine wla rfl rfl (q_move (v := p0) rfl rfl) ?_
  refine wla rfl rfl (q_eqF rfl rfl rfl rfl (hp0.lift (Lift.ext hE _))) ?_
  refine wla rfl rfl (q_assign (v := (.bool ((!a0f)))) rfl rfl) ?_
  refine wl_nil ?_
  refine W_th ?_
  refine W_cond _ rfl rfl (fun hb1 => ?_) (fun hb1 => ?_)
  · replace H := (if_pos hb1).symm.trans H
    refine W_seq ?_
    refine W_reg (by kernel_rfl) ?_
    refine wla rfl rfl (q_assign (v := (.slice none 0 0)) rfl rfl) ?_
    refine wla rfl rfl (q_assign (v := (i64 1)) rfl rfl) ?_
    refine wl_nil ?_
    refine W_th ?_
    refine W_ret ?_
    refine bk_r ?_
    refine th_r ?_
    obtain rfl := Option.some.inj H
    refine rt2 (.slice none 0 0) (i64 1) rfl rfl rfl rfl rfl rfl ?_
    exact ⟨(.slice none 0 0), rfl, hE, Nw.nil _, (OwK.nil _ _ _ _)⟩
  · replace H := (if_neg (ne_true_of_eq_false hb1)).symm.trans H
    refine W_seq ?_
    refine W_reg (by kernel_rfl) ?_
    refine wla rfl rfl (q_move (v := p1) rfl rfl) ?_
    refine wla rfl rfl (q_len rfl T23.sl rfl (hp1.lift (Lift.ext hE _))) ?_
    obtain ⟨r2, hr2, H⟩ := Option.bind_eq_some_iff.1 H
    refine wls rfl rfl (stp_call (vs := [(i64 ((a1parts.length : Int)))]) Try.func56 rfl rfl rfl (ar1 rfl) (code_member_calls (a1parts.length : Int)  r2 _  hr2) ?_)
    rintro _ w2 ⟨rfl, x2⟩
    refine ⟨_, rfl, ?_⟩
    have e3 := hE.trans x2
    refine wla rfl rfl (q_not rfl rfl) ?_
    refine wlb rfl rfl (q_move (v := (.bool ((!r2)))) rfl rfl) (fun hb4 => ?_) (fun hb4 => ?_)
    · replace H := (if_pos hb4).symm.trans H
      refine wlk rfl rfl ?_
      refine wlk rfl rfl ?_
      refine wlk rfl rfl ?_
      refine wla rfl rfl (q_pick_t (v := (.bool true)) rfl rfl rfl) ?_
      refine wla rfl rfl (q_assign (v := (.bool true)) rfl rfl) ?_
      refine wl_nil ?_
      refine W_th ?_
      refine W_cond true rfl rfl (fun _ => ?_) (fun hb => by cases hb)
      refine W_seq ?_
      refine W_reg (by kernel_rfl) ?_
      refine wla rfl rfl (q_assign (v := (.slice none 0 0)) rfl rfl) ?_
      refine wla rfl rfl (q_assign (v := (i64 2)) rfl rfl) ?_
      refine wl_nil ?_
      refine W_th ?_
      refine W_ret ?_
      refine bk_r ?_
      refine th_r ?_
      obtain rfl := Option.some.inj H
      refine rt2 (.slice none 0 0) (i64 2) rfl rfl rfl rfl rfl rfl ?_
      exact ⟨(.slice none 0 0), rfl, e3, Nw.nil _, (OwK.nil _ _ _ _)⟩
    · replace H := (if_neg (ne_true_of_eq_false hb4)).symm.trans H
      refine wla rfl rfl (q_move (v := (i64 a2x)) rfl rfl) ?_
      obtain ⟨r5, hr5, H⟩ := Option.bind_eq_some_iff.1 H
      refine wls rfl rfl (stp_call (vs := [(i64 a2x)]) Try.func56 rfl rfl rfl (ar1 rfl) (code_member_calls a2x  r5 _  hr5) ?_)
      rintro _ w5 ⟨rfl, x5⟩
      refine ⟨_, rfl, ?_⟩
      have e6 := e3.trans x5
      refine wla rfl rfl (q_not rfl rfl) ?_
      refine wla rfl rfl (q_pick_f (v := (.bool ((!r5)))) rfl rfl rfl) ?_
      refine wla rfl rfl (q_assign (v := (.bool ((!r5)))) rfl rfl) ?_
      refine wl_nil ?_
      refine W_th ?_
      refine W_cond _ rfl rfl (fun hb7 => ?_) (fun hb7 => ?_)
      · replace H := (if_pos hb7).symm.trans H
        refine W_seq ?_
        refine W_reg (by kernel_rfl) ?_
        refine wla rfl rfl (q_assign (v := (.slice none 0 0)) rfl rfl) ?_
        refine wla rfl rfl (q_assign (v := (i64 2)) rfl rfl) ?_
        refine wl_nil ?_
        refine W_th ?_
        refine W_ret ?_
        refine bk_r ?_
        refine th_r ?_
        obtain rfl := Option.some.inj H
        refine rt2 (.slice none 0 0) (i64 2) rfl rfl rfl rfl rfl rfl ?_
        exact ⟨(.slice none 0 0), rfl, e6, Nw.nil _, (OwK.nil _ _ _ _)⟩
      · replace H := (if_neg (ne_true_of_eq_false hb7)).symm.trans H
        refine W_seq ?_
        refine W_reg (by kernel_rfl) ?_
        refine wla rfl rfl (q_move (v := p1) rfl rfl) ?_
        obtain ⟨r8, hr8, H⟩ := Option.bind_eq_some_iff.1 H
        refine wls rfl rfl (stp_call (vs := [p1]) Try.func55 rfl rfl rfl (ar1 rfl) (code_unlike_calls a1parts p1 r8 _ (hp1.lift (Lift.ext e6 _)) hr8) ?_)
        rintro _ w8 ⟨rfl, x8⟩
        refine ⟨_, rfl, ?_⟩
        have e9 := e6.trans x8
        refine wla rfl rfl (q_assign (v := (.bool r8)) rfl rfl) ?_
        refine wl_nil ?_
        refine W_th ?_
        refine W_cond _ rfl rfl (fun hb10 => ?_) (fun hb10 => ?_)
        · replace H := (if_pos hb10).symm.trans H
          refine W_seq ?_
          refine W_reg (by kernel_rfl) ?_
          refine wla rfl rfl (q_assign (v := (.slice none 0 0)) rfl rfl) ?_
          refine wla rfl rfl (q_assign (v := (i64 3)) rfl rfl) ?_
          refine wl_nil ?_
          refine W_th ?_
          refine W_ret ?_
          refine bk_r ?_
          refine th_r ?_
          obtain rfl := Option.some.inj H
          refine rt2 (.slice none 0 0) (i64 3) rfl rfl rfl rfl rfl rfl ?_
          exact ⟨(.slice none 0 0), rfl, e9, Nw.nil _, (OwK.nil _ _ _ _)⟩
        · replace H := (if_neg (ne_true_of_eq_false hb10)).symm.trans H
          refine W_seq ?_
          refine W_reg (by kernel_rfl) ?_
          refine wla rfl rfl (q_move (v := (i64 a2x)) rfl rfl) ?_
          refine wla rfl rfl (q_move (v := p1) rfl rfl) ?_
          refine wla rfl rfl (q_len rfl T23.sl rfl (hp1.lift (Lift.ext e9 _))) ?_
          refine wla rfl rfl (q_leI rfl rfl rfl) ?_
          refine wla rfl rfl (q_assign (v := (.bool ((decide (a2x ≤ (a1parts.length : Int)))))) rfl rfl) ?_
          refine wl_nil ?_
          refine W_th ?_
          refine W_cond _ rfl rfl (fun hb11 => ?_) (fun hb11 => ?_)
          · replace H := (if_pos (of_decide_eq_true hb11)).symm.trans H
            refine W_seq ?_
            refine W_reg (by kernel_rfl) ?_
            refine wla rfl rfl (q_move (v := p1) rfl rfl) ?_
            refine wla rfl rfl (q_move (v := (i64 a2x)) rfl rfl) ?_
            refine wla rfl rfl (q_subI rfl rfl rfl) ?_
            obtain ⟨c12, hc12, H⟩ := Option.bind_eq_some_iff.1 H
            refine wla rfl rfl (q_adr rfl T23 rfl rfl (hp1.lift (Lift.ext e9 _)) hc12) ?_
            refine wlq_load rfl rfl rfl T23 rfl hp1 hc12 e9 (fun v13 ha13 => ?_)
            obtain ⟨r14, hr14, H⟩ := Option.bind_eq_some_iff.1 H
            refine wls rfl rfl (stp_call (vs := [v13]) Try.func57 rfl rfl rfl (ar1 rfl) (slices_Clone_sbytebyte_calls c12 v13 r14 _ (ha13.lift (Lift.ext e9 _)) hr14) ?_)
            rintro _ w14 ⟨v14, rfl, x14, n14_0, o14_0⟩
            refine ⟨_, rfl, ?_⟩
            have o14 : OwK (Sc u8) w14 (v14 :: []) 5 v14 r14 := OwK.scal o14_0 _
            have n16 := Nw.ext e9 n14_0
            have e15 := e9.trans x14
            refine wla rfl rfl (q_assign (v := v14) rfl rfl) ?_
            refine wla rfl rfl (q_assign (v := (i64 0)) rfl rfl) ?_
            refine wl_nil ?_
            refine W_th ?_
            refine W_ret ?_
            refine bk_r ?_
            refine th_r ?_
            obtain rfl := Option.some.inj H
            refine rt2 v14 (i64 0) rfl rfl rfl rfl rfl rfl ?_
            exact ⟨v14, rfl, e15, n16, (o14.weak (Sc.stab _) (fun _ _ => trivial))⟩
          · replace H := (if_neg (of_decide_eq_false hb11)).symm.trans H
            refine W_skip ?_
            refine bk_n ?_
            refine W_th ?_
            refine W_seq ?_
            refine W_reg (by kernel_rfl) ?_
            refine wla rfl rfl (q_move (v := p0) rfl rfl) ?_
            refine wla rfl rfl (q_move (v := p1) rfl rfl) ?_
            refine wla rfl rfl (q_len rfl T23.sl rfl (hp1.lift (Lift.ext e9 _))) ?_
            obtain ⟨r17, hr17, H⟩ := Option.bind_eq_some_iff.1 H
            refine wls rfl rfl (stp_call (vs := [(i64 ((a1parts.length : Int)))]) Try.func58 rfl rfl rfl (ar1 rfl) (code_places_calls (a1parts.length : Int)  r17 _  hr17) ?_)
            rintro _ w17 ⟨v17, rfl, x17, n17_0, o17_0⟩
            refine ⟨_, rfl, ?_⟩
            have i17_0 : By w17 [] v17 r17 := OwK.slk (Sc.stab _) _ (OwK.scal o17_0 (v17 :: [])) (fun k hk => (Old.nil _) k (n17_0 k hk)) (fun _ h => h.2)
            have e18 := e9.trans x17
            refine wla rfl rfl (q_move (v := p1) rfl rfl) ?_
            refine wla rfl rfl (q_move (v := (i64 a2x)) rfl rfl) ?_
            refine wla rfl rfl (q_cvt8I rfl rfl rfl rfl) ?_
            obtain ⟨r19, hr19, H⟩ := Option.bind_eq_some_iff.1 H
            refine wls rfl rfl (stp_call (vs := [p0, v17, p1, (u8 ((UInt8.ofInt a2x)))]) Try.func15 rfl rfl rfl (ar4 rfl rfl rfl rfl) (shamir_At_calls a0f r17 a1parts (UInt8.ofInt a2x) p0 v17 p1 r19 _ (hp0.lift (Lift.ext e18 _)) (i17_0.lift (Lift.sub (fun _ _ => trivial))) (hp1.lift (Lift.ext e18 _)) hr19) ?_)
            rintro _ w19 ⟨v19_0, rfl, x19, n19_0, o19_0⟩
            refine ⟨_, rfl, ?_⟩
            have o19 : OwK (Sc u8) w19 (v19_0 :: []) 5 v19_0 r19.1 := OwK.scal o19_0 _
            replace i17_0 := i17_0.lift (Lift.call _ x19 n19_0)
            have n21 := Nw.ext e18 n19_0
            have e20 := e18.trans x19
            refine wla rfl rfl (q_extract rfl rfl rfl) ?_
            refine wla rfl rfl (q_extract rfl rfl rfl) ?_
            refine wla rfl rfl (q_assign (v := v19_0) rfl rfl) ?_
            refine wla rfl rfl (q_assign (v := (i64 r19.2)) rfl rfl) ?_
            refine wl_nil ?_
            refine W_th ?_
            refine W_ret ?_
            obtain rfl := Option.some.inj H
            refine rt2 v19_0 (i64 r19.2) rfl rfl rfl rfl rfl rfl ?_
            exact ⟨v19_0, rfl, e20, n21, (o19.weak (Sc.stab _) (fun _ _ => trivial))⟩

/-! largesse/code.Encode -/
noncomputable def code_Encode (a0f : Bool) (a1n : Int) (a2parts : List (List UInt8)) : Option (List (List UInt8) × Int) :=
(if (!a0f) = true then some (([] : List (List UInt8)), 1)
else
(if (a2parts.length : Int) = 0 then some (([] : List (List UInt8)), 2)
else
(if a1n < (a2parts.length : Int) then some (([] : List (List UInt8)), 2)
else
(if 255 < a1n then some (([] : List (List UInt8)), 2)
else
((code_unlike a2parts).bind fun r5 =>
(if r5 = true then some (([] : List (List UInt8)), 3)
else
((iterC (fun s8 : List (List UInt8) × Int =>
(if s8.2 < a1n then
((code_Piece a0f a2parts (wI (s8.2 + 1))).bind fun r11 =>
(if r11.2 = 0 then
((appL s8.1 (([r11.1] : List (List UInt8)))).bind fun c16 => some (.inl (c16, (wI (s8.2 + 1)))))
else some (.inr (.inr (([] : List (List UInt8)), r11.2)))))
else some (.inr (.inl s8.1)))) (([] : List (List UInt8)), 0)).bind (Sum.elim (fun y8 => some (y8, 0)) (fun q8 => some q8)))))))))
set_option maxRecDepth 100000 in
set_option maxHeartbeats 8000000 in
theorem code_Encode_calls (a0f : Bool) (a1n : Int) (a2parts : List (List UInt8)) (p0 : Value) (p2 : Value) (r : List (List UInt8) × Int) (w0 : World) (L0 : List Value) (hL0 : Old w0 L0) (hp0 : Fd w0 [] p0 a0f) (hp2 : Rw w0 [] p2 a2parts) (H : code_Encode a0f a1n a2parts = some r) :
    Calls Try.prog 33 [p0, (i64 a1n), p2].toArray w0 (fun e w' => ∃ u0 : Value, e = .returned (.tuple #[u0, (i64 r.2)]) ∧ Ext w0 w' ∧ Nw w0 u0 ∧ OwK By w' (u0 :: L0) 22 u0 r.1) := by
  have hE : Ext w0 w0 := Ext.refl w0
  unfold code_Encode at H
  refine calls_W (n := 53) Try.func33 rfl rfl rfl ?_
  refine W_seq ?_
  refine W_reg (by kernel_rfl) ?_
  refine wla rfl rfl (q_assign (v := (.slice none 0 0)) rfl rfl) ?_
  refine wla rfl rfl (q_assign (v := (i64 0)) rfl rfl) ?_
  refine wl_nil ?_
  refine W_th ?_
  refine W_seq ?_
  refine W_block ?_
  refine W_seq ?_
  refine W_reg (by kernel_rfl) ?_
  refine wla rfl rfl (q_move (v := p0) rfl rfl) ?_
  refine wla rfl rfl (q_eqF rfl rfl rfl rfl (hp0.lift (Lift.ext hE _))) ?_
  refine wla rfl rfl (q_assign (v := (.bool ((!a0f)))) rfl rfl) ?_
  refine wl_nil ?_
  refine W_th ?_
  refine W_cond _ rfl rfl (fun hb1 => ?_) (fun hb1 => ?_)
  · replace H := (if_pos hb1).symm.trans H
    refine W_seq ?_
    refine W_reg (by kernel_rfl) ?_
    refine wla rfl rfl (q_assign (v := (.slice none 0 0)) rfl rfl) ?_
    refine wla rfl rfl (q_assign (v := (i64 1)) rfl rfl) ?_
    refine wl_nil ?_
    refine W_th ?_
    refine W_ret ?_
    refine bk_r ?_
    refine th_r ?_
    obtain rfl := Option.some.inj H
    refine rt2 (.slice none 0 0) (i64 1) rfl rfl rfl rfl rfl rfl ?_
    exact ⟨(.slice none 0 0), rfl, hE, Nw.nil _, (OwK.nil _ _ _ _)⟩
  · replace H := (if_neg (ne_true_of_eq_false hb1)).symm.trans H
    refine W_seq ?_
    refine W_reg (by kernel_rfl) ?_
    refine wla rfl rfl (q_move (v := p2) rfl rfl) ?_
    refine wla rfl rfl (q_len rfl T23.sl rfl (hp2.lift (Lift.ext hE _))) ?_
    refine wla rfl rfl (q_eqI rfl rfl rfl) ?_
    refine wlb rfl rfl (q_move (v := (.bool ((decide ((a2parts.length : Int) = 0))))) rfl rfl) (fun hb2 => ?_) (fun hb2 => ?_)
    · replace H := (if_pos (of_decide_eq_true hb2)).symm.trans H
      refine wlk rfl rfl ?_
      refine wlk rfl rfl ?_
      refine wlk rfl rfl ?_
      refine wlk rfl rfl ?_
      refine wla rfl rfl (q_pick_t (v := (.bool true)) rfl rfl rfl) ?_
      refine wla rfl rfl (q_move (v := (.bool true)) rfl rfl) ?_
      refine wlk rfl rfl ?_
      refine wlk rfl rfl ?_
      refine wla rfl rfl (q_pick_t (v := (.bool true)) rfl rfl rfl) ?_
      refine wla rfl rfl (q_assign (v := (.bool true)) rfl rfl) ?_
      refine wl_nil ?_
      refine W_th ?_
      refine W_cond true rfl rfl (fun _ => ?_) (fun hb => by cases hb)
      refine W_seq ?_
      refine W_reg (by kernel_rfl) ?_
      refine wla rfl rfl (q_assign (v := (.slice none 0 0)) rfl rfl) ?_
      refine wla rfl rfl (q_assign (v := (i64 2)) rfl rfl) ?_
      refine wl_nil ?_
      refine W_th ?_
      refine W_ret ?_
      refine bk_r ?_
      refine th_r ?_
      obtain rfl := Option.some.inj H
      refine rt2 (.slice none 0 0) (i64 2) rfl rfl rfl rfl rfl rfl ?_
      exact ⟨(.slice none 0 0), rfl, hE, Nw.nil _, (OwK.nil _ _ _ _)⟩
    · replace H := (if_neg (of_decide_eq_false hb2)).symm.trans H
      refine wla rfl rfl (q_move (v := p2) rfl rfl) ?_
      refine wla rfl rfl (q_len rfl T23.sl rfl (hp2.lift (Lift.ext hE _))) ?_
      refine wla rfl rfl (q_move (v := (i64 a1n)) rfl rfl) ?_
      refine wla rfl rfl (q_gtI rfl rfl rfl) ?_
      refine wla rfl rfl (q_pick_f (v := (.bool ((decide (a1n < (a2parts.length : Int)))))) rfl rfl rfl) ?_
      refine wlb rfl rfl (q_move (v := (.bool ((decide (a1n < (a2parts.length : Int)))))) rfl rfl) (fun hb3 => ?_) (fun hb3 => ?_)
      · replace H := (if_pos (of_decide_eq_true hb3)).symm.trans H
        refine wlk rfl rfl ?_
        refine wlk rfl rfl ?_
        refine wla rfl rfl (q_pick_t (v := (.bool true)) rfl rfl rfl) ?_
        refine wla rfl rfl (q_assign (v := (.bool true)) rfl rfl) ?_
        refine wl_nil ?_
        refine W_th ?_
        refine W_cond true rfl rfl (fun _ => ?_) (fun hb => by cases hb)
        refine W_seq ?_
        refine W_reg (by kernel_rfl) ?_
        refine wla rfl rfl (q_assign (v := (.slice none 0 0)) rfl rfl) ?_
        refine wla rfl rfl (q_assign (v := (i64 2)) rfl rfl) ?_
        refine wl_nil ?_
        refine W_th ?_
        refine W_ret ?_
        refine bk_r ?_
        refine th_r ?_
        obtain rfl := Option.some.inj H
        refine rt2 (.slice none 0 0) (i64 2) rfl rfl rfl rfl rfl rfl ?_
        exact ⟨(.slice none 0 0), rfl, hE, Nw.nil _, (OwK.nil _ _ _ _)⟩
      · replace H := (if_neg (of_decide_eq_false hb3)).symm.trans H
        refine wla rfl rfl (q_move (v := (i64 a1n)) rfl rfl) ?_
        refine wla rfl rfl (q_gtI rfl rfl rfl) ?_
        refine wla rfl rfl (q_pick_f (v := (.bool ((decide (255 < a1n))))) rfl rfl rfl) ?_
        refine wla rfl rfl (q_assign (v := (.bool ((decide (255 < a1n))))) rfl rfl) ?_
        refine wl_nil ?_
        refine W_th ?_
        refine W_cond _ rfl rfl (fun hb4 => ?_) (fun hb4 => ?_)
        · replace H := (if_pos (of_decide_eq_true hb4)).symm.trans H
          refine W_seq ?_
          refine W_reg (by kernel_rfl) ?_
          refine wla rfl rfl (q_assign (v := (.slice none 0 0)) rfl rfl) ?_
          refine wla rfl rfl (q_assign (v := (i64 2)) rfl rfl) ?_
          refine wl_nil ?_
          refine W_th ?_
          refine W_ret ?_
          refine bk_r ?_
          refine th_r ?_
          obtain rfl := Option.some.inj H
          refine rt2 (.slice none 0 0) (i64 2) rfl rfl rfl rfl rfl rfl ?_
          exact ⟨(.slice none 0 0), rfl, hE, Nw.nil _, (OwK.nil _ _ _ _)⟩
        · replace H := (if_neg (of_decide_eq_false hb4)).symm.trans H
          refine W_seq ?_
          refine W_reg (by kernel_rfl) ?_
          refine wla rfl rfl (q_move (v := p2) rfl rfl) ?_
          obtain ⟨r5, hr5, H⟩ := Option.bind_eq_some_iff.1 H
          refine wls rfl rfl (stp_call (vs := [p2]) Try.func55 rfl rfl rfl (ar1 rfl) (code_unlike_calls a2parts p2 r5 _ (hp2.lift (Lift.ext hE _)) hr5) ?_)
          rintro _ w5 ⟨rfl, x5⟩
          refine ⟨_, rfl, ?_⟩
          have e6 := hE.trans x5
          refine wla rfl rfl (q_assign (v := (.bool r5)) rfl rfl) ?_
          refine wl_nil ?_
          refine W_th ?_
          refine W_cond _ rfl rfl (fun hb7 => ?_) (fun hb7 => ?_)
          · replace H := (if_pos hb7).symm.trans H
            refine W_seq ?_
            refine W_reg (by kernel_rfl) ?_
            refine wla rfl rfl (q_assign (v := (.slice none 0 0)) rfl rfl) ?_
            refine wla rfl rfl (q_assign (v := (i64 3)) rfl rfl) ?_
            refine wl_nil ?_
            refine W_th ?_
            refine W_ret ?_
            refine bk_r ?_
            refine th_r ?_
            obtain rfl := Option.some.inj H
            refine rt2 (.slice none 0 0) (i64 3) rfl rfl rfl rfl rfl rfl ?_
            exact ⟨(.slice none 0 0), rfl, e6, Nw.nil _, (OwK.nil _ _ _ _)⟩
          · replace H := (if_neg (ne_true_of_eq_false hb7)).symm.trans H
            refine W_skip ?_
            refine bk_n ?_
            refine W_th ?_
            refine W_seq ?_
            refine W_reg (by kernel_rfl) ?_
            refine wla rfl rfl (q_assign (v := (.slice none 0 0)) rfl rfl) ?_
            refine wl_nil ?_
            refine W_th ?_
            refine W_seq ?_
            refine W_seq ?_
            refine W_reg (by kernel_rfl) ?_
            refine wla rfl rfl (q_move (v := (i64 a1n)) rfl rfl) ?_
            refine wla rfl rfl (q_move (v := (i64 0)) rfl rfl) ?_
            refine wl_nil ?_
            refine W_th ?_
            obtain ⟨x8, G8, H⟩ := Option.bind_eq_some_iff.1 H
            refine W_mid (fun f w => ∃ y8, x8 = .inl y8 ∧ ∃ v8_21 : Value, f 8 = v8_21 ∧ f 53 = undef ∧ Ext w0 w ∧ OwK By w (v8_21 :: L0) 22 v8_21 y8 ∧ Nw w0 v8_21) ?_ ?_
            · refine W_block ?_
              refine W_loop (fun s8 f w => ∃ v8_19 : Value, f 0 = p0 ∧ f 2 = p2 ∧ f 8 = v8_19 ∧ f 32 = (i64 a1n) ∧ f 33 = (i64 s8.2) ∧ f 53 = undef ∧ Ext w0 w ∧ OwK By w (v8_19 :: L0) 22 v8_19 s8.1 ∧ Nw w0 v8_19) G8 ?_ ?_
              · exact ⟨(.slice none 0 0), rfl, rfl, rfl, rfl, rfl, rfl, e6, (OwK.nil _ _ _ _), (Nw.nil _)⟩
              · rintro s8 _ _ w9 ⟨v8_9, s0_9, s2_9, s8_9, s32_9, s33_9, s53_9, hE9, o0_9, n0_9⟩ H8 hr8
                refine W_seq ?_
                refine W_reg (by kernel_rfl) ?_
                refine wla rfl rfl (q_ltI rfl s33_9 s32_9) ?_
                refine wl_nil ?_
                refine W_th ?_
                refine W_seq ?_
                refine W_cond _ rfl rfl (fun hb10 => ?_) (fun hb10 => ?_)
                · replace H8 := (if_pos (of_decide_eq_true hb10)).symm.trans H8
                  refine W_skip ?_
                  refine W_th ?_
                  refine W_seq ?_
                  refine W_block ?_
                  refine W_seq ?_
                  refine W_reg (by kernel_rfl) ?_
                  refine wla rfl rfl (q_move (v := (i64 s8.2)) rfl s33_9) ?_
                  refine wla rfl rfl (q_assign (v := (i64 s8.2)) rfl rfl) ?_
                  refine wl_nil ?_
                  refine W_th ?_
                  refine W_seq ?_
                  refine W_reg (by kernel_rfl) ?_
                  refine wla rfl rfl (q_move (v := p0) rfl s0_9) ?_
                  refine wla rfl rfl (q_move (v := p2) rfl s2_9) ?_
                  refine wla rfl rfl (q_move (v := (i64 s8.2)) rfl rfl) ?_
                  refine wla rfl rfl (q_addI rfl rfl rfl) ?_
                  obtain ⟨r11, hr11, H8⟩ := Option.bind_eq_some_iff.1 H8
                  refine wls rfl rfl (stp_call (vs := [p0, p2, (i64 ((wI (s8.2 + 1))))]) Try.func34 rfl rfl rfl (ar3 rfl rfl rfl) (code_Piece_calls a0f a2parts (wI (s8.2 + 1)) p0 p2 r11 _ (hp0.lift (Lift.ext hE9 _)) (hp2.lift (Lift.ext hE9 _)) hr11) ?_)
                  rintro _ w11 ⟨v11_0, rfl, x11, n11_0, o11_0⟩
                  refine ⟨_, rfl, ?_⟩
                  have i11_0 : By w11 (v8_9 :: L0) v11_0 r11.1 := OwK.slk (Sc.stab _) _ (OwK.scal o11_0 (v11_0 :: (v8_9 :: L0))) (fun k hk => (Old.cons (hL0.ext hE9) o0_9.lt) k (n11_0 k hk)) (fun _ h => h.2)
                  replace o0_9 := o0_9.extL (SlK.stab (Sc.stab _)) x11 (Lift.ext x11 _)
                  have e12 := hE9.trans x11
                  refine wla rfl rfl (q_move (v := (.tuple #[v11_0, (i64 r11.2)])) rfl rfl) ?_
                  refine wla rfl rfl (q_extract rfl rfl rfl) ?_
                  refine wla rfl rfl (q_extract rfl rfl rfl) ?_
                  refine wla rfl rfl (q_assign (v := v11_0) rfl rfl) ?_
                  refine wla rfl rfl (q_assign (v := (i64 r11.2)) rfl rfl) ?_
                  refine wl_nil ?_
                  refine W_th ?_
                  refine W_seq ?_
                  refine W_seq ?_
                  refine W_reg (by kernel_rfl) ?_
                  refine wla rfl rfl (q_move (v := (i64 r11.2)) rfl rfl) ?_
                  refine wla rfl rfl (q_neI rfl rfl rfl) ?_
                  refine wl_nil ?_
                  refine W_th ?_
                  refine W_cond _ rfl rfl (fun hb13 => ?_) (fun hb13 => ?_)
                  · replace H8 := (if_neg (ndec_t hb13)).symm.trans H8
                    refine W_seq ?_
                    refine W_reg (by kernel_rfl) ?_
                    refine wla rfl rfl (q_move (v := (i64 r11.2)) rfl rfl) ?_
                    refine wla rfl rfl (q_assign (v := (.slice none 0 0)) rfl rfl) ?_
                    refine wla rfl rfl (q_assign (v := (i64 r11.2)) rfl rfl) ?_
                    refine wl_nil ?_
                    refine W_th ?_
                    refine W_ret ?_
                    refine th_r ?_
                    refine bk_r ?_
                    refine th_r ?_
                    obtain rfl := Option.some.inj H8
                    obtain rfl := hr8 _ rfl
                    simp only [Sum.elim_inr] at H
                    refine th_r ?_
                    refine bk_r ?_
                    refine th_r ?_
                    refine th_r ?_
                    obtain rfl := Option.some.inj H
                    refine rt2 (.slice none 0 0) (i64 r11.2) rfl rfl rfl rfl rfl s53_9 ?_
                    exact ⟨(.slice none 0 0), rfl, e12, Nw.nil _, (OwK.nil _ _ _ _)⟩
                  · replace H8 := (if_pos (ndec_f hb13)).symm.trans H8
                    refine W_skip ?_
                    refine W_th ?_
                    refine W_reg (by kernel_rfl) ?_
                    refine wla rfl rfl (q_move (v := v8_9) rfl s8_9) ?_
                    refine wla rfl rfl (q_move (v := v11_0) rfl rfl) ?_
                    refine wls rfl rfl (stp_lit (L := (v8_9 :: L0)) (R := By) [v11_0] ([r11.1] : List (List UInt8)) rfl T23 rfl (by exact ⟨rfl, rfl, trivial⟩) rfl (LitR.cells (LitR.cons i11_0 LitR.nil) (fun u x h => cells_sl u x h)) rfl (LitR.all (SlK.stab (Sc.stab _)) (LitR.cons i11_0 LitR.nil)) ?_)
                    intro v14 w14 o14 n14 g14 l14
                    have x14 := grown_ext g14
                    have i14 : Rw w14 (v8_9 :: L0) v14 (([r11.1] : List (List UInt8))) := OwK.slk (SlK.stab (Sc.stab _)) _ o14 (fun k hk => (Old.cons (hL0.ext e12) o0_9.lt) k (n14 k hk)) (fun _ h => h.2)
                    replace i11_0 := i11_0.lift (Lift.ext x14 _)
                    replace o0_9 := o0_9.extL (SlK.stab (Sc.stab _)) x14 (Lift.ext x14 _)
                    have e15 := e12.trans x14
                    obtain ⟨c16, hc16, H8⟩ := Option.bind_eq_some_iff.1 H8
                    refine wls rfl rfl (stp_append (R := By) (v := v8_9) (u := v14) (SlK.stab (Sc.stab _)) [] (L0) rfl T23 rfl rfl o0_9 i14 (fun _ _ h => h) hc16 oc_sl ?_)
                    intro v16 w16 o16 g16 nx16 l16
                    replace i11_0 := i11_0.lift l16
                    replace i14 := i14.lift l16
                    have e17 := e15.grown g16 n0_9
                    have n18 := Nw.nxt e15 n0_9 nx16
                    refine wla rfl rfl (q_assign (v := v16) rfl rfl) ?_
                    refine wl_nil ?_
                    refine bk_n ?_
                    refine W_th ?_
                    refine W_reg (by kernel_rfl) ?_
                    refine wla rfl rfl (q_addI rfl s33_9 rfl) ?_
                    refine wla rfl rfl (q_move (v := (i64 ((wI (s8.2 + 1))))) rfl rfl) ?_
                    refine wl_nil ?_
                    obtain rfl := Option.some.inj H8
                    exact ⟨_, rfl, v16, s0_9, s2_9, rfl, s32_9, rfl, s53_9, e17, o16, n18⟩
                · replace H8 := (if_neg (of_decide_eq_false hb10)).symm.trans H8
                  refine W_exit ?_
                  refine th_x ?_
                  obtain rfl := Option.some.inj H8
                  obtain rfl := hr8 _ rfl
                  refine th_x ?_
                  refine bk_x ?_
                  exact ⟨_, rfl, v8_9, s8_9, s53_9, hE9, o0_9, n0_9⟩
            · rintro _ w20 ⟨y8, rfl, v8_20, s8_20, s53_20, hE20, o0_20, n0_20⟩
              simp only [Sum.elim_inl] at H
              refine W_th ?_
              refine W_seq ?_
              refine W_reg (by kernel_rfl) ?_
              refine wla rfl rfl (q_move (v := v8_20) rfl s8_20) ?_
              refine wla rfl rfl (q_assign (v := v8_20) rfl rfl) ?_
              refine wla rfl rfl (q_assign (v := (i64 0)) rfl rfl) ?_
              refine wl_nil ?_
              refine W_th ?_
              refine W_ret ?_
              obtain rfl := Option.some.inj H
              refine rt2 v8_20 (i64 0) rfl rfl rfl rfl rfl s53_20 ?_
              exact ⟨v8_20, rfl, hE20, n0_20, (o0_20.weak (SlK.stab (Sc.stab _)) (fun _ h => ⟨h.1, h.2⟩))⟩

/-! largesse/code.PartSize -/
noncomputable def code_PartSize (a0size : Int) (a1t : Int) : Option Int :=
((code_member a1t).bind fun r1 =>
(if (!r1) = true then some 0
else
(if a0size < 0 then some 0
else
((divI a0size a1t).bind fun c5 =>
((remI a0size a1t).bind fun c6 =>
(if 0 < c6 then some (wI (c5 + 1))
else some c5))))))
set_option maxRecDepth 100000 in
set_option maxHeartbeats 8000000 in
theorem code_PartSize_calls (a0size : Int) (a1t : Int) (r : Int) (w0 : World) (H : code_PartSize a0size a1t = some r) :
    Calls Try.prog 38 [(i64 a0size), (i64 a1t)].toArray w0 (fun e w' => e = .returned (i64 r) ∧ Ext w0 w') := by
  have hE : Ext w0 w0 := Ext.refl w0
  unfold code_PartSize at H
  refine calls_W (n := 23) Try.func38 rfl rfl rfl ?_
  refine W_seq ?_
  refine W_reg (by kernel_rfl) ?_
  refine wla rfl rfl (q_assign (v := (i64 0)) rfl rfl) ?_
  refine wl_nil ?_
  refine W_th ?_
  refine W_seq ?_
  refine W_seq ?_
  refine W_reg (by kernel_rfl) ?_
  refine wla rfl rfl (q_move (v := (i64 a1t)) rfl rfl) ?_
  obtain ⟨r1, hr1, H⟩ := Option.bind_eq_some_iff.1 H
  refine wls rfl rfl (stp_call (vs := [(i64 a1t)]) Try.func56 rfl rfl rfl (ar1 rfl) (code_member_calls a1t  r1 _  hr1) ?_)
  rintro _ w1 ⟨rfl, x1⟩
  refine ⟨_, rfl, ?_⟩
  have e2 := hE.trans x1
  refine wla rfl rfl (q_not rfl rfl) ?_
  refine wlb rfl rfl (q_move (v := (.bool ((!r1)))) rfl rfl) (fun hb3 => ?_) (fun hb3 => ?_)
  · replace H := (if_pos hb3).symm.trans H
    refine wlk rfl rfl ?_
    refine wlk rfl rfl ?_
    refine wla rfl rfl (q_pick_t (v := (.bool true)) rfl rfl rfl) ?_
    refine wl_nil ?_
    refine W_th ?_
    refine W_cond true rfl rfl (fun _ => ?_) (fun hb => by cases hb)
    refine W_seq ?_
    refine W_reg (by kernel_rfl) ?_
    refine wla rfl rfl (q_assign (v := (i64 0)) rfl rfl) ?_
    refine wl_nil ?_
    refine W_th ?_
    refine W_ret ?_
    refine th_r ?_
    obtain rfl := Option.some.inj H
    refine rt1 (i64 0) rfl rfl rfl rfl ?_
    exact ⟨rfl, e2⟩
  · replace H := (if_neg (ne_true_of_eq_false hb3)).symm.trans H
    refine wla rfl rfl (q_move (v := (i64 a0size)) rfl rfl) ?_
    refine wla rfl rfl (q_ltI rfl rfl rfl) ?_
    refine wla rfl rfl (q_pick_f (v := (.bool ((decide (a0size < 0))))) rfl rfl rfl) ?_
    refine wl_nil ?_
    refine W_th ?_
    refine W_cond _ rfl rfl (fun hb4 => ?_) (fun hb4 => ?_)
    · replace H := (if_pos (of_decide_eq_true hb4)).symm.trans H
      refine W_seq ?_
      refine W_reg (by kernel_rfl) ?_
      refine wla rfl rfl (q_assign (v := (i64 0)) rfl rfl) ?_
      refine wl_nil ?_
      refine W_th ?_
      refine W_ret ?_
      refine th_r ?_
      obtain rfl := Option.some.inj H
      refine rt1 (i64 0) rfl rfl rfl rfl ?_
      exact ⟨rfl, e2⟩
    · replace H := (if_neg (of_decide_eq_false hb4)).symm.trans H
      refine W_skip ?_
      refine W_th ?_
      refine W_seq ?_
      refine W_reg (by kernel_rfl) ?_
      refine wla rfl rfl (q_move (v := (i64 a0size)) rfl rfl) ?_
      refine wla rfl rfl (q_move (v := (i64 a1t)) rfl rfl) ?_
      obtain ⟨c5, hc5, H⟩ := Option.bind_eq_some_iff.1 H
      refine wla rfl rfl (q_divI rfl rfl rfl hc5) ?_
      refine wla rfl rfl (q_assign (v := (i64 c5)) rfl rfl) ?_
      refine wl_nil ?_
      refine W_th ?_
      refine W_seq ?_
      refine W_seq ?_
      refine W_reg (by kernel_rfl) ?_
      refine wla rfl rfl (q_move (v := (i64 a0size)) rfl rfl) ?_
      refine wla rfl rfl (q_move (v := (i64 a1t)) rfl rfl) ?_
      obtain ⟨c6, hc6, H⟩ := Option.bind_eq_some_iff.1 H
      refine wla rfl rfl (q_remI rfl rfl rfl hc6) ?_
      refine wla rfl rfl (q_gtI rfl rfl rfl) ?_
      refine wl_nil ?_
      refine W_th ?_
      refine W_cond _ rfl rfl (fun hb7 => ?_) (fun hb7 => ?_)
      · replace H := (if_pos (of_decide_eq_true hb7)).symm.trans H
        refine W_reg (by kernel_rfl) ?_
        refine wla rfl rfl (q_move (v := (i64 c5)) rfl rfl) ?_
        refine wla rfl rfl (q_addI rfl rfl rfl) ?_
        refine wla rfl rfl (q_assign (v := (i64 ((wI (c5 + 1))))) rfl rfl) ?_
        refine wl_nil ?_
        refine W_th ?_
        refine W_seq ?_
        refine W_reg (by kernel_rfl) ?_
        refine wla rfl rfl (q_move (v := (i64 ((wI (c5 + 1))))) rfl rfl) ?_
        refine wla rfl rfl (q_assign (v := (i64 ((wI (c5 + 1))))) rfl rfl) ?_
        refine wl_nil ?_
        refine W_th ?_
        refine W_ret ?_
        obtain rfl := Option.some.inj H
        refine rt1 (i64 ((wI (c5 + 1)))) rfl rfl rfl rfl ?_
        exact ⟨rfl, e2⟩
      · replace H := (if_neg (of_decide_eq_false hb7)).symm.trans H
        refine W_skip ?_
        refine W_th ?_
        refine W_seq ?_
        refine W_reg (by kernel_rfl) ?_
        refine wla rfl rfl (q_move (v := (i64 c5)) rfl rfl) ?_
        refine wla rfl rfl (q_assign (v := (i64 c5)) rfl rfl) ?_
        refine wl_nil ?_
        refine W_th ?_
        refine W_ret ?_
        obtain rfl := Option.some.inj H
        refine rt1 (i64 c5) rfl rfl rfl rfl ?_
        exact ⟨rfl, e2⟩

/-! largesse/code.Cut -/
noncomputable def code_Cut (a0b : List UInt8) (a1t : Int) : Option (List (List UInt8) × Int) :=
((code_member a1t).bind fun r1 =>
(if (!r1) = true then some (([] : List (List UInt8)), 2)
else
((code_PartSize (a0b.length : Int) a1t).bind fun r4 =>
((makeL ((wI (r4 * a1t))) (0 : UInt8)).bind fun c6 =>
((iterC (fun s11 : List (List UInt8) × Int =>
(if s11.2 < a1t then
((subL ((copyL c6 0 a0b)) ((wI (s11.2 * r4))) ((wI ((wI (s11.2 + 1)) * r4)))).bind fun c14 =>
((slices_Clone_sbytebyte c14).bind fun r15 =>
((appL s11.1 (([r15] : List (List UInt8)))).bind fun c19 => some (.inl (c19, (wI (s11.2 + 1)))))))
else some (.inr s11.1))) (([] : List (List UInt8)), 0)).bind fun x11 => some (x11, 0))))))
set_option maxRecDepth 100000 in
set_option maxHeartbeats 8000000 in
theorem code_Cut_calls (a0b : List UInt8) (a1t : Int) (p0 : Value) (r : List (List UInt8) × Int) (w0 : World) (L0 : List Value) (hL0 : Old w0 L0) (hp0 : By w0 [] p0 a0b) (H : code_Cut a0b a1t = some r) :
    Calls Try.prog 37 [p0, (i64 a1t)].toArray w0 (fun e w' => ∃ u0 : Value, e = .returned (.tuple #[u0, (i64 r.2)]) ∧ Ext w0 w' ∧ Nw w0 u0 ∧ OwK By w' (u0 :: L0) 22 u0 r.1) := by
  have hE : Ext w0 w0 := Ext.refl w0
  unfold code_Cut at H
  refine calls_W (n := 43) Try.func37 rfl rfl rfl ?_
  refine W_seq ?_
  refine W_reg (by kernel_rfl) ?_
  refine wla rfl rfl (q_assign (v := (.slice none 0 0)) rfl rfl) ?_
  refine wla rfl rfl (q_assign (v := (i64 0)) rfl rfl) ?_
  refine wl_nil ?_
  refine W_th ?_
  refine W_seq ?_
  refine W_seq ?_
  refine W_reg (by kernel_rfl) ?_
  refine wla rfl rfl (q_move (v := (i64 a1t)) rfl rfl) ?_
  obtain ⟨r1, hr1, H⟩ := Option.bind_eq_some_iff.1 H
  refine wls rfl rfl (stp_call (vs := [(i64 a1t)]) Try.func56 rfl rfl rfl (ar1 rfl) (code_member_calls a1t  r1 _  hr1) ?_)
  rintro _ w1 ⟨rfl, x1⟩
  refine ⟨_, rfl, ?_⟩
  have e2 := hE.trans x1
  refine wla rfl rfl (q_not rfl rfl) ?_
  refine wl_nil ?_
  refine W_th ?_
  refine W_cond _ rfl rfl (fun hb3 => ?_) (fun hb3 => ?_)
  · replace H := (if_pos hb3).symm.trans H
    refine W_seq ?_
    refine W_reg (by kernel_rfl) ?_
    refine wla rfl rfl (q_assign (v := (.slice none 0 0)) rfl rfl) ?_
    refine wla rfl rfl (q_assign (v := (i64 2)) rfl rfl) ?_
    refine wl_nil ?_
    refine W_th ?_
    refine W_ret ?_
    refine th_r ?_
    obtain rfl := Option.some.inj H
    refine rt2 (.slice none 0 0) (i64 2) rfl rfl rfl rfl rfl rfl ?_
    exact ⟨(.slice none 0 0), rfl, e2, Nw.nil _, (OwK.nil _ _ _ _)⟩
  · replace H := (if_neg (ne_true_of_eq_false hb3)).symm.trans H
    refine W_skip ?_
    refine W_th ?_
    refine W_seq ?_
    refine W_reg (by kernel_rfl) ?_
    refine wla rfl rfl (q_move (v := p0) rfl rfl) ?_
    refine wla rfl rfl (q_len rfl T22.sl rfl (hp0.lift (Lift.ext e2 _))) ?_
    refine wla rfl rfl (q_move (v := (i64 a1t)) rfl rfl) ?_
    obtain ⟨r4, hr4, H⟩ := Option.bind_eq_some_iff.1 H
    refine wls rfl rfl (stp_call (vs := [(i64 ((a0b.length : Int))), (i64 a1t)]) Try.func38 rfl rfl rfl (ar2 rfl rfl) (code_PartSize_calls (a0b.length : Int) a1t  r4 _  hr4) ?_)
    rintro _ w4 ⟨rfl, x4⟩
    refine ⟨_, rfl, ?_⟩
    have e5 := e2.trans x4
    refine wla rfl rfl (q_assign (v := (i64 r4)) rfl rfl) ?_
    refine wl_nil ?_
    refine W_th ?_
    refine W_seq ?_
    refine W_reg (by kernel_rfl) ?_
    refine wla rfl rfl (q_move (v := (i64 r4)) rfl rfl) ?_
    refine wla rfl rfl (q_move (v := (i64 a1t)) rfl rfl) ?_
    refine wla rfl rfl (q_mulI rfl rfl rfl) ?_
    obtain ⟨c6, hc6, H⟩ := Option.bind_eq_some_iff.1 H
    refine wls rfl rfl (stp_make (L := (L0)) (R := (Sc u8)) rfl T22 rfl rfl hc6 (fun _ _ => rfl) ?_)
    intro v6 w6 o6 n6 g6 l6
    have x6 := grown_ext g6
    have n8 := Nw.ext e5 n6
    have e7 := e5.trans x6
    refine wla rfl rfl (q_assign (v := v6) rfl rfl) ?_
    refine wl_nil ?_
    refine W_th ?_
    refine W_seq ?_
    refine W_reg (by kernel_rfl) ?_
    refine wla rfl rfl (q_move (v := v6) rfl rfl) ?_
    refine wla rfl rfl (q_move (v := p0) rfl rfl) ?_
    refine wls rfl rfl (stp_copy (R := (Sc u8)) (off := 0) (dv := v6) (u := p0) (Sc.stab _) [] (L0) rfl T22 rfl rfl o6 (copy_whole o6) (by decide) (Int.natCast_nonneg _) (hp0.lift (Lift.ext e7 _)) (fun _ _ h => h) oc_u8 ?_)
    intro w9 o9 g9 l9
    have e10 := e7.grown g9 n8
    refine wl_nil ?_
    refine W_th ?_
    refine W_seq ?_
    refine W_reg (by kernel_rfl) ?_
    refine wla rfl rfl (q_assign (v := (.slice none 0 0)) rfl rfl) ?_
    refine wl_nil ?_
    refine W_th ?_
    refine W_seq ?_
    refine W_seq ?_
    refine W_reg (by kernel_rfl) ?_
    refine wla rfl rfl (q_move (v := (i64 a1t)) rfl rfl) ?_
    refine wla rfl rfl (q_move (v := (i64 0)) rfl rfl) ?_
    refine wl_nil ?_
    refine W_th ?_
    obtain ⟨x11, G11, H⟩ := Option.bind_eq_some_iff.1 H
    refine W_mid (fun f w => ∃ v8_25 : Value, f 8 = v8_25 ∧ f 43 = undef ∧ Ext w0 w ∧ OwK By w (v8_25 :: L0) 22 v8_25 x11 ∧ Nw w0 v8_25) ?_ ?_
    · refine W_block ?_
      refine W_loop (fun s11 f w => ∃ v8_23 : Value, f 6 = (i64 r4) ∧ f 7 = v6 ∧ f 8 = v8_23 ∧ f 24 = (i64 a1t) ∧ f 25 = (i64 s11.2) ∧ f 43 = undef ∧ Ext w0 w ∧ OwK (Sc u8) w (v6 :: v8_23 :: L0) 5 v6 ((copyL c6 0 a0b)) ∧ Nw w0 v6 ∧ OwK By w (v6 :: v8_23 :: L0) 22 v8_23 s11.1 ∧ Nw w0 v8_23 ∧ Nq v6 v8_23) G11 ?_ ?_
      · exact ⟨(.slice none 0 0), rfl, rfl, rfl, rfl, rfl, rfl, e10, (o9.weak (Sc.stab _) (fun _ h => ⟨h.1, nh_nil, h.2⟩)), n8, (OwK.nil _ _ _ _), (Nw.nil _), (Nq.nil _).symm⟩
      · rintro s11 _ _ w12 ⟨v8_12, s6_12, s7_12, s8_12, s24_12, s25_12, s43_12, hE12, o0_12, n0_12, o1_12, n1_12, q0_1_12⟩ H11 hr11
        refine W_seq ?_
        refine W_reg (by kernel_rfl) ?_
        refine wla rfl rfl (q_ltI rfl s25_12 s24_12) ?_
        refine wl_nil ?_
        refine W_th ?_
        refine W_seq ?_
        refine W_cond _ rfl rfl (fun hb13 => ?_) (fun hb13 => ?_)
        · replace H11 := (if_pos (of_decide_eq_true hb13)).symm.trans H11
          refine W_skip ?_
          refine W_th ?_
          refine W_seq ?_
          refine W_block ?_
          refine W_seq ?_
          refine W_reg (by kernel_rfl) ?_
          refine wla rfl rfl (q_move (v := (i64 s11.2)) rfl s25_12) ?_
          refine wla rfl rfl (q_assign (v := (i64 s11.2)) rfl rfl) ?_
          refine wl_nil ?_
          refine W_th ?_
          refine W_reg (by kernel_rfl) ?_
          refine wla rfl rfl (q_move (v := v8_12) rfl s8_12) ?_
          refine wla rfl rfl (q_move (v := v6) rfl s7_12) ?_
          refine wla rfl rfl (q_move (v := (i64 s11.2)) rfl rfl) ?_
          refine wla rfl rfl (q_move (v := (i64 r4)) rfl s6_12) ?_
          refine wla rfl rfl (q_mulI rfl rfl rfl) ?_
          refine wla rfl rfl (q_move (v := (i64 s11.2)) rfl rfl) ?_
          refine wla rfl rfl (q_addI rfl rfl rfl) ?_
          refine wla rfl rfl (q_move (v := (i64 r4)) rfl s6_12) ?_
          refine wla rfl rfl (q_mulI rfl rfl rfl) ?_
          obtain ⟨c14, hc14, H11⟩ := Option.bind_eq_some_iff.1 H11
          refine wla rfl rfl (q_slice (a := (wI (s11.2 * r4))) (b := (wI ((wI (s11.2 + 1)) * r4))) rfl T22 rfl (o0_12.rd (Sc.stab _)) rfl rfl hc14) ?_
          obtain ⟨r15, hr15, H11⟩ := Option.bind_eq_some_iff.1 H11
          refine wls rfl rfl (stp_call (vs := [(subV v6 ((wI (s11.2 * r4)) : Int).toNat ((wI ((wI (s11.2 + 1)) * r4)) : Int).toNat)]) Try.func57 rfl rfl rfl (ar1 rfl) (slices_Clone_sbytebyte_calls c14 (subV v6 ((wI (s11.2 * r4)) : Int).toNat ((wI ((wI (s11.2 + 1)) * r4)) : Int).toNat) r15 _ (SlK.cut (L := []) (o0_12.rd (Sc.stab _)) hc14) hr15) ?_)
          rintro _ w15 ⟨v15, rfl, x15, n15_0, o15_0⟩
          refine ⟨_, rfl, ?_⟩
          have i15_0 : By w15 (v6 :: v8_12 :: L0) v15 r15 := OwK.slk (Sc.stab _) _ (OwK.scal o15_0 (v15 :: (v6 :: v8_12 :: L0))) (fun k hk => (Old.cons (Old.cons (hL0.ext hE12) o1_12.lt) o0_12.lt) k (n15_0 k hk)) (fun _ h => h.2)
          replace o0_12 := o0_12.extL (Sc.stab _) x15 (Lift.ext x15 _)
          replace o1_12 := o1_12.extL (SlK.stab (Sc.stab _)) x15 (Lift.ext x15 _)
          have e16 := hE12.trans x15
          refine wls rfl rfl (stp_lit (L := (v6 :: v8_12 :: L0)) (R := By) [v15] ([r15] : List (List UInt8)) rfl T23 rfl (by exact ⟨rfl, rfl, trivial⟩) rfl (LitR.cells (LitR.cons i15_0 LitR.nil) (fun u x h => cells_sl u x h)) rfl (LitR.all (SlK.stab (Sc.stab _)) (LitR.cons i15_0 LitR.nil)) ?_)
          intro v17 w17 o17 n17 g17 l17
          have x17 := grown_ext g17
          have i17 : Rw w17 (v6 :: v8_12 :: L0) v17 (([r15] : List (List UInt8))) := OwK.slk (SlK.stab (Sc.stab _)) _ o17 (fun k hk => (Old.cons (Old.cons (hL0.ext e16) o1_12.lt) o0_12.lt) k (n17 k hk)) (fun _ h => h.2)
          replace i15_0 := i15_0.lift (Lift.ext x17 _)
          replace o0_12 := o0_12.extL (Sc.stab _) x17 (Lift.ext x17 _)
          replace o1_12 := o1_12.extL (SlK.stab (Sc.stab _)) x17 (Lift.ext x17 _)
          have e18 := e16.trans x17
          obtain ⟨c19, hc19, H11⟩ := Option.bind_eq_some_iff.1 H11
          refine wls rfl rfl (stp_append (R := By) (v := v8_12) (u := v17) (SlK.stab (Sc.stab _)) [v6] (L0) rfl T23 rfl rfl o1_12 i17 (fun _ _ h => h) hc19 oc_sl ?_)
          intro v19 w19 o19 g19 nx19 l19
          replace i15_0 := i15_0.lift l19
          replace i17 := i17.lift l19
          have q20 : Nq v6 v19 := o0_12.nxt q0_1_12 nx19
          replace o0_12 := o0_12.other (Sc.stab _) g19 q0_1_12 l19
          have e21 := e18.grown g19 n1_12
          have n22 := Nw.nxt e18 n1_12 nx19
          refine wla rfl rfl (q_assign (v := v19) rfl rfl) ?_
          refine wl_nil ?_
          refine bk_n ?_
          refine W_th ?_
          refine W_reg (by kernel_rfl) ?_
          refine wla rfl rfl (q_addI rfl s25_12 rfl) ?_
          refine wla rfl rfl (q_move (v := (i64 ((wI (s11.2 + 1))))) rfl rfl) ?_
          refine wl_nil ?_
          obtain rfl := Option.some.inj H11
          exact ⟨_, rfl, v19, s6_12, s7_12, rfl, s24_12, rfl, s43_12, e21, o0_12, n0_12, o19, n22, q20⟩
        · replace H11 := (if_neg (of_decide_eq_false hb13)).symm.trans H11
          refine W_exit ?_
          refine th_x ?_
          obtain rfl := Option.some.inj H11
          obtain rfl := hr11 _ rfl
          refine th_x ?_
          refine bk_x ?_
          exact ⟨v8_12, s8_12, s43_12, hE12, (o1_12.weak (SlK.stab (Sc.stab _)) (fun _ h => ⟨h.2.1, h.2.2⟩)), n1_12⟩
    · rintro _ w24 ⟨v8_24, s8_24, s43_24, hE24, o0_24, n0_24⟩
      refine W_th ?_
      refine W_seq ?_
      refine W_reg (by kernel_rfl) ?_
      refine wla rfl rfl (q_move (v := v8_24) rfl s8_24) ?_
      refine wla rfl rfl (q_assign (v := v8_24) rfl rfl) ?_
      refine wla rfl rfl (q_assign (v := (i64 0)) rfl rfl) ?_
      refine wl_nil ?_
      refine W_th ?_
      refine W_ret ?_
      obtain rfl := Option.some.inj H
      refine rt2 v8_24 (i64 0) rfl rfl rfl rfl rfl s43_24 ?_
      exact ⟨v8_24, rfl, hE24, n0_24, (o0_24.weak (SlK.stab (Sc.stab _)) (fun _ h => ⟨h.1, h.2⟩))⟩

/-! largesse/largesseref09.Places -/
noncomputable def ref09_Places (a0n : Int) : Option (List UInt8) :=
((iterC (fun s4 : List UInt8 × Int =>
(if s4.2 ≤ a0n then
((appL s4.1 (([(UInt8.ofInt s4.2)] : List UInt8))).bind fun c9 => some (.inl (c9, (wI (s4.2 + 1)))))
else some (.inr s4.1))) (([] : List UInt8), 1)).bind fun x4 => some x4)
set_option maxRecDepth 100000 in
set_option maxHeartbeats 8000000 in
theorem ref09_Places_calls (a0n : Int) (r : List UInt8) (w0 : World) (H : ref09_Places a0n = some r) :
    Calls Try.prog 59 [(i64 a0n)].toArray w0 (fun e w' => ∃ u0 : Value, e = .returned u0 ∧ Ext w0 w' ∧ Nw w0 u0 ∧ OwK (Sc u8) w' [] 5 u0 r) := by
  have hE : Ext w0 w0 := Ext.refl w0
  unfold ref09_Places at H
  refine calls_W (n := 17) Try.func59 rfl rfl rfl ?_
  refine W_seq ?_
  refine W_reg (by kernel_rfl) ?_
  refine wla rfl rfl (q_assign (v := (.slice none 0 0)) rfl rfl) ?_
  refine wl_nil ?_
  refine W_th ?_
  refine W_seq ?_
  refine W_reg (by kernel_rfl) ?_
  refine wls rfl rfl (stp_lit (L := []) (R := (Sc u8)) [] ([] : List UInt8) rfl T22 rfl (by exact trivial) rfl (litC u8 (oneC_u8) (us := []) (l := ([] : List UInt8)) rfl) rfl (litS u8 (us := []) (l := ([] : List UInt8)) rfl) ?_)
  intro v1 w1 o1 n1 g1 l1
  have x1 := grown_ext g1
  have n3 := Nw.ext hE n1
  have e2 := hE.trans x1
  refine wla rfl rfl (q_assign (v := v1) rfl rfl) ?_
  refine wl_nil ?_
  refine W_th ?_
  refine W_seq ?_
  refine W_seq ?_
  refine W_reg (by kernel_rfl) ?_
  refine wla rfl rfl (q_assign (v := (i64 1)) rfl rfl) ?_
  refine wl_nil ?_
  refine W_th ?_
  obtain ⟨x4, G4, H⟩ := Option.bind_eq_some_iff.1 H
  refine W_mid (fun f w => ∃ v3_14 : Value, f 3 = v3_14 ∧ f 17 = undef ∧ Ext w0 w ∧ OwK (Sc u8) w [v3_14] 5 v3_14 x4 ∧ Nw w0 v3_14) ?_ ?_
  · refine W_block ?_
    refine W_loop (fun s4 f w => ∃ v3_12 : Value, f 0 = (i64 a0n) ∧ f 3 = v3_12 ∧ f 4 = (i64 s4.2) ∧ f 17 = undef ∧ Ext w0 w ∧ OwK (Sc u8) w [v3_12] 5 v3_12 s4.1 ∧ Nw w0 v3_12) G4 ?_ ?_
    · exact ⟨v1, rfl, rfl, rfl, rfl, e2, o1, n3⟩
    · rintro s4 _ _ w5 ⟨v3_5, s0_5, s3_5, s4_5, s17_5, hE5, o0_5, n0_5⟩ H4 hr4
      refine W_seq ?_
      refine W_seq ?_
      refine W_reg (by kernel_rfl) ?_
      refine wla rfl rfl (q_move (v := (i64 s4.2)) rfl s4_5) ?_
      refine wla rfl rfl (q_move (v := (i64 a0n)) rfl s0_5) ?_
      refine wla rfl rfl (q_leI rfl rfl rfl) ?_
      refine wl_nil ?_
      refine W_th ?_
      refine W_cond _ rfl rfl (fun hb6 => ?_) (fun hb6 => ?_)
      · replace H4 := (if_pos (of_decide_eq_true hb6)).symm.trans H4
        refine W_skip ?_
        refine W_th ?_
        refine W_seq ?_
        refine W_block ?_
        refine W_reg (by kernel_rfl) ?_
        refine wla rfl rfl (q_move (v := v3_5) rfl s3_5) ?_
        refine wla rfl rfl (q_move (v := (i64 s4.2)) rfl s4_5) ?_
        refine wla rfl rfl (q_cvt8I rfl rfl rfl rfl) ?_
        refine wls rfl rfl (stp_lit (L := [v3_5]) (R := (Sc u8)) [(u8 ((UInt8.ofInt s4.2)))] ([(UInt8.ofInt s4.2)] : List UInt8) rfl T22 rfl (by exact ⟨rfl, rfl, trivial⟩) rfl (litC u8 (oneC_u8) (us := [(u8 ((UInt8.ofInt s4.2)))]) (l := ([(UInt8.ofInt s4.2)] : List UInt8)) rfl) rfl (litS u8 (us := [(u8 ((UInt8.ofInt s4.2)))]) (l := ([(UInt8.ofInt s4.2)] : List UInt8)) rfl) ?_)
        intro v7 w7 o7 n7 g7 l7
        have x7 := grown_ext g7
        have i7 : By w7 [v3_5] v7 (([(UInt8.ofInt s4.2)] : List UInt8)) := OwK.slk (Sc.stab _) _ o7 (fun k hk => (Old.cons (Old.nil _) o0_5.lt) k (n7 k hk)) (fun _ h => h.2)
        replace o0_5 := o0_5.extL (Sc.stab _) x7 (Lift.ext x7 _)
        have e8 := hE5.trans x7
        obtain ⟨c9, hc9, H4⟩ := Option.bind_eq_some_iff.1 H4
        refine wls rfl rfl (stp_append (R := (Sc u8)) (v := v3_5) (u := v7) (Sc.stab _) [] [] rfl T22 rfl rfl o0_5 i7 (fun _ _ h => h) hc9 oc_u8 ?_)
        intro v9 w9 o9 g9 nx9 l9
        replace i7 := i7.lift l9
        have e10 := e8.grown g9 n0_5
        have n11 := Nw.nxt e8 n0_5 nx9
        refine wla rfl rfl (q_assign (v := v9) rfl rfl) ?_
        refine wl_nil ?_
        refine bk_n ?_
        refine W_th ?_
        refine W_reg (by kernel_rfl) ?_
        refine wla rfl rfl (q_move (v := (i64 s4.2)) rfl s4_5) ?_
        refine wla rfl rfl (q_addI rfl rfl rfl) ?_
        refine wla rfl rfl (q_assign (v := (i64 ((wI (s4.2 + 1))))) rfl rfl) ?_
        refine wl_nil ?_
        obtain rfl := Option.some.inj H4
        exact ⟨_, rfl, v9, s0_5, rfl, rfl, s17_5, e10, o9, n11⟩
      · replace H4 := (if_neg (of_decide_eq_false hb6)).symm.trans H4
        refine W_exit ?_
        refine th_x ?_
        obtain rfl := Option.some.inj H4
        obtain rfl := hr4 _ rfl
        refine th_x ?_
        refine bk_x ?_
        exact ⟨v3_5, s3_5, s17_5, hE5, o0_5, n0_5⟩
  · rintro _ w13 ⟨v3_13, s3_13, s17_13, hE13, o0_13, n0_13⟩
    refine W_th ?_
    refine W_seq ?_
    refine W_reg (by kernel_rfl) ?_
    refine wla rfl rfl (q_move (v := v3_13) rfl s3_13) ?_
    refine wla rfl rfl (q_assign (v := v3_13) rfl rfl) ?_
    refine wl_nil ?_
    refine W_th ?_
    refine W_ret ?_
    obtain rfl := Option.some.inj H
    refine rt1 v3_13 rfl rfl rfl s17_13 ?_
    exact ⟨v3_13, rfl, hE13, n0_13, (o0_13.weak (Sc.stab _) (fun _ _ => trivial))⟩

/-! largesse/largesseref09.Piece -/
noncomputable def ref09_Piece (a0parts : List (List UInt8)) (a1x : Int) : Option (List UInt8) :=
((ref09_Places (a0parts.length : Int)).bind fun r1 =>
((ref08_At r1 a0parts (UInt8.ofInt a1x)).bind fun r3 => some r3))
set_option maxRecDepth 100000 in
set_option maxHeartbeats 8000000 in
theorem ref09_Piece_calls (a0parts : List (List UInt8)) (a1x : Int) (p0 : Value) (r : List UInt8) (w0 : World) (hp0 : Rw w0 [] p0 a0parts) (H : ref09_Piece a0parts a1x = some r) :
    Calls Try.prog 35 [p0, (i64 a1x)].toArray w0 (fun e w' => ∃ u0 : Value, e = .returned u0 ∧ Ext w0 w' ∧ Nw w0 u0 ∧ OwK (Sc u8) w' [] 5 u0 r) := by
  have hE : Ext w0 w0 := Ext.refl w0
  unfold ref09_Piece at H
  refine calls_W (n := 12) Try.func35 rfl rfl rfl ?_
  refine W_seq ?_
  refine W_reg (by kernel_rfl) ?_
  refine wla rfl rfl (q_assign (v := (.slice none 0 0)) rfl rfl) ?_
  refine wl_nil ?_
  refine W_th ?_
  refine W_seq ?_
  refine W_reg (by kernel_rfl) ?_
  refine wla rfl rfl (q_move (v := p0) rfl rfl) ?_
  refine wla rfl rfl (q_len rfl T23.sl rfl (hp0.lift (Lift.ext hE _))) ?_
  obtain ⟨r1, hr1, H⟩ := Option.bind_eq_some_iff.1 H
  refine wls rfl rfl (stp_call (vs := [(i64 ((a0parts.length : Int)))]) Try.func59 rfl rfl rfl (ar1 rfl) (ref09_Places_calls (a0parts.length : Int)  r1 _  hr1) ?_)
  rintro _ w1 ⟨v1, rfl, x1, n1_0, o1_0⟩
  refine ⟨_, rfl, ?_⟩
  have i1_0 : By w1 [] v1 r1 := OwK.slk (Sc.stab _) _ (OwK.scal o1_0 (v1 :: [])) (fun k hk => (Old.nil _) k (n1_0 k hk)) (fun _ h => h.2)
  have e2 := hE.trans x1
  refine wla rfl rfl (q_move (v := p0) rfl rfl) ?_
  refine wla rfl rfl (q_move (v := (i64 a1x)) rfl rfl) ?_
  refine wla rfl rfl (q_cvt8I rfl rfl rfl rfl) ?_
  obtain ⟨r3, hr3, H⟩ := Option.bind_eq_some_iff.1 H
  refine wls rfl rfl (stp_call (vs := [v1, p0, (u8 ((UInt8.ofInt a1x)))]) Try.func17 rfl rfl rfl (ar3 rfl rfl rfl) (ref08_At_calls r1 a0parts (UInt8.ofInt a1x) v1 p0 r3 _ (i1_0.lift (Lift.sub (fun _ _ => trivial))) (hp0.lift (Lift.ext e2 _)) hr3) ?_)
  rintro _ w3 ⟨v3, rfl, x3, n3_0, o3_0⟩
  refine ⟨_, rfl, ?_⟩
  have o3 : OwK (Sc u8) w3 (v3 :: []) 5 v3 r3 := OwK.scal o3_0 _
  replace i1_0 := i1_0.lift (Lift.call _ x3 n3_0)
  have n5 := Nw.ext e2 n3_0
  have e4 := e2.trans x3
  refine wla rfl rfl (q_assign (v := v3) rfl rfl) ?_
  refine wl_nil ?_
  refine W_th ?_
  refine W_ret ?_
  obtain rfl := Option.some.inj H
  refine rt1 v3 rfl rfl rfl rfl ?_
  exact ⟨v3, rfl, e4, n5, (o3.weak (Sc.stab _) (fun _ _ => trivial))⟩

end Gk

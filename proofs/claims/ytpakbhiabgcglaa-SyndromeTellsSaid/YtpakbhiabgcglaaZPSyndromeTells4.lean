/- Parts Fi, LAa, F30, LAb, one behind the other. What is proved: said at the head of each part. No condition beside those said there. -/
import Derived.Test.YtpakbhiabgcglaaRows
import Derived.Orders
import Derived.Deep.Draws
import Derived.Laws.World
import Derived.KernelRfl
import Derived.OrdersIn
import Derived.TacticsIn
import Derived.RangeFuncCalls
import Derived.Deep.LoopGhost
import Derived.Tactics
import Derived.Sort.LoopGhostIn
import Derived.RangeFuncLeaves
import Derived.RangeFuncNested
import Derived.RangeFuncRecord
import Derived.Laws.Sem
import Derived.OwnWalk
import Derived.RangeFuncWrites
import Derived.Laws.IdiomCopy
import Derived.WalkKit
import Derived.ProofKit
import Derived.OpenShut
import Derived.ChangeOld
import Derived.Below
import Derived.Test.YtpakbhiabgcglaaProg
import Derived.MapKept
import Derived.Lib.AppendZerosOnto
import Derived.Test.YtpakbhiabgcglaaZPSyndromeTells1
import Derived.Test.YtpakbhiabgcglaaZPSyndromeTells2
import Derived.Test.YtpakbhiabgcglaaZPSyndromeTells3
/- Printed by gen.py: for each Go function a pure function, and that the Go code comes to it. No condition beside the equation that says what the pure function gives. -/



set_option linter.unusedVariables false
set_option linter.unusedSimpArgs false
namespace Gk
open Go Go.Proofs

/-! largesse/syndrome.check -/
noncomputable def syndrome_check (a0f : Bool) (a1t : Int) (a2xs : List UInt8) (a3values : Int) : Option Int :=
(if (!a0f) = true then some 1
else
(if (a2xs.length : Int) = a3values then
(if a1t < 1 then some 2
else
(if 255 < a1t then some 2
else
((slices_Contains_sbytebyte a2xs (0 : UInt8)).bind fun r5 =>
(if r5 = true then some 2
else
(if (a2xs.length : Int) < a1t then some 5
else
((poly_Weights a0f a2xs (0 : UInt8)).bind fun r9 => some r9.2))))))
else some 1))
set_option maxRecDepth 100000 in
set_option maxHeartbeats 8000000 in
theorem syndrome_check_calls (a0f : Bool) (a1t : Int) (a2xs : List UInt8) (a3values : Int) (p0 : Value) (p2 : Value) (r : Int) (w0 : World) (hp0 : Fd w0 [] p0 a0f) (hp2 : By w0 [] p2 a2xs) (H : syndrome_check a0f a1t a2xs a3values = some r) :
    Calls Try.prog 52 [p0, (i64 a1t), p2, (i64 a3values)].toArray w0 (fun e w' => e = .returned (i64 r) ∧ Ext w0 w') := by
  have hE : Ext w0 w0 := Ext.refl w0
  unfold syndrome_check at H
  refine calls_W (n := 43) Try.func52 rfl rfl rfl ?_
  refine W_seq ?_
  refine W_reg (by kernel_rfl) ?_
  refine wla rfl rfl (q_assign (v := (i64 0)) rfl rfl) ?_
  refine wl_nil ?_
  refine W_th ?_
  refine W_seq ?_
  refine W_block ?_
  refine W_seq ?_
  refine W_reg (by kernel_rfl) ?_
  refine wla rfl rfl (q_move (v := p0) rfl rfl) ?_
  refine wla rfl rfl (q_eqF rfl rfl rfl rfl (hp0.lift (Lift.ext hE _))) ?_
  refine wlb rfl rfl (q_move (v := (.bool ((!a0f)))) rfl rfl) (fun hb1 => ?_) (fun hb1 => ?_)
  · replace H := (if_pos hb1).symm.trans H
    refine wlk rfl rfl ?_
    refine wlk rfl rfl ?_
    refine wlk rfl rfl ?_
    refine wlk rfl rfl ?_
    refine wla rfl rfl (q_pick_t (v := (.bool true)) rfl rfl rfl) ?_
    refine wla rfl rfl (q_assign (v := (.bool true)) rfl rfl) ?_
    refine wl_nil ?_
    refine W_th ?_
    refine W_cond true rfl rfl (fun _ => ?_) (fun hb => by cases hb)
    refine W_seq ?_
    refine W_reg (by kernel_rfl) ?_
    refine wla rfl rfl (q_assign (v := (i64 1)) rfl rfl) ?_
    refine wl_nil ?_
    refine W_th ?_
    refine W_ret ?_
    refine bk_r ?_
    refine th_r ?_
    obtain rfl := Option.some.inj H
    refine rt1 (i64 1) rfl rfl rfl rfl ?_
    exact ⟨rfl, hE⟩
  · replace H := (if_neg (ne_true_of_eq_false hb1)).symm.trans H
    refine wla rfl rfl (q_move (v := p2) rfl rfl) ?_
    refine wla rfl rfl (q_len rfl T22.sl rfl (hp2.lift (Lift.ext hE _))) ?_
    refine wla rfl rfl (q_move (v := (i64 a3values)) rfl rfl) ?_
    refine wla rfl rfl (q_neI rfl rfl rfl) ?_
    refine wla rfl rfl (q_pick_f (v := (.bool ((!decide ((a2xs.length : Int) = a3values))))) rfl rfl rfl) ?_
    refine wla rfl rfl (q_assign (v := (.bool ((!decide ((a2xs.length : Int) = a3values))))) rfl rfl) ?_
    refine wl_nil ?_
    refine W_th ?_
    refine W_cond _ rfl rfl (fun hb2 => ?_) (fun hb2 => ?_)
    · replace H := (if_neg (ndec_t hb2)).symm.trans H
      refine W_seq ?_
      refine W_reg (by kernel_rfl) ?_
      refine wla rfl rfl (q_assign (v := (i64 1)) rfl rfl) ?_
      refine wl_nil ?_
      refine W_th ?_
      refine W_ret ?_
      refine bk_r ?_
      refine th_r ?_
      obtain rfl := Option.some.inj H
      refine rt1 (i64 1) rfl rfl rfl rfl ?_
      exact ⟨rfl, hE⟩
    · replace H := (if_pos (ndec_f hb2)).symm.trans H
      refine W_seq ?_
      refine W_reg (by kernel_rfl) ?_
      refine wla rfl rfl (q_move (v := (i64 a1t)) rfl rfl) ?_
      refine wla rfl rfl (q_ltI rfl rfl rfl) ?_
      refine wlb rfl rfl (q_move (v := (.bool ((decide (a1t < 1))))) rfl rfl) (fun hb3 => ?_) (fun hb3 => ?_)
      · replace H := (if_pos (of_decide_eq_true hb3)).symm.trans H
        refine wlk rfl rfl ?_
        refine wlk rfl rfl ?_
        refine wla rfl rfl (q_pick_t (v := (.bool true)) rfl rfl rfl) ?_
        refine wla rfl rfl (q_move (v := (.bool true)) rfl rfl) ?_
        refine wlk rfl rfl ?_
        refine wlk rfl rfl ?_
        refine wla rfl rfl (q_pick_t (v := (.bool true)) rfl rfl rfl) ?_
        refine wla rfl rfl (q_assign (v := (.bool true)) rfl rfl) ?_
        refine wl_nil ?_
        refine W_th ?_
        refine W_cond true rfl rfl (fun _ => ?_) (fun hb => by cases hb)
        refine W_seq ?_
        refine W_reg (by kernel_rfl) ?_
        refine wla rfl rfl (q_assign (v := (i64 2)) rfl rfl) ?_
        refine wl_nil ?_
        refine W_th ?_
        refine W_ret ?_
        refine bk_r ?_
        refine th_r ?_
        obtain rfl := Option.some.inj H
        refine rt1 (i64 2) rfl rfl rfl rfl ?_
        exact ⟨rfl, hE⟩
      · replace H := (if_neg (of_decide_eq_false hb3)).symm.trans H
        refine wla rfl rfl (q_move (v := (i64 a1t)) rfl rfl) ?_
        refine wla rfl rfl (q_gtI rfl rfl rfl) ?_
        refine wla rfl rfl (q_pick_f (v := (.bool ((decide (255 < a1t))))) rfl rfl rfl) ?_
        refine wlb rfl rfl (q_move (v := (.bool ((decide (255 < a1t))))) rfl rfl) (fun hb4 => ?_) (fun hb4 => ?_)
        · replace H := (if_pos (of_decide_eq_true hb4)).symm.trans H
          refine wlk rfl rfl ?_
          refine wlk rfl rfl ?_
          refine wla rfl rfl (q_pick_t (v := (.bool true)) rfl rfl rfl) ?_
          refine wla rfl rfl (q_assign (v := (.bool true)) rfl rfl) ?_
          refine wl_nil ?_
          refine W_th ?_
          refine W_cond true rfl rfl (fun _ => ?_) (fun hb => by cases hb)
          refine W_seq ?_
          refine W_reg (by kernel_rfl) ?_
          refine wla rfl rfl (q_assign (v := (i64 2)) rfl rfl) ?_
          refine wl_nil ?_
          refine W_th ?_
          refine W_ret ?_
          refine bk_r ?_
          refine th_r ?_
          obtain rfl := Option.some.inj H
          refine rt1 (i64 2) rfl rfl rfl rfl ?_
          exact ⟨rfl, hE⟩
        · replace H := (if_neg (of_decide_eq_false hb4)).symm.trans H
          refine wla rfl rfl (q_move (v := p2) rfl rfl) ?_
          obtain ⟨r5, hr5, H⟩ := Option.bind_eq_some_iff.1 H
          refine wls rfl rfl (stp_call (vs := [p2, (u8 0)]) Try.func71 rfl rfl rfl (ar2 rfl (cst8 (0 : UInt8) rfl)) (slices_Contains_sbytebyte_calls a2xs (0 : UInt8) p2 r5 _ (hp2.lift (Lift.ext hE _)) hr5) ?_)
          rintro _ w5 ⟨rfl, x5⟩
          refine ⟨_, rfl, ?_⟩
          have e6 := hE.trans x5
          refine wla rfl rfl (q_pick_f (v := (.bool r5)) rfl rfl rfl) ?_
          refine wla rfl rfl (q_assign (v := (.bool r5)) rfl rfl) ?_
          refine wl_nil ?_
          refine W_th ?_
          refine W_cond _ rfl rfl (fun hb7 => ?_) (fun hb7 => ?_)
          · replace H := (if_pos hb7).symm.trans H
            refine W_seq ?_
            refine W_reg (by kernel_rfl) ?_
            refine wla rfl rfl (q_assign (v := (i64 2)) rfl rfl) ?_
            refine wl_nil ?_
            refine W_th ?_
            refine W_ret ?_
            refine bk_r ?_
            refine th_r ?_
            obtain rfl := Option.some.inj H
            refine rt1 (i64 2) rfl rfl rfl rfl ?_
            exact ⟨rfl, e6⟩
          · replace H := (if_neg (ne_true_of_eq_false hb7)).symm.trans H
            refine W_seq ?_
            refine W_reg (by kernel_rfl) ?_
            refine wla rfl rfl (q_move (v := p2) rfl rfl) ?_
            refine wla rfl rfl (q_len rfl T22.sl rfl (hp2.lift (Lift.ext e6 _))) ?_
            refine wla rfl rfl (q_move (v := (i64 a1t)) rfl rfl) ?_
            refine wla rfl rfl (q_ltI rfl rfl rfl) ?_
            refine wla rfl rfl (q_assign (v := (.bool ((decide ((a2xs.length : Int) < a1t))))) rfl rfl) ?_
            refine wl_nil ?_
            refine W_th ?_
            refine W_cond _ rfl rfl (fun hb8 => ?_) (fun hb8 => ?_)
            · replace H := (if_pos (of_decide_eq_true hb8)).symm.trans H
              refine W_seq ?_
              refine W_reg (by kernel_rfl) ?_
              refine wla rfl rfl (q_assign (v := (i64 5)) rfl rfl) ?_
              refine wl_nil ?_
              refine W_th ?_
              refine W_ret ?_
              refine bk_r ?_
              refine th_r ?_
              obtain rfl := Option.some.inj H
              refine rt1 (i64 5) rfl rfl rfl rfl ?_
              exact ⟨rfl, e6⟩
            · replace H := (if_neg (of_decide_eq_false hb8)).symm.trans H
              refine W_skip ?_
              refine bk_n ?_
              refine W_th ?_
              refine W_seq ?_
              refine W_reg (by kernel_rfl) ?_
              refine wla rfl rfl (q_move (v := p0) rfl rfl) ?_
              refine wla rfl rfl (q_move (v := p2) rfl rfl) ?_
              obtain ⟨r9, hr9, H⟩ := Option.bind_eq_some_iff.1 H
              refine wls rfl rfl (stp_call (vs := [p0, p2, (u8 0)]) Try.func49 rfl rfl rfl (ar3 rfl rfl (cst8 (0 : UInt8) rfl)) (poly_Weights_calls a0f a2xs (0 : UInt8) p0 p2 r9 _ (hp0.lift (Lift.ext e6 _)) (hp2.lift (Lift.ext e6 _)) hr9) ?_)
              rintro _ w9 ⟨v9_0, rfl, x9, n9_0, o9_0⟩
              refine ⟨_, rfl, ?_⟩
              have i9_0 : By w9 [] v9_0 r9.1 := OwK.slk (Sc.stab _) _ (OwK.scal o9_0 (v9_0 :: [])) (fun k hk => (Old.nil _) k (n9_0 k hk)) (fun _ h => h.2)
              have e10 := e6.trans x9
              refine wla rfl rfl (q_move (v := (.tuple #[v9_0, (i64 r9.2)])) rfl rfl) ?_
              refine wla rfl rfl (q_extract rfl rfl rfl) ?_
              refine wla rfl rfl (q_extract rfl rfl rfl) ?_
              refine wla rfl rfl (q_assign (v := v9_0) rfl rfl) ?_
              refine wla rfl rfl (q_assign (v := (i64 r9.2)) rfl rfl) ?_
              refine wl_nil ?_
              refine W_th ?_
              refine W_seq ?_
              refine W_reg (by kernel_rfl) ?_
              refine wla rfl rfl (q_move (v := (i64 r9.2)) rfl rfl) ?_
              refine wla rfl rfl (q_assign (v := (i64 r9.2)) rfl rfl) ?_
              refine wl_nil ?_
              refine W_th ?_
              refine W_ret ?_
              obtain rfl := Option.some.inj H
              refine rt1 (i64 r9.2) rfl rfl rfl rfl ?_
              exact ⟨rfl, e10⟩

/-! largesse/syndrome.weight -/
noncomputable def syndrome_weight (a0f : Bool) (a1xs : List UInt8) (a2i : Int) : Option UInt8 :=
((iterC (fun s1 : UInt8 × Int =>
(if s1.2 < (a1xs.length : Int) then
((idx a1xs s1.2).bind fun c4 =>
(if s1.2 = a2i then some (.inl (s1.1, (wI (s1.2 + 1))))
else
((idx a1xs a2i).bind fun c6 =>
((field_Add c6 c4).bind fun r7 =>
((field_Mul a0f s1.1 r7).bind fun r9 => some (.inl (r9, (wI (s1.2 + 1)))))))))
else some (.inr s1.1))) ((1 : UInt8), 0)).bind fun x1 =>
((field_Inv a0f x1).bind fun r13 => some r13.1))
set_option maxRecDepth 100000 in
set_option maxHeartbeats 8000000 in
theorem syndrome_weight_calls (a0f : Bool) (a1xs : List UInt8) (a2i : Int) (p0 : Value) (p1 : Value) (r : UInt8) (w0 : World) (hp0 : Fd w0 [] p0 a0f) (hp1 : By w0 [] p1 a1xs) (H : syndrome_weight a0f a1xs a2i = some r) :
    Calls Try.prog 53 [p0, p1, (i64 a2i)].toArray w0 (fun e w' => e = .returned (u8 r) ∧ Ext w0 w') := by
  have hE : Ext w0 w0 := Ext.refl w0
  unfold syndrome_weight at H
  refine calls_W (n := 39) Try.func53 rfl rfl rfl ?_
  refine W_seq ?_
  refine W_reg (by kernel_rfl) ?_
  refine wla rfl rfl (q_assign (v := (u8 0)) rfl (cst8 (0 : UInt8) rfl)) ?_
  refine wl_nil ?_
  refine W_th ?_
  refine W_seq ?_
  refine W_reg (by kernel_rfl) ?_
  refine wla rfl rfl (q_assign (v := (u8 1)) rfl (cst8 (1 : UInt8) rfl)) ?_
  refine wl_nil ?_
  refine W_th ?_
  refine W_seq ?_
  refine W_seq ?_
  refine W_reg (by kernel_rfl) ?_
  refine wla rfl rfl (q_move (v := p1) rfl rfl) ?_
  refine wla rfl rfl (q_len rfl T22.sl rfl (hp1.lift (Lift.ext hE _))) ?_
  refine wla rfl rfl (q_move (v := (i64 0)) rfl rfl) ?_
  refine wl_nil ?_
  refine W_th ?_
  obtain ⟨x1, G1, H⟩ := Option.bind_eq_some_iff.1 H
  refine W_mid (fun f w => f 0 = p0 ∧ f 7 = (u8 x1) ∧ f 39 = undef ∧ Ext w0 w) ?_ ?_
  · refine W_block ?_
    refine W_loop (fun s1 f w => f 0 = p0 ∧ f 1 = p1 ∧ f 2 = (i64 a2i) ∧ f 7 = (u8 s1.1) ∧ f 12 = p1 ∧ f 13 = (i64 ((a1xs.length : Int))) ∧ f 14 = (i64 s1.2) ∧ f 39 = undef ∧ Ext w0 w) G1 ?_ ?_
    · exact ⟨rfl, rfl, rfl, rfl, rfl, rfl, rfl, rfl, hE⟩
    · rintro s1 _ _ w2 ⟨s0_2, s1_2, s2_2, s7_2, s12_2, s13_2, s14_2, s39_2, hE2⟩ H1 hr1
      refine W_seq ?_
      refine W_reg (by kernel_rfl) ?_
      refine wla rfl rfl (q_ltI rfl s14_2 s13_2) ?_
      refine wl_nil ?_
      refine W_th ?_
      refine W_seq ?_
      refine W_cond _ rfl rfl (fun hb3 => ?_) (fun hb3 => ?_)
      · replace H1 := (if_pos (of_decide_eq_true hb3)).symm.trans H1
        refine W_skip ?_
        refine W_th ?_
        refine W_seq ?_
        refine W_block ?_
        refine W_seq ?_
        refine W_reg (by kernel_rfl) ?_
        refine wla rfl rfl (q_move (v := (i64 s1.2)) rfl s14_2) ?_
        obtain ⟨c4, hc4, H1⟩ := Option.bind_eq_some_iff.1 H1
        refine wla rfl rfl (q_adr rfl T22 s12_2 s14_2 (hp1.lift (Lift.ext hE2 _)) hc4) ?_
        refine wlq rfl rfl (q_loadS rfl T22 rfl (hp1.lift (Lift.ext hE2 _)) hc4) ?_
        refine wla rfl rfl (q_assign (v := (i64 s1.2)) rfl rfl) ?_
        refine wla rfl rfl (q_assign (v := (u8 c4)) rfl rfl) ?_
        refine wl_nil ?_
        refine W_th ?_
        refine W_seq ?_
        refine W_reg (by kernel_rfl) ?_
        refine wla rfl rfl (q_move (v := (i64 s1.2)) rfl rfl) ?_
        refine wla rfl rfl (q_move (v := (i64 a2i)) rfl s2_2) ?_
        refine wla rfl rfl (q_neI rfl rfl rfl) ?_
        refine wl_nil ?_
        refine W_th ?_
        refine W_cond _ rfl rfl (fun hb5 => ?_) (fun hb5 => ?_)
        · replace H1 := (if_neg (ndec_t hb5)).symm.trans H1
          refine W_reg (by kernel_rfl) ?_
          refine wla rfl rfl (q_move (v := p0) rfl s0_2) ?_
          refine wla rfl rfl (q_move (v := (u8 s1.1)) rfl s7_2) ?_
          refine wla rfl rfl (q_move (v := p1) rfl s1_2) ?_
          refine wla rfl rfl (q_move (v := (i64 a2i)) rfl s2_2) ?_
          obtain ⟨c6, hc6, H1⟩ := Option.bind_eq_some_iff.1 H1
          refine wla rfl rfl (q_adr rfl T22 rfl rfl (hp1.lift (Lift.ext hE2 _)) hc6) ?_
          refine wlq rfl rfl (q_loadS rfl T22 rfl (hp1.lift (Lift.ext hE2 _)) hc6) ?_
          refine wla rfl rfl (q_move (v := (u8 c4)) rfl rfl) ?_
          obtain ⟨r7, hr7, H1⟩ := Option.bind_eq_some_iff.1 H1
          refine wls rfl rfl (stp_call (vs := [(u8 c6), (u8 c4)]) Try.func42 rfl rfl rfl (ar2 rfl rfl) (field_Add_calls c6 c4  r7 _  hr7) ?_)
          rintro _ w7 ⟨rfl, x7⟩
          refine ⟨_, rfl, ?_⟩
          have e8 := hE2.trans x7
          obtain ⟨r9, hr9, H1⟩ := Option.bind_eq_some_iff.1 H1
          refine wls rfl rfl (stp_call (vs := [p0, (u8 s1.1), (u8 r7)]) Try.func43 rfl rfl rfl (ar3 rfl rfl rfl) (field_Mul_calls a0f s1.1 r7 p0 r9 _ (hp0.lift (Lift.ext e8 _)) hr9) ?_)
          rintro _ w9 ⟨rfl, x9⟩
          refine ⟨_, rfl, ?_⟩
          have e10 := e8.trans x9
          refine wla rfl rfl (q_assign (v := (u8 r9)) rfl rfl) ?_
          refine wl_nil ?_
          refine bk_n ?_
          refine W_th ?_
          refine W_reg (by kernel_rfl) ?_
          refine wla rfl rfl (q_addI rfl s14_2 rfl) ?_
          refine wla rfl rfl (q_move (v := (i64 ((wI (s1.2 + 1))))) rfl rfl) ?_
          refine wl_nil ?_
          obtain rfl := Option.some.inj H1
          exact ⟨_, rfl, s0_2, s1_2, s2_2, rfl, s12_2, s13_2, rfl, s39_2, e10⟩
        · replace H1 := (if_pos (ndec_f hb5)).symm.trans H1
          refine W_skip ?_
          refine bk_n ?_
          refine W_th ?_
          refine W_reg (by kernel_rfl) ?_
          refine wla rfl rfl (q_addI rfl s14_2 rfl) ?_
          refine wla rfl rfl (q_move (v := (i64 ((wI (s1.2 + 1))))) rfl rfl) ?_
          refine wl_nil ?_
          obtain rfl := Option.some.inj H1
          exact ⟨_, rfl, s0_2, s1_2, s2_2, s7_2, s12_2, s13_2, rfl, s39_2, hE2⟩
      · replace H1 := (if_neg (of_decide_eq_false hb3)).symm.trans H1
        refine W_exit ?_
        refine th_x ?_
        obtain rfl := Option.some.inj H1
        obtain rfl := hr1 _ rfl
        refine th_x ?_
        refine bk_x ?_
        exact ⟨s0_2, s7_2, s39_2, hE2⟩
  · rintro _ w12 ⟨s0_12, s7_12, s39_12, hE12⟩
    refine W_th ?_
    refine W_seq ?_
    refine W_reg (by kernel_rfl) ?_
    refine wla rfl rfl (q_move (v := p0) rfl s0_12) ?_
    refine wla rfl rfl (q_move (v := (u8 x1)) rfl s7_12) ?_
    obtain ⟨r13, hr13, H⟩ := Option.bind_eq_some_iff.1 H
    refine wls rfl rfl (stp_call (vs := [p0, (u8 x1)]) Try.func66 rfl rfl rfl (ar2 rfl rfl) (field_Inv_calls a0f x1 p0 r13 _ (hp0.lift (Lift.ext hE12 _)) hr13) ?_)
    rintro _ w13 ⟨rfl, x13⟩
    refine ⟨_, rfl, ?_⟩
    have e14 := hE12.trans x13
    refine wla rfl rfl (q_move (v := (.tuple #[(u8 r13.1), (i64 r13.2)])) rfl rfl) ?_
    refine wla rfl rfl (q_extract rfl rfl rfl) ?_
    refine wla rfl rfl (q_extract rfl rfl rfl) ?_
    refine wla rfl rfl (q_assign (v := (u8 r13.1)) rfl rfl) ?_
    refine wla rfl rfl (q_assign (v := (i64 r13.2)) rfl rfl) ?_
    refine wl_nil ?_
    refine W_th ?_
    refine W_seq ?_
    refine W_reg (by kernel_rfl) ?_
    refine wla rfl rfl (q_move (v := (u8 r13.1)) rfl rfl) ?_
    refine wla rfl rfl (q_assign (v := (u8 r13.1)) rfl rfl) ?_
    refine wl_nil ?_
    refine W_th ?_
    refine W_ret ?_
    obtain rfl := Option.some.inj H
    refine rt1 (u8 r13.1) rfl rfl rfl s39_12 ?_
    exact ⟨rfl, e14⟩

/-! largesse/syndrome.Syndromes -/
noncomputable def syndrome_Syndromes (a0f : Bool) (a1t : Int) (a2xs : List UInt8) (a3ys : List UInt8) : Option (List UInt8 × Int) :=
((syndrome_check a0f a1t a2xs (a3ys.length : Int)).bind fun r1 =>
(if r1 = 0 then
((makeL ((wI ((a2xs.length : Int) - a1t))) (0 : UInt8)).bind fun c4 =>
((iterC (fun s7 : List UInt8 × Int =>
(if s7.2 < (a2xs.length : Int) then
((idx a2xs s7.2).bind fun c10 =>
((idx a3ys s7.2).bind fun c13 =>
((syndrome_weight a0f a2xs s7.2).bind fun r14 =>
((field_Mul a0f r14 c13).bind fun r16 =>
((iterC (fun s18 : List UInt8 × UInt8 × Int =>
(if s18.2.2 < (s7.1.length : Int) then
((idx s18.1 s18.2.2).bind fun c21 =>
((field_Add c21 s18.2.1).bind fun r22 =>
((field_Mul a0f s18.2.1 c10).bind fun r26 => some (.inl ((s18.1.set (s18.2.2 : Int).toNat r22), r26, (wI (s18.2.2 + 1)))))))
else some (.inr s18.1))) (s7.1, r16, 0)).bind fun x18 => some (.inl (x18, (wI (s7.2 + 1)))))))))
else some (.inr s7.1))) (c4, 0)).bind fun x7 => some (x7, 0)))
else some (([] : List UInt8), r1)))
set_option maxRecDepth 100000 in
set_option maxHeartbeats 8000000 in
theorem syndrome_Syndromes_calls (a0f : Bool) (a1t : Int) (a2xs : List UInt8) (a3ys : List UInt8) (p0 : Value) (p2 : Value) (p3 : Value) (r : List UInt8 × Int) (w0 : World) (hp0 : Fd w0 [] p0 a0f) (hp2 : By w0 [] p2 a2xs) (hp3 : By w0 [] p3 a3ys) (H : syndrome_Syndromes a0f a1t a2xs a3ys = some r) :
    Calls Try.prog 25 [p0, (i64 a1t), p2, p3].toArray w0 (fun e w' => ∃ u0 : Value, e = .returned (.tuple #[u0, (i64 r.2)]) ∧ Ext w0 w' ∧ Nw w0 u0 ∧ OwK (Sc u8) w' [] 5 u0 r.1) := by
  have hE : Ext w0 w0 := Ext.refl w0
  unfold syndrome_Syndromes at H
  refine calls_W (n := 68) Try.func25 rfl rfl rfl ?_
  refine W_seq ?_
  refine W_reg (by kernel_rfl) ?_
  refine wla rfl rfl (q_assign (v := (.slice none 0 0)) rfl rfl) ?_
  refine wla rfl rfl (q_assign (v := (i64 0)) rfl rfl) ?_
  refine wl_nil ?_
  refine W_th ?_
  refine W_seq ?_
  refine W_seq ?_
  refine W_reg (by kernel_rfl) ?_
  refine wla rfl rfl (q_move (v := p0) rfl rfl) ?_
  refine wla rfl rfl (q_move (v := (i64 a1t)) rfl rfl) ?_
  refine wla rfl rfl (q_move (v := p2) rfl rfl) ?_
  refine wla rfl rfl (q_move (v := p3) rfl rfl) ?_
  refine wla rfl rfl (q_len rfl T22.sl rfl (hp3.lift (Lift.ext hE _))) ?_
  obtain ⟨r1, hr1, H⟩ := Option.bind_eq_some_iff.1 H
  refine wls rfl rfl (stp_call (vs := [p0, (i64 a1t), p2, (i64 ((a3ys.length : Int)))]) Try.func52 rfl rfl rfl (ar4 rfl rfl rfl rfl) (syndrome_check_calls a0f a1t a2xs (a3ys.length : Int) p0 p2 r1 _ (hp0.lift (Lift.ext hE _)) (hp2.lift (Lift.ext hE _)) hr1) ?_)
  rintro _ w1 ⟨rfl, x1⟩
  refine ⟨_, rfl, ?_⟩
  have e2 := hE.trans x1
  refine wla rfl rfl (q_assign (v := (i64 r1)) rfl rfl) ?_
  refine wl_nil ?_
  refine W_th ?_
  refine W_seq ?_
  refine W_reg (by kernel_rfl) ?_
  refine wla rfl rfl (q_move (v := (i64 r1)) rfl rfl) ?_
  refine wla rfl rfl (q_neI rfl rfl rfl) ?_
  refine wl_nil ?_
  refine W_th ?_
  refine W_cond _ rfl rfl (fun hb3 => ?_) (fun hb3 => ?_)
  · replace H := (if_neg (ndec_t hb3)).symm.trans H
    refine W_seq ?_
    refine W_reg (by kernel_rfl) ?_
    refine wla rfl rfl (q_move (v := (i64 r1)) rfl rfl) ?_
    refine wla rfl rfl (q_assign (v := (.slice none 0 0)) rfl rfl) ?_
    refine wla rfl rfl (q_assign (v := (i64 r1)) rfl rfl) ?_
    refine wl_nil ?_
    refine W_th ?_
    refine W_ret ?_
    refine th_r ?_
    obtain rfl := Option.some.inj H
    refine rt2 (.slice none 0 0) (i64 r1) rfl rfl rfl rfl rfl rfl ?_
    exact ⟨(.slice none 0 0), rfl, e2, Nw.nil _, (OwK.nil _ _ _ _)⟩
  · replace H := (if_pos (ndec_f hb3)).symm.trans H
    refine W_skip ?_
    refine W_th ?_
    refine W_seq ?_
    refine W_reg (by kernel_rfl) ?_
    refine wla rfl rfl (q_move (v := p2) rfl rfl) ?_
    refine wla rfl rfl (q_len rfl T22.sl rfl (hp2.lift (Lift.ext e2 _))) ?_
    refine wla rfl rfl (q_move (v := (i64 a1t)) rfl rfl) ?_
    refine wla rfl rfl (q_subI rfl rfl rfl) ?_
    obtain ⟨c4, hc4, H⟩ := Option.bind_eq_some_iff.1 H
    refine wls rfl rfl (stp_make (L := []) (R := (Sc u8)) rfl T22 rfl rfl hc4 (fun _ _ => rfl) ?_)
    intro v4 w4 o4 n4 g4 l4
    have x4 := grown_ext g4
    have n6 := Nw.ext e2 n4
    have e5 := e2.trans x4
    refine wla rfl rfl (q_assign (v := v4) rfl rfl) ?_
    refine wl_nil ?_
    refine W_th ?_
    refine W_seq ?_
    refine W_seq ?_
    refine W_reg (by kernel_rfl) ?_
    refine wla rfl rfl (q_move (v := p2) rfl rfl) ?_
    refine wla rfl rfl (q_len rfl T22.sl rfl (hp2.lift (Lift.ext e5 _))) ?_
    refine wla rfl rfl (q_move (v := (i64 0)) rfl rfl) ?_
    refine wl_nil ?_
    refine W_th ?_
    obtain ⟨x7, G7, H⟩ := Option.bind_eq_some_iff.1 H
    refine W_mid (fun f w => f 11 = v4 ∧ f 68 = undef ∧ Ext w0 w ∧ OwK (Sc u8) w [v4] 5 v4 x7 ∧ Nw w0 v4) ?_ ?_
    · refine W_block ?_
      refine W_loop (fun s7 f w => f 0 = p0 ∧ f 2 = p2 ∧ f 3 = p3 ∧ f 11 = v4 ∧ f 30 = p2 ∧ f 31 = (i64 ((a2xs.length : Int))) ∧ f 32 = (i64 s7.2) ∧ f 68 = undef ∧ Ext w0 w ∧ OwK (Sc u8) w [v4] 5 v4 s7.1 ∧ Nw w0 v4) G7 ?_ ?_
      · exact ⟨rfl, rfl, rfl, rfl, rfl, rfl, rfl, rfl, e5, o4, n6⟩
      · rintro s7 _ _ w8 ⟨s0_8, s2_8, s3_8, s11_8, s30_8, s31_8, s32_8, s68_8, hE8, o0_8, n0_8⟩ H7 hr7
        refine W_seq ?_
        refine W_reg (by kernel_rfl) ?_
        refine wla rfl rfl (q_ltI rfl s32_8 s31_8) ?_
        refine wl_nil ?_
        refine W_th ?_
        refine W_seq ?_
        refine W_cond _ rfl rfl (fun hb9 => ?_) (fun hb9 => ?_)
        · replace H7 := (if_pos (of_decide_eq_true hb9)).symm.trans H7
          refine W_skip ?_
          refine W_th ?_
          refine W_seq ?_
          refine W_block ?_
          refine W_seq ?_
          refine W_reg (by kernel_rfl) ?_
          refine wla rfl rfl (q_move (v := (i64 s7.2)) rfl s32_8) ?_
          obtain ⟨c10, hc10, H7⟩ := Option.bind_eq_some_iff.1 H7
          refine wla rfl rfl (q_adr rfl T22 s30_8 s32_8 (hp2.lift (Lift.ext hE8 _)) hc10) ?_
          refine wlq rfl rfl (q_loadS rfl T22 rfl (hp2.lift (Lift.ext hE8 _)) hc10) ?_
          refine wla rfl rfl (q_assign (v := (i64 s7.2)) rfl rfl) ?_
          refine wla rfl rfl (q_assign (v := (u8 c10)) rfl rfl) ?_
          refine wl_nil ?_
          refine W_th ?_
          refine W_seq ?_
          refine W_draw [8] [(0, 0), (1, 0), (2, 0), (3, 0), (5, 0), (6, 0), (7, 0), (8, 1), (4, 2), (9, 2), (10, 0)] mixed (by kernel_rfl) (by kernel_rfl) (by kernel_rfl) (by kernel_rfl) ?_
          have x11 := Ext.drew w8
          replace o0_8 := o0_8.extL (Sc.stab _) x11 (Lift.ext x11 _)
          have e12 := hE8.trans x11
          refine wsa rfl rfl rfl (q_move (v := p0) rfl s0_8) ?_
          refine wsa rfl rfl rfl (q_move (v := p0) rfl s0_8) ?_
          refine wsa rfl rfl rfl (q_move (v := p2) rfl s2_8) ?_
          refine wsa rfl rfl rfl (q_move (v := (i64 s7.2)) rfl rfl) ?_
          refine wsa rfl rfl rfl (q_move (v := p3) rfl s3_8) ?_
          refine wsa rfl rfl rfl (q_move (v := (i64 s7.2)) rfl rfl) ?_
          obtain ⟨c13, hc13, H7⟩ := Option.bind_eq_some_iff.1 H7
          refine wsa rfl rfl rfl (q_adr rfl T22 rfl rfl (hp3.lift (Lift.ext e12 _)) hc13) ?_
          refine wsq rfl rfl rfl (q_loadS rfl T22 rfl (hp3.lift (Lift.ext e12 _)) hc13) ?_
          obtain ⟨r14, hr14, H7⟩ := Option.bind_eq_some_iff.1 H7
          refine wss rfl rfl rfl (stp_call (vs := [p0, p2, (i64 s7.2)]) Try.func53 rfl rfl rfl (ar3 rfl rfl rfl) (syndrome_weight_calls a0f a2xs s7.2 p0 p2 r14 _ (hp0.lift (Lift.ext e12 _)) (hp2.lift (Lift.ext e12 _)) hr14) ?_)
          rintro _ w14 ⟨rfl, x14⟩
          refine ⟨_, rfl, x14, ?_⟩
          replace o0_8 := o0_8.extL (Sc.stab _) x14 (Lift.ext x14 _)
          have e15 := e12.trans x14
          obtain ⟨r16, hr16, H7⟩ := Option.bind_eq_some_iff.1 H7
          refine wsc rfl (by kernel_rfl) rfl rfl (stp_call (vs := [p0, (u8 r14), (u8 c13)]) Try.func43 rfl rfl rfl (ar3 rfl rfl rfl) (field_Mul_calls a0f r14 c13 p0 r16 _ (hp0.lift (Lift.ext e15 _)) hr16) ?_)
          rintro _ w16 ⟨rfl, x16⟩
          refine ⟨_, rfl, ?_⟩
          replace o0_8 := o0_8.extL (Sc.stab _) x16 (Lift.ext x16 _)
          have e17 := e15.trans x16
          refine wsa rfl rfl rfl (q_assign (v := (u8 r16)) rfl rfl) ?_
          refine ws_nil ?_
          refine W_th ?_
          refine W_seq ?_
          refine W_reg (by kernel_rfl) ?_
          refine wla rfl rfl (q_move (v := v4) rfl s11_8) ?_
          refine wla rfl rfl (q_len rfl T22.sl rfl (o0_8.rd (Sc.stab _))) ?_
          refine wla rfl rfl (q_move (v := (i64 0)) rfl rfl) ?_
          refine wl_nil ?_
          refine W_th ?_
          obtain ⟨x18, G18, H7⟩ := Option.bind_eq_some_iff.1 H7
          refine W_mid (fun f w => f 0 = p0 ∧ f 2 = p2 ∧ f 3 = p3 ∧ f 11 = v4 ∧ f 30 = p2 ∧ f 31 = (i64 ((a2xs.length : Int))) ∧ f 32 = (i64 s7.2) ∧ f 68 = undef ∧ Ext w0 w ∧ OwK (Sc u8) w [v4] 5 v4 x18 ∧ Nw w0 v4) ?_ ?_
          · refine W_block ?_
            refine W_loop (fun s18 f w => f 0 = p0 ∧ f 2 = p2 ∧ f 3 = p3 ∧ f 11 = v4 ∧ f 13 = (u8 c10) ∧ f 14 = (u8 s18.2.1) ∧ f 30 = p2 ∧ f 31 = (i64 ((a2xs.length : Int))) ∧ f 32 = (i64 s7.2) ∧ f 48 = (i64 ((s7.1.length : Int))) ∧ f 49 = (i64 s18.2.2) ∧ f 68 = undef ∧ Ext w0 w ∧ OwK (Sc u8) w [v4] 5 v4 s18.1 ∧ Nw w0 v4) G18 ?_ ?_
            · exact ⟨s0_8, s2_8, s3_8, s11_8, rfl, rfl, s30_8, s31_8, s32_8, rfl, rfl, s68_8, e17, o0_8, n0_8⟩
            · rintro s18 _ _ w19 ⟨s0_19, s2_19, s3_19, s11_19, s13_19, s14_19, s30_19, s31_19, s32_19, s48_19, s49_19, s68_19, hE19, o0_19, n0_19⟩ H18 hr18
              refine W_seq ?_
              refine W_reg (by kernel_rfl) ?_
              refine wla rfl rfl (q_ltI rfl s49_19 s48_19) ?_
              refine wl_nil ?_
              refine W_th ?_
              refine W_seq ?_
              refine W_cond _ rfl rfl (fun hb20 => ?_) (fun hb20 => ?_)
              · replace H18 := (if_pos (of_decide_eq_true hb20)).symm.trans H18
                refine W_skip ?_
                refine W_th ?_
                refine W_seq ?_
                refine W_block ?_
                refine W_seq ?_
                refine W_reg (by kernel_rfl) ?_
                refine wla rfl rfl (q_move (v := (i64 s18.2.2)) rfl s49_19) ?_
                refine wla rfl rfl (q_assign (v := (i64 s18.2.2)) rfl rfl) ?_
                refine wl_nil ?_
                refine W_th ?_
                refine W_seq ?_
                refine W_reg (by kernel_rfl) ?_
                refine wla rfl rfl (q_move (v := v4) rfl s11_19) ?_
                refine wla rfl rfl (q_move (v := (i64 s18.2.2)) rfl rfl) ?_
                refine wla rfl rfl (q_move (v := v4) rfl s11_19) ?_
                refine wla rfl rfl (q_move (v := (i64 s18.2.2)) rfl rfl) ?_
                obtain ⟨c21, hc21, H18⟩ := Option.bind_eq_some_iff.1 H18
                refine wla rfl rfl (q_adr rfl T22 rfl rfl (o0_19.rd (Sc.stab _)) hc21) ?_
                refine wlq rfl rfl (q_loadS rfl T22 rfl (o0_19.rd (Sc.stab _)) hc21) ?_
                refine wla rfl rfl (q_move (v := (u8 s18.2.1)) rfl s14_19) ?_
                obtain ⟨r22, hr22, H18⟩ := Option.bind_eq_some_iff.1 H18
                refine wls rfl rfl (stp_call (vs := [(u8 c21), (u8 s18.2.1)]) Try.func42 rfl rfl rfl (ar2 rfl rfl) (field_Add_calls c21 s18.2.1  r22 _  hr22) ?_)
                rintro _ w22 ⟨rfl, x22⟩
                refine ⟨_, rfl, ?_⟩
                replace o0_19 := o0_19.extL (Sc.stab _) x22 (Lift.ext x22 _)
                have e23 := hE19.trans x22
                refine wla rfl rfl (q_adr rfl T22 rfl rfl (o0_19.rd (Sc.stab _)) hc21) ?_
                refine wln rfl rfl (stp_store (R := (Sc u8)) (u := (u8 r22)) (Sc.stab _) [] [] rfl T22 rfl rfl o0_19 (put_of r22 hc21) rfl rfl ?_)
                intro w24 o24 g24 l24
                have e25 := e23.grown g24 n0_19
                refine wl_nil ?_
                refine W_th ?_
                refine W_reg (by kernel_rfl) ?_
                refine wla rfl rfl (q_move (v := p0) rfl s0_19) ?_
                refine wla rfl rfl (q_move (v := (u8 s18.2.1)) rfl s14_19) ?_
                refine wla rfl rfl (q_move (v := (u8 c10)) rfl s13_19) ?_
                obtain ⟨r26, hr26, H18⟩ := Option.bind_eq_some_iff.1 H18
                refine wls rfl rfl (stp_call (vs := [p0, (u8 s18.2.1), (u8 c10)]) Try.func43 rfl rfl rfl (ar3 rfl rfl rfl) (field_Mul_calls a0f s18.2.1 c10 p0 r26 _ (hp0.lift (Lift.ext e25 _)) hr26) ?_)
                rintro _ w26 ⟨rfl, x26⟩
                refine ⟨_, rfl, ?_⟩
                replace o24 := o24.extL (Sc.stab _) x26 (Lift.ext x26 _)
                have e27 := e25.trans x26
                refine wla rfl rfl (q_assign (v := (u8 r26)) rfl rfl) ?_
                refine wl_nil ?_
                refine bk_n ?_
                refine W_th ?_
                refine W_reg (by kernel_rfl) ?_
                refine wla rfl rfl (q_addI rfl s49_19 rfl) ?_
                refine wla rfl rfl (q_move (v := (i64 ((wI (s18.2.2 + 1))))) rfl rfl) ?_
                refine wl_nil ?_
                obtain rfl := Option.some.inj H18
                exact ⟨_, rfl, s0_19, s2_19, s3_19, s11_19, s13_19, rfl, s30_19, s31_19, s32_19, s48_19, rfl, s68_19, e27, o24, n0_19⟩
              · replace H18 := (if_neg (of_decide_eq_false hb20)).symm.trans H18
                refine W_exit ?_
                refine th_x ?_
                obtain rfl := Option.some.inj H18
                obtain rfl := hr18 _ rfl
                refine th_x ?_
                refine bk_x ?_
                exact ⟨s0_19, s2_19, s3_19, s11_19, s30_19, s31_19, s32_19, s68_19, hE19, o0_19, n0_19⟩
          · rintro _ w29 ⟨s0_29, s2_29, s3_29, s11_29, s30_29, s31_29, s32_29, s68_29, hE29, o0_29, n0_29⟩
            refine bk_n ?_
            refine W_th ?_
            refine W_reg (by kernel_rfl) ?_
            refine wla rfl rfl (q_addI rfl s32_29 rfl) ?_
            refine wla rfl rfl (q_move (v := (i64 ((wI (s7.2 + 1))))) rfl rfl) ?_
            refine wl_nil ?_
            obtain rfl := Option.some.inj H7
            exact ⟨_, rfl, s0_29, s2_29, s3_29, s11_29, s30_29, s31_29, rfl, s68_29, hE29, o0_29, n0_29⟩
        · replace H7 := (if_neg (of_decide_eq_false hb9)).symm.trans H7
          refine W_exit ?_
          refine th_x ?_
          obtain rfl := Option.some.inj H7
          obtain rfl := hr7 _ rfl
          refine th_x ?_
          refine bk_x ?_
          exact ⟨s11_8, s68_8, hE8, o0_8, n0_8⟩
    · rintro _ w32 ⟨s11_32, s68_32, hE32, o0_32, n0_32⟩
      refine W_th ?_
      refine W_seq ?_
      refine W_reg (by kernel_rfl) ?_
      refine wla rfl rfl (q_move (v := v4) rfl s11_32) ?_
      refine wla rfl rfl (q_assign (v := v4) rfl rfl) ?_
      refine wla rfl rfl (q_assign (v := (i64 0)) rfl rfl) ?_
      refine wl_nil ?_
      refine W_th ?_
      refine W_ret ?_
      obtain rfl := Option.some.inj H
      refine rt2 v4 (i64 0) rfl rfl rfl rfl rfl s68_32 ?_
      exact ⟨v4, rfl, hE32, n0_32, (o0_32.weak (Sc.stab _) (fun _ _ => trivial))⟩

/-! largesse/syndrome.part -/
noncomputable def syndrome_part (a0p : List UInt8) (a1i : Int) : Option UInt8 :=
(if a1i < 0 then some (0 : UInt8)
else
(if (a0p.length : Int) ≤ a1i then some (0 : UInt8)
else
((idx a0p a1i).bind fun c3 => some c3)))
set_option maxRecDepth 100000 in
set_option maxHeartbeats 8000000 in
theorem syndrome_part_calls (a0p : List UInt8) (a1i : Int) (p0 : Value) (r : UInt8) (w0 : World) (hp0 : By w0 [] p0 a0p) (H : syndrome_part a0p a1i = some r) :
    Calls Try.prog 79 [p0, (i64 a1i)].toArray w0 (fun e w' => e = .returned (u8 r) ∧ Ext w0 w') := by
  have hE : Ext w0 w0 := Ext.refl w0
  unfold syndrome_part at H
  refine calls_W (n := 17) Try.func79 rfl rfl rfl ?_
  refine W_seq ?_
  refine W_reg (by kernel_rfl) ?_
  refine wla rfl rfl (q_assign (v := (u8 0)) rfl (cst8 (0 : UInt8) rfl)) ?_
  refine wl_nil ?_
  refine W_th ?_
  refine W_seq ?_
  refine W_seq ?_
  refine W_reg (by kernel_rfl) ?_
  refine wla rfl rfl (q_move (v := (i64 a1i)) rfl rfl) ?_
  refine wla rfl rfl (q_ltI rfl rfl rfl) ?_
  refine wlb rfl rfl (q_move (v := (.bool ((decide (a1i < 0))))) rfl rfl) (fun hb1 => ?_) (fun hb1 => ?_)
  · replace H := (if_pos (of_decide_eq_true hb1)).symm.trans H
    refine wlk rfl rfl ?_
    refine wlk rfl rfl ?_
    refine wlk rfl rfl ?_
    refine wlk rfl rfl ?_
    refine wla rfl rfl (q_pick_t (v := (.bool true)) rfl rfl rfl) ?_
    refine wl_nil ?_
    refine W_th ?_
    refine W_cond true rfl rfl (fun _ => ?_) (fun hb => by cases hb)
    refine W_seq ?_
    refine W_reg (by kernel_rfl) ?_
    refine wla rfl rfl (q_assign (v := (u8 0)) rfl (cst8 (0 : UInt8) rfl)) ?_
    refine wl_nil ?_
    refine W_th ?_
    refine W_ret ?_
    refine th_r ?_
    obtain rfl := Option.some.inj H
    refine rt1 (u8 0) rfl rfl rfl rfl ?_
    exact ⟨rfl, hE⟩
  · replace H := (if_neg (of_decide_eq_false hb1)).symm.trans H
    refine wla rfl rfl (q_move (v := (i64 a1i)) rfl rfl) ?_
    refine wla rfl rfl (q_move (v := p0) rfl rfl) ?_
    refine wla rfl rfl (q_len rfl T22.sl rfl (hp0.lift (Lift.ext hE _))) ?_
    refine wla rfl rfl (q_geI rfl rfl rfl) ?_
    refine wla rfl rfl (q_pick_f (v := (.bool ((decide ((a0p.length : Int) ≤ a1i))))) rfl rfl rfl) ?_
    refine wl_nil ?_
    refine W_th ?_
    refine W_cond _ rfl rfl (fun hb2 => ?_) (fun hb2 => ?_)
    · replace H := (if_pos (of_decide_eq_true hb2)).symm.trans H
      refine W_seq ?_
      refine W_reg (by kernel_rfl) ?_
      refine wla rfl rfl (q_assign (v := (u8 0)) rfl (cst8 (0 : UInt8) rfl)) ?_
      refine wl_nil ?_
      refine W_th ?_
      refine W_ret ?_
      refine th_r ?_
      obtain rfl := Option.some.inj H
      refine rt1 (u8 0) rfl rfl rfl rfl ?_
      exact ⟨rfl, hE⟩
    · replace H := (if_neg (of_decide_eq_false hb2)).symm.trans H
      refine W_skip ?_
      refine W_th ?_
      refine W_seq ?_
      refine W_reg (by kernel_rfl) ?_
      refine wla rfl rfl (q_move (v := p0) rfl rfl) ?_
      refine wla rfl rfl (q_move (v := (i64 a1i)) rfl rfl) ?_
      obtain ⟨c3, hc3, H⟩ := Option.bind_eq_some_iff.1 H
      refine wla rfl rfl (q_adr rfl T22 rfl rfl (hp0.lift (Lift.ext hE _)) hc3) ?_
      refine wlq rfl rfl (q_loadS rfl T22 rfl (hp0.lift (Lift.ext hE _)) hc3) ?_
      refine wla rfl rfl (q_assign (v := (u8 c3)) rfl rfl) ?_
      refine wl_nil ?_
      refine W_th ?_
      refine W_ret ?_
      obtain rfl := Option.some.inj H
      refine rt1 (u8 c3) rfl rfl rfl rfl ?_
      exact ⟨rfl, hE⟩

/-! largesse/syndrome.gap -/
noncomputable def syndrome_gap (a0f : Bool) (a1s : List UInt8) (a2locator : List UInt8) (a3length : Int) (a4n : Int) : Option UInt8 :=
((idx a1s a4n).bind fun c1 =>
((iterC (fun s2 : UInt8 × Int =>
(if s2.2 ≤ a3length then
((idx a1s ((wI (a4n - s2.2)))).bind fun c7 =>
((syndrome_part a2locator s2.2).bind fun r8 =>
((field_Mul a0f r8 c7).bind fun r10 =>
((field_Add s2.1 r10).bind fun r12 => some (.inl (r12, (wI (s2.2 + 1))))))))
else some (.inr s2.1))) (c1, 1)).bind fun x2 => some x2))
set_option maxRecDepth 100000 in
set_option maxHeartbeats 8000000 in
theorem syndrome_gap_calls (a0f : Bool) (a1s : List UInt8) (a2locator : List UInt8) (a3length : Int) (a4n : Int) (p0 : Value) (p1 : Value) (p2 : Value) (r : UInt8) (w0 : World) (hp0 : Fd w0 [] p0 a0f) (hp1 : By w0 [] p1 a1s) (hp2 : By w0 [] p2 a2locator) (H : syndrome_gap a0f a1s a2locator a3length a4n = some r) :
    Calls Try.prog 61 [p0, p1, p2, (i64 a3length), (i64 a4n)].toArray w0 (fun e w' => e = .returned (u8 r) ∧ Ext w0 w') := by
  have hE : Ext w0 w0 := Ext.refl w0
  unfold syndrome_gap at H
  refine calls_W (n := 36) Try.func61 rfl rfl rfl ?_
  refine W_seq ?_
  refine W_reg (by kernel_rfl) ?_
  refine wla rfl rfl (q_assign (v := (u8 0)) rfl (cst8 (0 : UInt8) rfl)) ?_
  refine wl_nil ?_
  refine W_th ?_
  refine W_seq ?_
  refine W_reg (by kernel_rfl) ?_
  refine wla rfl rfl (q_move (v := p1) rfl rfl) ?_
  refine wla rfl rfl (q_move (v := (i64 a4n)) rfl rfl) ?_
  obtain ⟨c1, hc1, H⟩ := Option.bind_eq_some_iff.1 H
  refine wla rfl rfl (q_adr rfl T22 rfl rfl (hp1.lift (Lift.ext hE _)) hc1) ?_
  refine wlq rfl rfl (q_loadS rfl T22 rfl (hp1.lift (Lift.ext hE _)) hc1) ?_
  refine wla rfl rfl (q_assign (v := (u8 c1)) rfl rfl) ?_
  refine wl_nil ?_
  refine W_th ?_
  refine W_seq ?_
  refine W_seq ?_
  refine W_reg (by kernel_rfl) ?_
  refine wla rfl rfl (q_assign (v := (i64 1)) rfl rfl) ?_
  refine wl_nil ?_
  refine W_th ?_
  obtain ⟨x2, G2, H⟩ := Option.bind_eq_some_iff.1 H
  refine W_mid (fun f w => f 11 = (u8 x2) ∧ f 36 = undef ∧ Ext w0 w) ?_ ?_
  · refine W_block ?_
    refine W_loop (fun s2 f w => f 0 = p0 ∧ f 1 = p1 ∧ f 2 = p2 ∧ f 3 = (i64 a3length) ∧ f 4 = (i64 a4n) ∧ f 11 = (u8 s2.1) ∧ f 12 = (i64 s2.2) ∧ f 36 = undef ∧ Ext w0 w) G2 ?_ ?_
    · exact ⟨rfl, rfl, rfl, rfl, rfl, rfl, rfl, rfl, hE⟩
    · rintro s2 _ _ w3 ⟨s0_3, s1_3, s2_3, s3_3, s4_3, s11_3, s12_3, s36_3, hE3⟩ H2 hr2
      refine W_seq ?_
      refine W_seq ?_
      refine W_reg (by kernel_rfl) ?_
      refine wla rfl rfl (q_move (v := (i64 s2.2)) rfl s12_3) ?_
      refine wla rfl rfl (q_move (v := (i64 a3length)) rfl s3_3) ?_
      refine wla rfl rfl (q_leI rfl rfl rfl) ?_
      refine wl_nil ?_
      refine W_th ?_
      refine W_cond _ rfl rfl (fun hb4 => ?_) (fun hb4 => ?_)
      · replace H2 := (if_pos (of_decide_eq_true hb4)).symm.trans H2
        refine W_skip ?_
        refine W_th ?_
        refine W_seq ?_
        refine W_block ?_
        refine W_draw [10] [(0, 0), (1, 0), (2, 0), (3, 0), (5, 0), (6, 0), (7, 0), (8, 0), (9, 0), (10, 1), (4, 2), (11, 2), (12, 2), (13, 0)] mixed (by kernel_rfl) (by kernel_rfl) (by kernel_rfl) (by kernel_rfl) ?_
        have x5 := Ext.drew w3
        have e6 := hE3.trans x5
        refine wsa rfl rfl rfl (q_move (v := (u8 s2.1)) rfl s11_3) ?_
        refine wsa rfl rfl rfl (q_move (v := p0) rfl s0_3) ?_
        refine wsa rfl rfl rfl (q_move (v := p2) rfl s2_3) ?_
        refine wsa rfl rfl rfl (q_move (v := (i64 s2.2)) rfl s12_3) ?_
        refine wsa rfl rfl rfl (q_move (v := p1) rfl s1_3) ?_
        refine wsa rfl rfl rfl (q_move (v := (i64 a4n)) rfl s4_3) ?_
        refine wsa rfl rfl rfl (q_move (v := (i64 s2.2)) rfl s12_3) ?_
        refine wsa rfl rfl rfl (q_subI rfl rfl rfl) ?_
        obtain ⟨c7, hc7, H2⟩ := Option.bind_eq_some_iff.1 H2
        refine wsa rfl rfl rfl (q_adr rfl T22 rfl rfl (hp1.lift (Lift.ext e6 _)) hc7) ?_
        refine wsq rfl rfl rfl (q_loadS rfl T22 rfl (hp1.lift (Lift.ext e6 _)) hc7) ?_
        obtain ⟨r8, hr8, H2⟩ := Option.bind_eq_some_iff.1 H2
        refine wss rfl rfl rfl (stp_call (vs := [p2, (i64 s2.2)]) Try.func79 rfl rfl rfl (ar2 rfl rfl) (syndrome_part_calls a2locator s2.2 p2 r8 _ (hp2.lift (Lift.ext e6 _)) hr8) ?_)
        rintro _ w8 ⟨rfl, x8⟩
        refine ⟨_, rfl, x8, ?_⟩
        have e9 := e6.trans x8
        obtain ⟨r10, hr10, H2⟩ := Option.bind_eq_some_iff.1 H2
        refine wsc rfl (by kernel_rfl) rfl rfl (stp_call (vs := [p0, (u8 r8), (u8 c7)]) Try.func43 rfl rfl rfl (ar3 rfl rfl rfl) (field_Mul_calls a0f r8 c7 p0 r10 _ (hp0.lift (Lift.ext e9 _)) hr10) ?_)
        rintro _ w10 ⟨rfl, x10⟩
        refine ⟨_, rfl, ?_⟩
        have e11 := e9.trans x10
        obtain ⟨r12, hr12, H2⟩ := Option.bind_eq_some_iff.1 H2
        refine wsc rfl (by kernel_rfl) rfl rfl (stp_call (vs := [(u8 s2.1), (u8 r10)]) Try.func42 rfl rfl rfl (ar2 rfl rfl) (field_Add_calls s2.1 r10  r12 _  hr12) ?_)
        rintro _ w12 ⟨rfl, x12⟩
        refine ⟨_, rfl, ?_⟩
        have e13 := e11.trans x12
        refine wsa rfl rfl rfl (q_assign (v := (u8 r12)) rfl rfl) ?_
        refine ws_nil ?_
        refine bk_n ?_
        refine W_th ?_
        refine W_reg (by kernel_rfl) ?_
        refine wla rfl rfl (q_move (v := (i64 s2.2)) rfl s12_3) ?_
        refine wla rfl rfl (q_addI rfl rfl rfl) ?_
        refine wla rfl rfl (q_assign (v := (i64 ((wI (s2.2 + 1))))) rfl rfl) ?_
        refine wl_nil ?_
        obtain rfl := Option.some.inj H2
        exact ⟨_, rfl, s0_3, s1_3, s2_3, s3_3, s4_3, rfl, rfl, s36_3, e13⟩
      · replace H2 := (if_neg (of_decide_eq_false hb4)).symm.trans H2
        refine W_exit ?_
        refine th_x ?_
        obtain rfl := Option.some.inj H2
        obtain rfl := hr2 _ rfl
        refine th_x ?_
        refine bk_x ?_
        exact ⟨s11_3, s36_3, hE3⟩
  · rintro _ w15 ⟨s11_15, s36_15, hE15⟩
    refine W_th ?_
    refine W_seq ?_
    refine W_reg (by kernel_rfl) ?_
    refine wla rfl rfl (q_move (v := (u8 x2)) rfl s11_15) ?_
    refine wla rfl rfl (q_assign (v := (u8 x2)) rfl rfl) ?_
    refine wl_nil ?_
    refine W_th ?_
    refine W_ret ?_
    obtain rfl := Option.some.inj H
    refine rt1 (u8 x2) rfl rfl rfl s36_15 ?_
    exact ⟨rfl, hE15⟩

/-! largesse/syndrome.Locator -/
noncomputable def syndrome_Locator (a0f : Bool) (a1s : List UInt8) : Option (List UInt8 × Int) :=
(if (!a0f) = true then some (([] : List UInt8), 1)
else
((iterC (fun s9 : List UInt8 × List UInt8 × Int × Int × UInt8 × Int =>
(if s9.2.2.2.2.2 < (a1s.length : Int) then
((syndrome_gap a0f a1s s9.1 s9.2.2.1 s9.2.2.2.2.2).bind fun r12 =>
(if r12 = (0 : UInt8) then some (.inl (s9.1, s9.2.1, s9.2.2.1, (wI (s9.2.2.2.1 + 1)), s9.2.2.2.2.1, (wI (s9.2.2.2.2.2 + 1))))
else
((field_Div a0f r12 s9.2.2.2.2.1).bind fun r15 =>
((((makeL s9.2.2.2.1 (0 : UInt8)).bind fun c20 =>
((field_Scale a0f r15.1 s9.2.1).bind fun r23 =>
((slices_Concat_sbytebyte ([c20, r23] : List (List UInt8))).bind fun r27 =>
((poly_Add s9.1 r27).bind fun r29 => some r29))))).bind fun x17 =>
(if (wI (2 * s9.2.2.1)) ≤ s9.2.2.2.2.2 then some (.inl (x17, s9.1, (wI ((wI (s9.2.2.2.2.2 + 1)) - s9.2.2.1)), (wI (0 + 1)), r12, (wI (s9.2.2.2.2.2 + 1))))
else some (.inl (x17, s9.2.1, s9.2.2.1, (wI (s9.2.2.2.1 + 1)), s9.2.2.2.2.1, (wI (s9.2.2.2.2.2 + 1)))))))))
else some (.inr s9.1))) (([(1 : UInt8)] : List UInt8), ([(1 : UInt8)] : List UInt8), 0, 1, (1 : UInt8), 0)).bind fun x9 => some (x9, 0)))
set_option maxRecDepth 100000 in
set_option maxHeartbeats 8000000 in
theorem syndrome_Locator_calls (a0f : Bool) (a1s : List UInt8) (p0 : Value) (p1 : Value) (r : List UInt8 × Int) (w0 : World) (hp0 : Fd w0 [] p0 a0f) (hp1 : By w0 [] p1 a1s) (H : syndrome_Locator a0f a1s = some r) :
    Calls Try.prog 29 [p0, p1].toArray w0 (fun e w' => ∃ u0 : Value, e = .returned (.tuple #[u0, (i64 r.2)]) ∧ Ext w0 w' ∧ Nw w0 u0 ∧ OwK (Sc u8) w' [] 5 u0 r.1) := by
  have hE : Ext w0 w0 := Ext.refl w0
  unfold syndrome_Locator at H
  refine calls_W (n := 67) Try.func29 rfl rfl rfl ?_
  refine W_seq ?_
  refine W_reg (by kernel_rfl) ?_
  refine wla rfl rfl (q_assign (v := (.slice none 0 0)) rfl rfl) ?_
  refine wla rfl rfl (q_assign (v := (i64 0)) rfl rfl) ?_
  refine wl_nil ?_
  refine W_th ?_
  refine W_seq ?_
  refine W_seq ?_
  refine W_reg (by kernel_rfl) ?_
  refine wla rfl rfl (q_move (v := p0) rfl rfl) ?_
  refine wla rfl rfl (q_eqF rfl rfl rfl rfl (hp0.lift (Lift.ext hE _))) ?_
  refine wl_nil ?_
  refine W_th ?_
  refine W_cond _ rfl rfl (fun hb1 => ?_) (fun hb1 => ?_)
  · replace H := (if_pos hb1).symm.trans H
    refine W_seq ?_
    refine W_reg (by kernel_rfl) ?_
    refine wla rfl rfl (q_assign (v := (.slice none 0 0)) rfl rfl) ?_
    refine wla rfl rfl (q_assign (v := (i64 1)) rfl rfl) ?_
    refine wl_nil ?_
    refine W_th ?_
    refine W_ret ?_
    refine th_r ?_
    obtain rfl := Option.some.inj H
    refine rt2 (.slice none 0 0) (i64 1) rfl rfl rfl rfl rfl rfl ?_
    exact ⟨(.slice none 0 0), rfl, hE, Nw.nil _, (OwK.nil _ _ _ _)⟩
  · replace H := (if_neg (ne_true_of_eq_false hb1)).symm.trans H
    refine W_skip ?_
    refine W_th ?_
    refine W_seq ?_
    refine W_reg (by kernel_rfl) ?_
    refine wls rfl rfl (stp_lit (L := []) (R := (Sc u8)) [(u8 1)] ([(1 : UInt8)] : List UInt8) rfl T22 rfl (by exact ⟨rfl, (cst8 (1 : UInt8) rfl), trivial⟩) rfl (litC u8 (oneC_u8) (us := [(u8 1)]) (l := ([(1 : UInt8)] : List UInt8)) rfl) rfl (litS u8 (us := [(u8 1)]) (l := ([(1 : UInt8)] : List UInt8)) rfl) ?_)
    intro v2 w2 o2 n2 g2 l2
    have x2 := grown_ext g2
    have n4 := Nw.ext hE n2
    have e3 := hE.trans x2
    refine wls rfl rfl (stp_lit (L := [v2]) (R := (Sc u8)) [(u8 1)] ([(1 : UInt8)] : List UInt8) rfl T22 rfl (by exact ⟨rfl, (cst8 (1 : UInt8) rfl), trivial⟩) rfl (litC u8 (oneC_u8) (us := [(u8 1)]) (l := ([(1 : UInt8)] : List UInt8)) rfl) rfl (litS u8 (us := [(u8 1)]) (l := ([(1 : UInt8)] : List UInt8)) rfl) ?_)
    intro v5 w5 o5 n5 g5 l5
    have x5 := grown_ext g5
    have q6 : Nq v2 v5 := o2.nq n5
    replace o2 := o2.extL (Sc.stab _) x5 (Lift.call _ x5 n5)
    have n8 := Nw.ext e3 n5
    have e7 := e3.trans x5
    refine wla rfl rfl (q_assign (v := v2) rfl rfl) ?_
    refine wla rfl rfl (q_assign (v := v5) rfl rfl) ?_
    refine wl_nil ?_
    refine W_th ?_
    refine W_seq ?_
    refine W_reg (by kernel_rfl) ?_
    refine wla rfl rfl (q_assign (v := (i64 0)) rfl rfl) ?_
    refine wla rfl rfl (q_assign (v := (i64 1)) rfl rfl) ?_
    refine wla rfl rfl (q_assign (v := (u8 1)) rfl (cst8 (1 : UInt8) rfl)) ?_
    refine wl_nil ?_
    refine W_th ?_
    refine W_seq ?_
    refine W_seq ?_
    refine W_reg (by kernel_rfl) ?_
    refine wla rfl rfl (q_move (v := p1) rfl rfl) ?_
    refine wla rfl rfl (q_len rfl T22.sl rfl (hp1.lift (Lift.ext e7 _))) ?_
    refine wla rfl rfl (q_move (v := (i64 0)) rfl rfl) ?_
    refine wl_nil ?_
    refine W_th ?_
    obtain ⟨x9, G9, H⟩ := Option.bind_eq_some_iff.1 H
    refine W_mid (fun f w => ∃ v6_39 : Value, f 6 = v6_39 ∧ f 67 = undef ∧ Ext w0 w ∧ OwK (Sc u8) w [v6_39] 5 v6_39 x9 ∧ Nw w0 v6_39) ?_ ?_
    · refine W_block ?_
      refine W_loop (fun s9 f w => ∃ v6_37 : Value, ∃ v7_37 : Value, f 0 = p0 ∧ f 1 = p1 ∧ f 6 = v6_37 ∧ f 7 = v7_37 ∧ f 8 = (i64 s9.2.2.1) ∧ f 9 = (i64 s9.2.2.2.1) ∧ f 10 = (u8 s9.2.2.2.2.1) ∧ f 21 = (i64 ((a1s.length : Int))) ∧ f 22 = (i64 s9.2.2.2.2.2) ∧ f 67 = undef ∧ Ext w0 w ∧ OwK (Sc u8) w [v6_37, v7_37] 5 v6_37 s9.1 ∧ Nw w0 v6_37 ∧ OwK (Sc u8) w [v6_37, v7_37] 5 v7_37 s9.2.1 ∧ Nw w0 v7_37 ∧ Nq v6_37 v7_37) G9 ?_ ?_
      · exact ⟨v2, v5, rfl, rfl, rfl, rfl, rfl, rfl, rfl, rfl, rfl, rfl, e7, (o2.weak (Sc.stab _) (fun _ h => ⟨h.2.1, h.1, trivial⟩)), n4, (o5.weak (Sc.stab _) (fun _ h => ⟨h.2.1, h.1, trivial⟩)), n8, q6⟩
      · rintro s9 _ _ w10 ⟨v6_10, v7_10, s0_10, s1_10, s6_10, s7_10, s8_10, s9_10, s10_10, s21_10, s22_10, s67_10, hE10, o0_10, n0_10, o1_10, n1_10, q0_1_10⟩ H9 hr9
        refine W_seq ?_
        refine W_reg (by kernel_rfl) ?_
        refine wla rfl rfl (q_ltI rfl s22_10 s21_10) ?_
        refine wl_nil ?_
        refine W_th ?_
        refine W_seq ?_
        refine W_cond _ rfl rfl (fun hb11 => ?_) (fun hb11 => ?_)
        · replace H9 := (if_pos (of_decide_eq_true hb11)).symm.trans H9
          refine W_skip ?_
          refine W_th ?_
          refine W_seq ?_
          refine W_block ?_
          refine W_seq ?_
          refine W_reg (by kernel_rfl) ?_
          refine wla rfl rfl (q_move (v := (i64 s9.2.2.2.2.2)) rfl s22_10) ?_
          refine wla rfl rfl (q_assign (v := (i64 s9.2.2.2.2.2)) rfl rfl) ?_
          refine wl_nil ?_
          refine W_th ?_
          refine W_seq ?_
          refine W_reg (by kernel_rfl) ?_
          refine wla rfl rfl (q_move (v := p0) rfl s0_10) ?_
          refine wla rfl rfl (q_move (v := p1) rfl s1_10) ?_
          refine wla rfl rfl (q_move (v := v6_10) rfl s6_10) ?_
          refine wla rfl rfl (q_move (v := (i64 s9.2.2.1)) rfl s8_10) ?_
          refine wla rfl rfl (q_move (v := (i64 s9.2.2.2.2.2)) rfl rfl) ?_
          obtain ⟨r12, hr12, H9⟩ := Option.bind_eq_some_iff.1 H9
          refine wls rfl rfl (stp_call (vs := [p0, p1, v6_10, (i64 s9.2.2.1), (i64 s9.2.2.2.2.2)]) Try.func61 rfl rfl rfl (ar5 rfl rfl rfl rfl rfl) (syndrome_gap_calls a0f a1s s9.1 s9.2.2.1 s9.2.2.2.2.2 p0 p1 v6_10 r12 _ (hp0.lift (Lift.ext hE10 _)) (hp1.lift (Lift.ext hE10 _)) (o0_10.rd (Sc.stab _)) hr12) ?_)
          rintro _ w12 ⟨rfl, x12⟩
          refine ⟨_, rfl, ?_⟩
          replace o0_10 := o0_10.extL (Sc.stab _) x12 (Lift.ext x12 _)
          replace o1_10 := o1_10.extL (Sc.stab _) x12 (Lift.ext x12 _)
          have e13 := hE10.trans x12
          refine wla rfl rfl (q_assign (v := (u8 r12)) rfl rfl) ?_
          refine wl_nil ?_
          refine W_th ?_
          refine W_seq ?_
          refine W_seq ?_
          refine W_reg (by kernel_rfl) ?_
          refine wla rfl rfl (q_move (v := (u8 r12)) rfl rfl) ?_
          refine wla rfl rfl (q_eq8 rfl rfl (cst8 (0 : UInt8) rfl)) ?_
          refine wl_nil ?_
          refine W_th ?_
          refine W_cond _ rfl rfl (fun hb14 => ?_) (fun hb14 => ?_)
          · replace H9 := (if_pos (of_decide_eq_true hb14)).symm.trans H9
            refine W_seq ?_
            refine W_reg (by kernel_rfl) ?_
            refine wla rfl rfl (q_move (v := (i64 s9.2.2.2.1)) rfl s9_10) ?_
            refine wla rfl rfl (q_addI rfl rfl rfl) ?_
            refine wla rfl rfl (q_assign (v := (i64 ((wI (s9.2.2.2.1 + 1))))) rfl rfl) ?_
            refine wl_nil ?_
            refine W_th ?_
            refine W_exit ?_
            refine th_x ?_
            refine bk_x ?_
            refine W_th ?_
            refine W_reg (by kernel_rfl) ?_
            refine wla rfl rfl (q_addI rfl s22_10 rfl) ?_
            refine wla rfl rfl (q_move (v := (i64 ((wI (s9.2.2.2.2.2 + 1))))) rfl rfl) ?_
            refine wl_nil ?_
            obtain rfl := Option.some.inj H9
            exact ⟨_, rfl, v6_10, v7_10, s0_10, s1_10, s6_10, s7_10, s8_10, rfl, s10_10, s21_10, rfl, s67_10, e13, o0_10, n0_10, o1_10, n1_10, q0_1_10⟩
          · replace H9 := (if_neg (of_decide_eq_false hb14)).symm.trans H9
            refine W_skip ?_
            refine W_th ?_
            refine W_seq ?_
            refine W_reg (by kernel_rfl) ?_
            refine wla rfl rfl (q_move (v := p0) rfl s0_10) ?_
            refine wla rfl rfl (q_move (v := (u8 r12)) rfl rfl) ?_
            refine wla rfl rfl (q_move (v := (u8 s9.2.2.2.2.1)) rfl s10_10) ?_
            obtain ⟨r15, hr15, H9⟩ := Option.bind_eq_some_iff.1 H9
            refine wls rfl rfl (stp_call (vs := [p0, (u8 r12), (u8 s9.2.2.2.2.1)]) Try.func62 rfl rfl rfl (ar3 rfl rfl rfl) (field_Div_calls a0f r12 s9.2.2.2.2.1 p0 r15 _ (hp0.lift (Lift.ext e13 _)) hr15) ?_)
            rintro _ w15 ⟨rfl, x15⟩
            refine ⟨_, rfl, ?_⟩
            replace o0_10 := o0_10.extL (Sc.stab _) x15 (Lift.ext x15 _)
            replace o1_10 := o1_10.extL (Sc.stab _) x15 (Lift.ext x15 _)
            have e16 := e13.trans x15
            refine wla rfl rfl (q_move (v := (.tuple #[(u8 r15.1), (i64 r15.2)])) rfl rfl) ?_
            refine wla rfl rfl (q_extract rfl rfl rfl) ?_
            refine wla rfl rfl (q_extract rfl rfl rfl) ?_
            refine wla rfl rfl (q_assign (v := (u8 r15.1)) rfl rfl) ?_
            refine wla rfl rfl (q_assign (v := (i64 r15.2)) rfl rfl) ?_
            refine wl_nil ?_
            refine W_th ?_
            refine W_seq ?_
            obtain ⟨x17, H17, H9⟩ := Option.bind_eq_some_iff.1 H9
            refine W_mid (fun f w => ∃ v15_36 : Value, f 0 = p0 ∧ f 1 = p1 ∧ f 6 = v6_10 ∧ f 7 = v7_10 ∧ f 8 = (i64 s9.2.2.1) ∧ f 9 = (i64 s9.2.2.2.1) ∧ f 10 = (u8 s9.2.2.2.2.1) ∧ f 11 = (i64 s9.2.2.2.2.2) ∧ f 12 = (u8 r12) ∧ f 15 = v15_36 ∧ f 21 = (i64 ((a1s.length : Int))) ∧ f 22 = (i64 s9.2.2.2.2.2) ∧ f 67 = undef ∧ Ext w0 w ∧ OwK (Sc u8) w [v6_10, v7_10, v15_36] 5 v6_10 s9.1 ∧ Nw w0 v6_10 ∧ OwK (Sc u8) w [v6_10, v7_10, v15_36] 5 v7_10 s9.2.1 ∧ Nw w0 v7_10 ∧ OwK (Sc u8) w [v6_10, v7_10, v15_36] 5 v15_36 x17 ∧ Nw w0 v15_36 ∧ Nq v6_10 v7_10 ∧ Nq v6_10 v15_36 ∧ Nq v7_10 v15_36) ?_ ?_
            · refine W_draw2 [] [(0, 0), (1, 0), (3, 0), (4, 0), (5, 0)] 2 6 [(6, 2), (7, 2), (8, 2), (9, 2), (10, 0)] [(2, 2), (7, 2), (8, 2), (9, 2), (10, 0)] mixed (by kernel_rfl) (by kernel_rfl) (by kernel_rfl) (by kernel_rfl) ?_
              have x18 := Ext.drew w15
              replace o0_10 := o0_10.extL (Sc.stab _) x18 (Lift.ext x18 _)
              replace o1_10 := o1_10.extL (Sc.stab _) x18 (Lift.ext x18 _)
              have e19 := e16.trans x18
              refine wsa rfl rfl rfl (q_move (v := v6_10) rfl s6_10) ?_
              refine wsa rfl rfl rfl (q_move (v := (i64 s9.2.2.2.1)) rfl s9_10) ?_
              refine wsa rfl rfl rfl (q_move (v := p0) rfl s0_10) ?_
              refine wsa rfl rfl rfl (q_move (v := (u8 r15.1)) rfl rfl) ?_
              refine wsa rfl rfl rfl (q_move (v := v7_10) rfl s7_10) ?_
              obtain ⟨c20, hc20, H17⟩ := Option.bind_eq_some_iff.1 H17
              refine ws_nil ⟨?_, ?_⟩
              · refine wsc rfl (by kernel_rfl) rfl rfl (stp_make (L := [v6_10, v7_10]) (R := (Sc u8)) rfl T22 rfl rfl hc20 (fun _ _ => rfl) ?_)
                intro v21 w21 o21 n21 g21 l21
                have x21 := grown_ext g21
                have i21 : By w21 [v6_10, v7_10] v21 c20 := OwK.slk (Sc.stab _) _ o21 (fun k hk => (Old.cons (Old.cons (Old.nil _) o1_10.lt) o0_10.lt) k (n21 k hk)) (fun _ h => h.2)
                replace o0_10 := o0_10.extL (Sc.stab _) x21 (Lift.ext x21 _)
                replace o1_10 := o1_10.extL (Sc.stab _) x21 (Lift.ext x21 _)
                have e22 := e19.trans x21
                obtain ⟨r23, hr23, H17⟩ := Option.bind_eq_some_iff.1 H17
                refine wsc rfl (by kernel_rfl) rfl rfl (stp_call (vs := [p0, (u8 r15.1), v7_10]) Try.func65 rfl rfl rfl (ar3 rfl rfl rfl) (field_Scale_calls a0f r15.1 s9.2.1 p0 v7_10 r23 _ (hp0.lift (Lift.ext e22 _)) (o1_10.rd (Sc.stab _)) hr23) ?_)
                rintro _ w23 ⟨v23, rfl, x23, n23_0, o23_0⟩
                refine ⟨_, rfl, ?_⟩
                have i23_0 : By w23 [v6_10, v7_10] v23 r23 := OwK.slk (Sc.stab _) _ (OwK.scal o23_0 (v23 :: [v6_10, v7_10])) (fun k hk => (Old.cons (Old.cons (Old.nil _) o1_10.lt) o0_10.lt) k (n23_0 k hk)) (fun _ h => h.2)
                replace i21 := i21.lift (Lift.ext x23 _)
                replace o0_10 := o0_10.extL (Sc.stab _) x23 (Lift.ext x23 _)
                replace o1_10 := o1_10.extL (Sc.stab _) x23 (Lift.ext x23 _)
                have e24 := e22.trans x23
                refine wsc rfl (by kernel_rfl) rfl rfl (stp_lit (L := [v6_10, v7_10]) (R := By) [v21, v23] ([c20, r23] : List (List UInt8)) rfl T40 rfl (by exact ⟨rfl, rfl, rfl, rfl, trivial⟩) rfl (LitR.cells (R := By) (w := w23) (L := [v6_10, v7_10]) (l := ([c20, r23] : List (List UInt8))) (LitR.cons i21 (LitR.cons i23_0 LitR.nil)) (fun u x h => cells_sl u x h)) rfl (LitR.all (R := By) (w := w23) (L := [v6_10, v7_10]) (l := ([c20, r23] : List (List UInt8))) (SlK.stab (Sc.stab _)) (LitR.cons i21 (LitR.cons i23_0 LitR.nil))) ?_)
                intro v25 w25 o25 n25 g25 l25
                have x25 := grown_ext g25
                have i25 : Rw w25 [v6_10, v7_10] v25 (([c20, r23] : List (List UInt8))) := OwK.slk (SlK.stab (Sc.stab _)) _ o25 (fun k hk => (Old.cons (Old.cons (Old.nil _) o1_10.lt) o0_10.lt) k (n25 k hk)) (fun _ h => h.2)
                replace i21 := i21.lift (Lift.ext x25 _)
                replace i23_0 := i23_0.lift (Lift.ext x25 _)
                replace o0_10 := o0_10.extL (Sc.stab _) x25 (Lift.ext x25 _)
                replace o1_10 := o1_10.extL (Sc.stab _) x25 (Lift.ext x25 _)
                have e26 := e24.trans x25
                obtain ⟨r27, hr27, H17⟩ := Option.bind_eq_some_iff.1 H17
                refine wsc rfl (by kernel_rfl) rfl rfl (stp_call (vs := [v25]) Try.func64 rfl rfl rfl (ar1 rfl) (slices_Concat_sbytebyte_calls ([c20, r23] : List (List UInt8)) v25 r27 _ (i25.lift (Lift.sub (fun _ _ => trivial))) hr27) ?_)
                rintro _ w27 ⟨v27, rfl, x27, n27_0, o27_0⟩
                refine ⟨_, rfl, ?_⟩
                have i27_0 : By w27 [v6_10, v7_10] v27 r27 := OwK.slk (Sc.stab _) _ (OwK.scal o27_0 (v27 :: [v6_10, v7_10])) (fun k hk => (Old.cons (Old.cons (Old.nil _) o1_10.lt) o0_10.lt) k (n27_0 k hk)) (fun _ h => h.2)
                replace i21 := i21.lift (Lift.ext x27 _)
                replace i23_0 := i23_0.lift (Lift.ext x27 _)
                replace i25 := i25.lift (Lift.ext x27 _)
                replace o0_10 := o0_10.extL (Sc.stab _) x27 (Lift.ext x27 _)
                replace o1_10 := o1_10.extL (Sc.stab _) x27 (Lift.ext x27 _)
                have e28 := e26.trans x27
                obtain ⟨r29, hr29, H17⟩ := Option.bind_eq_some_iff.1 H17
                refine wsc rfl (by kernel_rfl) rfl rfl (stp_call (vs := [v6_10, v27]) Try.func63 rfl rfl rfl (ar2 rfl rfl) (poly_Add_calls s9.1 r27 v6_10 v27 r29 _ (o0_10.rd (Sc.stab _)) (i27_0.lift (Lift.sub (fun _ _ => trivial))) hr29) ?_)
                rintro _ w29 ⟨v29, rfl, x29, n29_0, o29_0⟩
                refine ⟨_, rfl, ?_⟩
                have o29 : OwK (Sc u8) w29 (v29 :: [v6_10, v7_10]) 5 v29 r29 := OwK.scal o29_0 _
                have q30 : Nq v6_10 v29 := o0_10.nq n29_0
                have q31 : Nq v7_10 v29 := o1_10.nq n29_0
                replace i21 := i21.lift (Lift.call _ x29 n29_0)
                replace i23_0 := i23_0.lift (Lift.call _ x29 n29_0)
                replace i25 := i25.lift (Lift.call _ x29 n29_0)
                replace i27_0 := i27_0.lift (Lift.call _ x29 n29_0)
                replace o0_10 := o0_10.extL (Sc.stab _) x29 (Lift.call _ x29 n29_0)
                replace o1_10 := o1_10.extL (Sc.stab _) x29 (Lift.call _ x29 n29_0)
                have n33 := Nw.ext e28 n29_0
                have e32 := e28.trans x29
                refine wsa rfl rfl rfl (q_assign (v := v29) rfl rfl) ?_
                refine ws_nil ?_
                obtain rfl := Option.some.inj H17
                exact ⟨v29, s0_10, s1_10, s6_10, s7_10, s8_10, s9_10, s10_10, rfl, rfl, rfl, s21_10, s22_10, s67_10, e32, (o0_10.weak (Sc.stab _) (fun _ h => ⟨h.2.1, h.2.2.1, h.1, trivial⟩)), n0_10, (o1_10.weak (Sc.stab _) (fun _ h => ⟨h.2.1, h.2.2.1, h.1, trivial⟩)), n1_10, (o29.weak (Sc.stab _) (fun _ h => ⟨h.2.1, h.2.2.1, h.1, trivial⟩)), n33, q0_1_10, q30, q31⟩
              · obtain ⟨r21, hr21, H17⟩ := Option.bind_eq_some_iff.1 H17
                refine wsc rfl (by kernel_rfl) rfl rfl (stp_call (vs := [p0, (u8 r15.1), v7_10]) Try.func65 rfl rfl rfl (ar3 rfl rfl rfl) (field_Scale_calls a0f r15.1 s9.2.1 p0 v7_10 r21 _ (hp0.lift (Lift.ext e19 _)) (o1_10.rd (Sc.stab _)) hr21) ?_)
                rintro _ w21 ⟨v21, rfl, x21, n21_0, o21_0⟩
                refine ⟨_, rfl, ?_⟩
                have i21_0 : By w21 [v6_10, v7_10] v21 r21 := OwK.slk (Sc.stab _) _ (OwK.scal o21_0 (v21 :: [v6_10, v7_10])) (fun k hk => (Old.cons (Old.cons (Old.nil _) o1_10.lt) o0_10.lt) k (n21_0 k hk)) (fun _ h => h.2)
                replace o0_10 := o0_10.extL (Sc.stab _) x21 (Lift.ext x21 _)
                replace o1_10 := o1_10.extL (Sc.stab _) x21 (Lift.ext x21 _)
                have e22 := e19.trans x21
                refine wsc rfl (by kernel_rfl) rfl rfl (stp_make (L := [v6_10, v7_10]) (R := (Sc u8)) rfl T22 rfl rfl hc20 (fun _ _ => rfl) ?_)
                intro v23 w23 o23 n23 g23 l23
                have x23 := grown_ext g23
                have i23 : By w23 [v6_10, v7_10] v23 c20 := OwK.slk (Sc.stab _) _ o23 (fun k hk => (Old.cons (Old.cons (Old.nil _) o1_10.lt) o0_10.lt) k (n23 k hk)) (fun _ h => h.2)
                replace i21_0 := i21_0.lift (Lift.ext x23 _)
                replace o0_10 := o0_10.extL (Sc.stab _) x23 (Lift.ext x23 _)
                replace o1_10 := o1_10.extL (Sc.stab _) x23 (Lift.ext x23 _)
                have e24 := e22.trans x23
                refine wsc rfl (by kernel_rfl) rfl rfl (stp_lit (L := [v6_10, v7_10]) (R := By) [v23, v21] ([c20, r21] : List (List UInt8)) rfl T40 rfl (by exact ⟨rfl, rfl, rfl, rfl, trivial⟩) rfl (LitR.cells (R := By) (w := w23) (L := [v6_10, v7_10]) (l := ([c20, r21] : List (List UInt8))) (LitR.cons i23 (LitR.cons i21_0 LitR.nil)) (fun u x h => cells_sl u x h)) rfl (LitR.all (R := By) (w := w23) (L := [v6_10, v7_10]) (l := ([c20, r21] : List (List UInt8))) (SlK.stab (Sc.stab _)) (LitR.cons i23 (LitR.cons i21_0 LitR.nil))) ?_)
                intro v25 w25 o25 n25 g25 l25
                have x25 := grown_ext g25
                have i25 : Rw w25 [v6_10, v7_10] v25 (([c20, r21] : List (List UInt8))) := OwK.slk (SlK.stab (Sc.stab _)) _ o25 (fun k hk => (Old.cons (Old.cons (Old.nil _) o1_10.lt) o0_10.lt) k (n25 k hk)) (fun _ h => h.2)
                replace i21_0 := i21_0.lift (Lift.ext x25 _)
                replace i23 := i23.lift (Lift.ext x25 _)
                replace o0_10 := o0_10.extL (Sc.stab _) x25 (Lift.ext x25 _)
                replace o1_10 := o1_10.extL (Sc.stab _) x25 (Lift.ext x25 _)
                have e26 := e24.trans x25
                obtain ⟨r27, hr27, H17⟩ := Option.bind_eq_some_iff.1 H17
                refine wsc rfl (by kernel_rfl) rfl rfl (stp_call (vs := [v25]) Try.func64 rfl rfl rfl (ar1 rfl) (slices_Concat_sbytebyte_calls ([c20, r21] : List (List UInt8)) v25 r27 _ (i25.lift (Lift.sub (fun _ _ => trivial))) hr27) ?_)
                rintro _ w27 ⟨v27, rfl, x27, n27_0, o27_0⟩
                refine ⟨_, rfl, ?_⟩
                have i27_0 : By w27 [v6_10, v7_10] v27 r27 := OwK.slk (Sc.stab _) _ (OwK.scal o27_0 (v27 :: [v6_10, v7_10])) (fun k hk => (Old.cons (Old.cons (Old.nil _) o1_10.lt) o0_10.lt) k (n27_0 k hk)) (fun _ h => h.2)
                replace i21_0 := i21_0.lift (Lift.ext x27 _)
                replace i23 := i23.lift (Lift.ext x27 _)
                replace i25 := i25.lift (Lift.ext x27 _)
                replace o0_10 := o0_10.extL (Sc.stab _) x27 (Lift.ext x27 _)
                replace o1_10 := o1_10.extL (Sc.stab _) x27 (Lift.ext x27 _)
                have e28 := e26.trans x27
                obtain ⟨r29, hr29, H17⟩ := Option.bind_eq_some_iff.1 H17
                refine wsc rfl (by kernel_rfl) rfl rfl (stp_call (vs := [v6_10, v27]) Try.func63 rfl rfl rfl (ar2 rfl rfl) (poly_Add_calls s9.1 r27 v6_10 v27 r29 _ (o0_10.rd (Sc.stab _)) (i27_0.lift (Lift.sub (fun _ _ => trivial))) hr29) ?_)
                rintro _ w29 ⟨v29, rfl, x29, n29_0, o29_0⟩
                refine ⟨_, rfl, ?_⟩
                have o29 : OwK (Sc u8) w29 (v29 :: [v6_10, v7_10]) 5 v29 r29 := OwK.scal o29_0 _
                have q30 : Nq v6_10 v29 := o0_10.nq n29_0
                have q31 : Nq v7_10 v29 := o1_10.nq n29_0
                replace i21_0 := i21_0.lift (Lift.call _ x29 n29_0)
                replace i23 := i23.lift (Lift.call _ x29 n29_0)
                replace i25 := i25.lift (Lift.call _ x29 n29_0)
                replace i27_0 := i27_0.lift (Lift.call _ x29 n29_0)
                replace o0_10 := o0_10.extL (Sc.stab _) x29 (Lift.call _ x29 n29_0)
                replace o1_10 := o1_10.extL (Sc.stab _) x29 (Lift.call _ x29 n29_0)
                have n33 := Nw.ext e28 n29_0
                have e32 := e28.trans x29
                refine wsa rfl rfl rfl (q_assign (v := v29) rfl rfl) ?_
                refine ws_nil ?_
                obtain rfl := Option.some.inj H17
                exact ⟨v29, s0_10, s1_10, s6_10, s7_10, s8_10, s9_10, s10_10, rfl, rfl, rfl, s21_10, s22_10, s67_10, e32, (o0_10.weak (Sc.stab _) (fun _ h => ⟨h.2.1, h.2.2.1, h.1, trivial⟩)), n0_10, (o1_10.weak (Sc.stab _) (fun _ h => ⟨h.2.1, h.2.2.1, h.1, trivial⟩)), n1_10, (o29.weak (Sc.stab _) (fun _ h => ⟨h.2.1, h.2.2.1, h.1, trivial⟩)), n33, q0_1_10, q30, q31⟩
            · rintro _ w34 ⟨v15_34, s0_34, s1_34, s6_34, s7_34, s8_34, s9_34, s10_34, s11_34, s12_34, s15_34, s21_34, s22_34, s67_34, hE34, o0_34, n0_34, o1_34, n1_34, o2_34, n2_34, q0_1_34, q0_2_34, q1_2_34⟩
              refine W_th ?_
              refine W_seq ?_
              refine W_seq ?_
              refine W_reg (by kernel_rfl) ?_
              refine wla rfl rfl (q_move (v := (i64 s9.2.2.1)) rfl s8_34) ?_
              refine wla rfl rfl (q_mulI rfl rfl rfl) ?_
              refine wla rfl rfl (q_move (v := (i64 s9.2.2.2.2.2)) rfl s11_34) ?_
              refine wla rfl rfl (q_leI rfl rfl rfl) ?_
              refine wl_nil ?_
              refine W_th ?_
              refine W_cond _ rfl rfl (fun hb35 => ?_) (fun hb35 => ?_)
              · replace H9 := (if_pos (of_decide_eq_true hb35)).symm.trans H9
                refine W_reg (by kernel_rfl) ?_
                refine wla rfl rfl (q_move (v := (i64 s9.2.2.2.2.2)) rfl s11_34) ?_
                refine wla rfl rfl (q_addI rfl rfl rfl) ?_
                refine wla rfl rfl (q_move (v := (i64 s9.2.2.1)) rfl s8_34) ?_
                refine wla rfl rfl (q_subI rfl rfl rfl) ?_
                refine wla rfl rfl (q_move (v := v6_10) rfl s6_34) ?_
                refine wla rfl rfl (q_move (v := (u8 r12)) rfl s12_34) ?_
                refine wla rfl rfl (q_assign (v := (i64 ((wI ((wI (s9.2.2.2.2.2 + 1)) - s9.2.2.1))))) rfl rfl) ?_
                refine wla rfl rfl (q_assign (v := v6_10) rfl rfl) ?_
                refine wla rfl rfl (q_assign (v := (u8 r12)) rfl rfl) ?_
                refine wla rfl rfl (q_assign (v := (i64 0)) rfl rfl) ?_
                refine wl_nil ?_
                refine W_th ?_
                refine W_seq ?_
                refine W_reg (by kernel_rfl) ?_
                refine wla rfl rfl (q_move (v := v15_34) rfl s15_34) ?_
                refine wla rfl rfl (q_assign (v := v15_34) rfl rfl) ?_
                refine wl_nil ?_
                refine W_th ?_
                refine W_reg (by kernel_rfl) ?_
                refine wla rfl rfl (q_move (v := (i64 0)) rfl rfl) ?_
                refine wla rfl rfl (q_addI rfl rfl rfl) ?_
                refine wla rfl rfl (q_assign (v := (i64 ((wI (0 + 1))))) rfl rfl) ?_
                refine wl_nil ?_
                refine bk_n ?_
                refine W_th ?_
                refine W_reg (by kernel_rfl) ?_
                refine wla rfl rfl (q_addI rfl s22_34 rfl) ?_
                refine wla rfl rfl (q_move (v := (i64 ((wI (s9.2.2.2.2.2 + 1))))) rfl rfl) ?_
                refine wl_nil ?_
                obtain rfl := Option.some.inj H9
                exact ⟨_, rfl, v15_34, v6_10, s0_34, s1_34, rfl, rfl, rfl, rfl, rfl, s21_34, rfl, s67_34, hE34, (o2_34.weak (Sc.stab _) (fun _ h => ⟨h.2.2.1, h.1, trivial⟩)), n2_34, (o0_34.weak (Sc.stab _) (fun _ h => ⟨h.2.2.1, h.1, trivial⟩)), n0_34, q0_2_34.symm⟩
              · replace H9 := (if_neg (of_decide_eq_false hb35)).symm.trans H9
                refine W_skip ?_
                refine W_th ?_
                refine W_seq ?_
                refine W_reg (by kernel_rfl) ?_
                refine wla rfl rfl (q_move (v := v15_34) rfl s15_34) ?_
                refine wla rfl rfl (q_assign (v := v15_34) rfl rfl) ?_
                refine wl_nil ?_
                refine W_th ?_
                refine W_reg (by kernel_rfl) ?_
                refine wla rfl rfl (q_move (v := (i64 s9.2.2.2.1)) rfl s9_34) ?_
                refine wla rfl rfl (q_addI rfl rfl rfl) ?_
                refine wla rfl rfl (q_assign (v := (i64 ((wI (s9.2.2.2.1 + 1))))) rfl rfl) ?_
                refine wl_nil ?_
                refine bk_n ?_
                refine W_th ?_
                refine W_reg (by kernel_rfl) ?_
                refine wla rfl rfl (q_addI rfl s22_34 rfl) ?_
                refine wla rfl rfl (q_move (v := (i64 ((wI (s9.2.2.2.2.2 + 1))))) rfl rfl) ?_
                refine wl_nil ?_
                obtain rfl := Option.some.inj H9
                exact ⟨_, rfl, v15_34, v7_10, s0_34, s1_34, rfl, s7_34, s8_34, rfl, s10_34, s21_34, rfl, s67_34, hE34, (o2_34.weak (Sc.stab _) (fun _ h => ⟨h.2.2.1, h.2.1, trivial⟩)), n2_34, (o1_34.weak (Sc.stab _) (fun _ h => ⟨h.2.2.1, h.2.1, trivial⟩)), n1_34, q1_2_34.symm⟩
        · replace H9 := (if_neg (of_decide_eq_false hb11)).symm.trans H9
          refine W_exit ?_
          refine th_x ?_
          obtain rfl := Option.some.inj H9
          obtain rfl := hr9 _ rfl
          refine th_x ?_
          refine bk_x ?_
          exact ⟨v6_10, s6_10, s67_10, hE10, (o0_10.weak (Sc.stab _) (fun _ h => ⟨h.1, trivial⟩)), n0_10⟩
    · rintro _ w38 ⟨v6_38, s6_38, s67_38, hE38, o0_38, n0_38⟩
      refine W_th ?_
      refine W_seq ?_
      refine W_reg (by kernel_rfl) ?_
      refine wla rfl rfl (q_move (v := v6_38) rfl s6_38) ?_
      refine wla rfl rfl (q_assign (v := v6_38) rfl rfl) ?_
      refine wla rfl rfl (q_assign (v := (i64 0)) rfl rfl) ?_
      refine wl_nil ?_
      refine W_th ?_
      refine W_ret ?_
      obtain rfl := Option.some.inj H
      refine rt2 v6_38 (i64 0) rfl rfl rfl rfl rfl s67_38 ?_
      exact ⟨v6_38, rfl, hE38, n0_38, (o0_38.weak (Sc.stab _) (fun _ _ => trivial))⟩

/-! largesse/syndrome.Located -/
noncomputable def syndrome_Located (a0f : Bool) (a1locator : List UInt8) (a2xs : List UInt8) : Option (List Int) :=
((iterC (fun s1 : List Int × Int =>
(if s1.2 < (a2xs.length : Int) then
((idx a2xs s1.2).bind fun c4 =>
((field_Inv a0f c4).bind fun r5 =>
(if r5.2 = 0 then
((poly_Eval a0f a1locator r5.1).bind fun r8 =>
(if r8 = (0 : UInt8) then
((appL s1.1 (([s1.2] : List Int))).bind fun c13 => some (.inl (c13, (wI (s1.2 + 1)))))
else some (.inl (s1.1, (wI (s1.2 + 1))))))
else some (.inl (s1.1, (wI (s1.2 + 1)))))))
else some (.inr s1.1))) (([] : List Int), 0)).bind fun x1 => some x1)
set_option maxRecDepth 100000 in
set_option maxHeartbeats 8000000 in
theorem syndrome_Located_calls (a0f : Bool) (a1locator : List UInt8) (a2xs : List UInt8) (p0 : Value) (p1 : Value) (p2 : Value) (r : List Int) (w0 : World) (hp0 : Fd w0 [] p0 a0f) (hp1 : By w0 [] p1 a1locator) (hp2 : By w0 [] p2 a2xs) (H : syndrome_Located a0f a1locator a2xs = some r) :
    Calls Try.prog 30 [p0, p1, p2].toArray w0 (fun e w' => ∃ u0 : Value, e = .returned u0 ∧ Ext w0 w' ∧ Nw w0 u0 ∧ OwK (Sc i64) w' [] 3 u0 r) := by
  have hE : Ext w0 w0 := Ext.refl w0
  unfold syndrome_Located at H
  refine calls_W (n := 40) Try.func30 rfl rfl rfl ?_
  refine W_seq ?_
  refine W_reg (by kernel_rfl) ?_
  refine wla rfl rfl (q_assign (v := (.slice none 0 0)) rfl rfl) ?_
  refine wl_nil ?_
  refine W_th ?_
  refine W_seq ?_
  refine W_reg (by kernel_rfl) ?_
  refine wla rfl rfl (q_assign (v := (.slice none 0 0)) rfl rfl) ?_
  refine wl_nil ?_
  refine W_th ?_
  refine W_seq ?_
  refine W_seq ?_
  refine W_reg (by kernel_rfl) ?_
  refine wla rfl rfl (q_move (v := p2) rfl rfl) ?_
  refine wla rfl rfl (q_len rfl T22.sl rfl (hp2.lift (Lift.ext hE _))) ?_
  refine wla rfl rfl (q_move (v := (i64 0)) rfl rfl) ?_
  refine wl_nil ?_
  refine W_th ?_
  obtain ⟨x1, G1, H⟩ := Option.bind_eq_some_iff.1 H
  refine W_mid (fun f w => ∃ v7_18 : Value, f 7 = v7_18 ∧ f 40 = undef ∧ Ext w0 w ∧ OwK (Sc i64) w [v7_18] 3 v7_18 x1 ∧ Nw w0 v7_18) ?_ ?_
  · refine W_block ?_
    refine W_loop (fun s1 f w => ∃ v7_16 : Value, f 0 = p0 ∧ f 1 = p1 ∧ f 7 = v7_16 ∧ f 12 = p2 ∧ f 13 = (i64 ((a2xs.length : Int))) ∧ f 14 = (i64 s1.2) ∧ f 40 = undef ∧ Ext w0 w ∧ OwK (Sc i64) w [v7_16] 3 v7_16 s1.1 ∧ Nw w0 v7_16) G1 ?_ ?_
    · exact ⟨(.slice none 0 0), rfl, rfl, rfl, rfl, rfl, rfl, rfl, hE, (OwK.nil _ _ _ _), (Nw.nil _)⟩
    · rintro s1 _ _ w2 ⟨v7_2, s0_2, s1_2, s7_2, s12_2, s13_2, s14_2, s40_2, hE2, o0_2, n0_2⟩ H1 hr1
      refine W_seq ?_
      refine W_reg (by kernel_rfl) ?_
      refine wla rfl rfl (q_ltI rfl s14_2 s13_2) ?_
      refine wl_nil ?_
      refine W_th ?_
      refine W_seq ?_
      refine W_cond _ rfl rfl (fun hb3 => ?_) (fun hb3 => ?_)
      · replace H1 := (if_pos (of_decide_eq_true hb3)).symm.trans H1
        refine W_skip ?_
        refine W_th ?_
        refine W_seq ?_
        refine W_block ?_
        refine W_seq ?_
        refine W_reg (by kernel_rfl) ?_
        refine wla rfl rfl (q_move (v := (i64 s1.2)) rfl s14_2) ?_
        obtain ⟨c4, hc4, H1⟩ := Option.bind_eq_some_iff.1 H1
        refine wla rfl rfl (q_adr rfl T22 s12_2 s14_2 (hp2.lift (Lift.ext hE2 _)) hc4) ?_
        refine wlq rfl rfl (q_loadS rfl T22 rfl (hp2.lift (Lift.ext hE2 _)) hc4) ?_
        refine wla rfl rfl (q_assign (v := (i64 s1.2)) rfl rfl) ?_
        refine wla rfl rfl (q_assign (v := (u8 c4)) rfl rfl) ?_
        refine wl_nil ?_
        refine W_th ?_
        refine W_seq ?_
        refine W_reg (by kernel_rfl) ?_
        refine wla rfl rfl (q_move (v := p0) rfl s0_2) ?_
        refine wla rfl rfl (q_move (v := (u8 c4)) rfl rfl) ?_
        obtain ⟨r5, hr5, H1⟩ := Option.bind_eq_some_iff.1 H1
        refine wls rfl rfl (stp_call (vs := [p0, (u8 c4)]) Try.func66 rfl rfl rfl (ar2 rfl rfl) (field_Inv_calls a0f c4 p0 r5 _ (hp0.lift (Lift.ext hE2 _)) hr5) ?_)
        rintro _ w5 ⟨rfl, x5⟩
        refine ⟨_, rfl, ?_⟩
        replace o0_2 := o0_2.extL (Sc.stab _) x5 (Lift.ext x5 _)
        have e6 := hE2.trans x5
        refine wla rfl rfl (q_move (v := (.tuple #[(u8 r5.1), (i64 r5.2)])) rfl rfl) ?_
        refine wla rfl rfl (q_extract rfl rfl rfl) ?_
        refine wla rfl rfl (q_extract rfl rfl rfl) ?_
        refine wla rfl rfl (q_assign (v := (u8 r5.1)) rfl rfl) ?_
        refine wla rfl rfl (q_assign (v := (i64 r5.2)) rfl rfl) ?_
        refine wl_nil ?_
        refine W_th ?_
        refine W_seq ?_
        refine W_reg (by kernel_rfl) ?_
        refine wla rfl rfl (q_move (v := (i64 r5.2)) rfl rfl) ?_
        refine wla rfl rfl (q_eqI rfl rfl rfl) ?_
        refine wlb rfl rfl (q_move (v := (.bool ((decide (r5.2 = 0))))) rfl rfl) (fun hb7 => ?_) (fun hb7 => ?_)
        · replace H1 := (if_pos (of_decide_eq_true hb7)).symm.trans H1
          refine wla rfl rfl (q_move (v := p0) rfl s0_2) ?_
          refine wla rfl rfl (q_move (v := p1) rfl s1_2) ?_
          refine wla rfl rfl (q_move (v := (u8 r5.1)) rfl rfl) ?_
          obtain ⟨r8, hr8, H1⟩ := Option.bind_eq_some_iff.1 H1
          refine wls rfl rfl (stp_call (vs := [p0, p1, (u8 r5.1)]) Try.func17 rfl rfl rfl (ar3 rfl rfl rfl) (poly_Eval_calls a0f a1locator r5.1 p0 p1 r8 _ (hp0.lift (Lift.ext e6 _)) (hp1.lift (Lift.ext e6 _)) hr8) ?_)
          rintro _ w8 ⟨rfl, x8⟩
          refine ⟨_, rfl, ?_⟩
          replace o0_2 := o0_2.extL (Sc.stab _) x8 (Lift.ext x8 _)
          have e9 := e6.trans x8
          refine wla rfl rfl (q_eq8 rfl rfl (cst8 (0 : UInt8) rfl)) ?_
          refine wla rfl rfl (q_pick_t (v := (.bool ((decide (r8 = (0 : UInt8)))))) rfl rfl rfl) ?_
          refine wl_nil ?_
          refine W_th ?_
          refine W_cond _ rfl rfl (fun hb10 => ?_) (fun hb10 => ?_)
          · replace H1 := (if_pos (of_decide_eq_true hb10)).symm.trans H1
            refine W_reg (by kernel_rfl) ?_
            refine wla rfl rfl (q_move (v := v7_2) rfl s7_2) ?_
            refine wla rfl rfl (q_move (v := (i64 s1.2)) rfl rfl) ?_
            refine wls rfl rfl (stp_lit (L := [v7_2]) (R := (Sc i64)) [(i64 s1.2)] ([s1.2] : List Int) rfl T47 rfl (by exact ⟨rfl, rfl, trivial⟩) rfl (litC i64 (oneC_i64) (us := [(i64 s1.2)]) (l := ([s1.2] : List Int)) rfl) rfl (litS i64 (us := [(i64 s1.2)]) (l := ([s1.2] : List Int)) rfl) ?_)
            intro v11 w11 o11 n11 g11 l11
            have x11 := grown_ext g11
            have i11 : In w11 [v7_2] v11 (([s1.2] : List Int)) := OwK.slk (Sc.stab _) _ o11 (fun k hk => (Old.cons (Old.nil _) o0_2.lt) k (n11 k hk)) (fun _ h => h.2)
            replace o0_2 := o0_2.extL (Sc.stab _) x11 (Lift.ext x11 _)
            have e12 := e9.trans x11
            obtain ⟨c13, hc13, H1⟩ := Option.bind_eq_some_iff.1 H1
            refine wls rfl rfl (stp_append (R := (Sc i64)) (v := v7_2) (u := v11) (Sc.stab _) [] [] rfl T47 rfl rfl o0_2 i11 (fun _ _ h => h) hc13 oc_i64 ?_)
            intro v13 w13 o13 g13 nx13 l13
            replace i11 := i11.lift l13
            have e14 := e12.grown g13 n0_2
            have n15 := Nw.nxt e12 n0_2 nx13
            refine wla rfl rfl (q_assign (v := v13) rfl rfl) ?_
            refine wl_nil ?_
            refine bk_n ?_
            refine W_th ?_
            refine W_reg (by kernel_rfl) ?_
            refine wla rfl rfl (q_addI rfl s14_2 rfl) ?_
            refine wla rfl rfl (q_move (v := (i64 ((wI (s1.2 + 1))))) rfl rfl) ?_
            refine wl_nil ?_
            obtain rfl := Option.some.inj H1
            exact ⟨_, rfl, v13, s0_2, s1_2, rfl, s12_2, s13_2, rfl, s40_2, e14, o13, n15⟩
          · replace H1 := (if_neg (of_decide_eq_false hb10)).symm.trans H1
            refine W_skip ?_
            refine bk_n ?_
            refine W_th ?_
            refine W_reg (by kernel_rfl) ?_
            refine wla rfl rfl (q_addI rfl s14_2 rfl) ?_
            refine wla rfl rfl (q_move (v := (i64 ((wI (s1.2 + 1))))) rfl rfl) ?_
            refine wl_nil ?_
            obtain rfl := Option.some.inj H1
            exact ⟨_, rfl, v7_2, s0_2, s1_2, s7_2, s12_2, s13_2, rfl, s40_2, e9, o0_2, n0_2⟩
        · replace H1 := (if_neg (of_decide_eq_false hb7)).symm.trans H1
          refine wlk rfl rfl ?_
          refine wlk rfl rfl ?_
          refine wlk rfl rfl ?_
          refine wlk rfl rfl ?_
          refine wlk rfl rfl ?_
          refine wla rfl rfl (q_pick_f (v := (.bool false)) rfl rfl rfl) ?_
          refine wl_nil ?_
          refine W_th ?_
          refine W_cond false rfl rfl (fun hb => by cases hb) (fun _ => ?_)
          refine W_skip ?_
          refine bk_n ?_
          refine W_th ?_
          refine W_reg (by kernel_rfl) ?_
          refine wla rfl rfl (q_addI rfl s14_2 rfl) ?_
          refine wla rfl rfl (q_move (v := (i64 ((wI (s1.2 + 1))))) rfl rfl) ?_
          refine wl_nil ?_
          obtain rfl := Option.some.inj H1
          exact ⟨_, rfl, v7_2, s0_2, s1_2, s7_2, s12_2, s13_2, rfl, s40_2, e6, o0_2, n0_2⟩
      · replace H1 := (if_neg (of_decide_eq_false hb3)).symm.trans H1
        refine W_exit ?_
        refine th_x ?_
        obtain rfl := Option.some.inj H1
        obtain rfl := hr1 _ rfl
        refine th_x ?_
        refine bk_x ?_
        exact ⟨v7_2, s7_2, s40_2, hE2, o0_2, n0_2⟩
  · rintro _ w17 ⟨v7_17, s7_17, s40_17, hE17, o0_17, n0_17⟩
    refine W_th ?_
    refine W_seq ?_
    refine W_reg (by kernel_rfl) ?_
    refine wla rfl rfl (q_move (v := v7_17) rfl s7_17) ?_
    refine wla rfl rfl (q_assign (v := v7_17) rfl rfl) ?_
    refine wl_nil ?_
    refine W_th ?_
    refine W_ret ?_
    obtain rfl := Option.some.inj H
    refine rt1 v7_17 rfl rfl rfl s40_17 ?_
    exact ⟨v7_17, rfl, hE17, n0_17, (o0_17.weak (Sc.stab _) (fun _ _ => trivial))⟩

/-! largesse/syndrome.derivative -/
noncomputable def syndrome_derivative (a0p : List UInt8) : Option (List UInt8) :=
((makeL ((if 0 < (wI ((a0p.length : Int) - 1)) then (wI ((a0p.length : Int) - 1)) else 0)) (0 : UInt8)).bind fun c1 =>
((iterC (fun s4 : List UInt8 × Int =>
(if s4.2 < (c1.length : Int) then
(if (andI s4.2 1) = 0 then
((idx a0p ((wI (s4.2 + 1)))).bind fun c8 =>
((idx s4.1 s4.2).bind fun c9 => some (.inl ((s4.1.set (s4.2 : Int).toNat c8), (wI (s4.2 + 1))))))
else some (.inl (s4.1, (wI (s4.2 + 1)))))
else some (.inr s4.1))) (c1, 0)).bind fun x4 => some x4))
set_option maxRecDepth 100000 in
set_option maxHeartbeats 8000000 in
theorem syndrome_derivative_calls (a0p : List UInt8) (p0 : Value) (r : List UInt8) (w0 : World) (hp0 : By w0 [] p0 a0p) (H : syndrome_derivative a0p = some r) :
    Calls Try.prog 70 [p0].toArray w0 (fun e w' => ∃ u0 : Value, e = .returned u0 ∧ Ext w0 w' ∧ Nw w0 u0 ∧ OwK (Sc u8) w' [] 5 u0 r) := by
  have hE : Ext w0 w0 := Ext.refl w0
  unfold syndrome_derivative at H
  refine calls_W (n := 28) Try.func70 rfl rfl rfl ?_
  refine W_seq ?_
  refine W_reg (by kernel_rfl) ?_
  refine wla rfl rfl (q_assign (v := (.slice none 0 0)) rfl rfl) ?_
  refine wl_nil ?_
  refine W_th ?_
  refine W_seq ?_
  refine W_reg (by kernel_rfl) ?_
  refine wla rfl rfl (q_move (v := p0) rfl rfl) ?_
  refine wla rfl rfl (q_len rfl T22.sl rfl (hp0.lift (Lift.ext hE _))) ?_
  refine wla rfl rfl (q_subI rfl rfl rfl) ?_
  refine wla rfl rfl (q_maxI rfl rfl rfl) ?_
  obtain ⟨c1, hc1, H⟩ := Option.bind_eq_some_iff.1 H
  refine wls rfl rfl (stp_make (L := []) (R := (Sc u8)) rfl T22 rfl rfl hc1 (fun _ _ => rfl) ?_)
  intro v1 w1 o1 n1 g1 l1
  have x1 := grown_ext g1
  have n3 := Nw.ext hE n1
  have e2 := hE.trans x1
  refine wla rfl rfl (q_assign (v := v1) rfl rfl) ?_
  refine wl_nil ?_
  refine W_th ?_
  refine W_seq ?_
  refine W_seq ?_
  refine W_reg (by kernel_rfl) ?_
  refine wla rfl rfl (q_move (v := v1) rfl rfl) ?_
  refine wla rfl rfl (q_len rfl T22.sl rfl (o1.rd (Sc.stab _))) ?_
  refine wla rfl rfl (q_move (v := (i64 0)) rfl rfl) ?_
  refine wl_nil ?_
  refine W_th ?_
  obtain ⟨x4, G4, H⟩ := Option.bind_eq_some_iff.1 H
  refine W_mid (fun f w => f 3 = v1 ∧ f 28 = undef ∧ Ext w0 w ∧ OwK (Sc u8) w [v1] 5 v1 x4 ∧ Nw w0 v1) ?_ ?_
  · refine W_block ?_
    refine W_loop (fun s4 f w => f 0 = p0 ∧ f 3 = v1 ∧ f 11 = (i64 ((c1.length : Int))) ∧ f 12 = (i64 s4.2) ∧ f 28 = undef ∧ Ext w0 w ∧ OwK (Sc u8) w [v1] 5 v1 s4.1 ∧ Nw w0 v1) G4 ?_ ?_
    · exact ⟨rfl, rfl, rfl, rfl, rfl, e2, o1, n3⟩
    · rintro s4 _ _ w5 ⟨s0_5, s3_5, s11_5, s12_5, s28_5, hE5, o0_5, n0_5⟩ H4 hr4
      refine W_seq ?_
      refine W_reg (by kernel_rfl) ?_
      refine wla rfl rfl (q_ltI rfl s12_5 s11_5) ?_
      refine wl_nil ?_
      refine W_th ?_
      refine W_seq ?_
      refine W_cond _ rfl rfl (fun hb6 => ?_) (fun hb6 => ?_)
      · replace H4 := (if_pos (of_decide_eq_true hb6)).symm.trans H4
        refine W_skip ?_
        refine W_th ?_
        refine W_seq ?_
        refine W_block ?_
        refine W_seq ?_
        refine W_reg (by kernel_rfl) ?_
        refine wla rfl rfl (q_move (v := (i64 s4.2)) rfl s12_5) ?_
        refine wla rfl rfl (q_assign (v := (i64 s4.2)) rfl rfl) ?_
        refine wl_nil ?_
        refine W_th ?_
        refine W_seq ?_
        refine W_reg (by kernel_rfl) ?_
        refine wla rfl rfl (q_move (v := (i64 s4.2)) rfl rfl) ?_
        refine wla rfl rfl (q_andI rfl rfl rfl) ?_
        refine wla rfl rfl (q_eqI rfl rfl rfl) ?_
        refine wl_nil ?_
        refine W_th ?_
        refine W_cond _ rfl rfl (fun hb7 => ?_) (fun hb7 => ?_)
        · replace H4 := (if_pos (of_decide_eq_true hb7)).symm.trans H4
          refine W_reg (by kernel_rfl) ?_
          refine wla rfl rfl (q_move (v := v1) rfl s3_5) ?_
          refine wla rfl rfl (q_move (v := (i64 s4.2)) rfl rfl) ?_
          refine wla rfl rfl (q_move (v := p0) rfl s0_5) ?_
          refine wla rfl rfl (q_move (v := (i64 s4.2)) rfl rfl) ?_
          refine wla rfl rfl (q_addI rfl rfl rfl) ?_
          obtain ⟨c8, hc8, H4⟩ := Option.bind_eq_some_iff.1 H4
          refine wla rfl rfl (q_adr rfl T22 rfl rfl (hp0.lift (Lift.ext hE5 _)) hc8) ?_
          refine wlq rfl rfl (q_loadS rfl T22 rfl (hp0.lift (Lift.ext hE5 _)) hc8) ?_
          obtain ⟨c9, hc9, H4⟩ := Option.bind_eq_some_iff.1 H4
          refine wla rfl rfl (q_adr rfl T22 rfl rfl (o0_5.rd (Sc.stab _)) hc9) ?_
          refine wln rfl rfl (stp_store (R := (Sc u8)) (u := (u8 c8)) (Sc.stab _) [] [] rfl T22 rfl rfl o0_5 (put_of c8 hc9) rfl rfl ?_)
          intro w10 o10 g10 l10
          have e11 := hE5.grown g10 n0_5
          refine wl_nil ?_
          refine bk_n ?_
          refine W_th ?_
          refine W_reg (by kernel_rfl) ?_
          refine wla rfl rfl (q_addI rfl s12_5 rfl) ?_
          refine wla rfl rfl (q_move (v := (i64 ((wI (s4.2 + 1))))) rfl rfl) ?_
          refine wl_nil ?_
          obtain rfl := Option.some.inj H4
          exact ⟨_, rfl, s0_5, s3_5, s11_5, rfl, s28_5, e11, o10, n0_5⟩
        · replace H4 := (if_neg (of_decide_eq_false hb7)).symm.trans H4
          refine W_skip ?_
          refine bk_n ?_
          refine W_th ?_
          refine W_reg (by kernel_rfl) ?_
          refine wla rfl rfl (q_addI rfl s12_5 rfl) ?_
          refine wla rfl rfl (q_move (v := (i64 ((wI (s4.2 + 1))))) rfl rfl) ?_
          refine wl_nil ?_
          obtain rfl := Option.some.inj H4
          exact ⟨_, rfl, s0_5, s3_5, s11_5, rfl, s28_5, hE5, o0_5, n0_5⟩
      · replace H4 := (if_neg (of_decide_eq_false hb6)).symm.trans H4
        refine W_exit ?_
        refine th_x ?_
        obtain rfl := Option.some.inj H4
        obtain rfl := hr4 _ rfl
        refine th_x ?_
        refine bk_x ?_
        exact ⟨s3_5, s28_5, hE5, o0_5, n0_5⟩
  · rintro _ w13 ⟨s3_13, s28_13, hE13, o0_13, n0_13⟩
    refine W_th ?_
    refine W_seq ?_
    refine W_reg (by kernel_rfl) ?_
    refine wla rfl rfl (q_move (v := v1) rfl s3_13) ?_
    refine wla rfl rfl (q_assign (v := v1) rfl rfl) ?_
    refine wl_nil ?_
    refine W_th ?_
    refine W_ret ?_
    obtain rfl := Option.some.inj H
    refine rt1 v1 rfl rfl rfl s28_13 ?_
    exact ⟨v1, rfl, hE13, n0_13, (o0_13.weak (Sc.stab _) (fun _ _ => trivial))⟩

/-! largesse/syndrome.Values$1 -/
noncomputable def syndrome_Values_1 (a0i : Int) (b0 : List UInt8) : Option Bool :=
(if a0i < 0 then some true
else
(if (b0.length : Int) ≤ a0i then some true
else
((idx b0 a0i).bind fun c3 => some (decide (c3 = (0 : UInt8))))))
set_option maxRecDepth 100000 in
set_option maxHeartbeats 8000000 in
theorem syndrome_Values_1_calls (a0i : Int) (b0 : List UInt8) (gc0 : Nat) (cv0 : Value) (r : Bool) (w0 : World) (hcB0 : Blk w0 gc0 22 #[cv0]) (hcv0 : By w0 [] cv0 b0) (H : syndrome_Values_1 a0i b0 = some r) :
    Calls Try.prog 68 [(i64 a0i), (bp gc0)].toArray w0 (fun e w' => e = .returned (.bool r) ∧ Ext w0 w') := by
  have hE : Ext w0 w0 := Ext.refl w0
  unfold syndrome_Values_1 at H
  refine calls_W (n := 19) Try.func68 rfl rfl rfl ?_
  refine W_seq ?_
  refine W_reg (by kernel_rfl) ?_
  refine wla rfl rfl (q_assign (v := (.bool false)) rfl rfl) ?_
  refine wl_nil ?_
  refine W_th ?_
  refine W_seq ?_
  refine W_reg (by kernel_rfl) ?_
  refine wla rfl rfl (q_move (v := (i64 a0i)) rfl rfl) ?_
  refine wla rfl rfl (q_ltI rfl rfl rfl) ?_
  refine wlb rfl rfl (q_move (v := (.bool ((decide (a0i < 0))))) rfl rfl) (fun hb1 => ?_) (fun hb1 => ?_)
  · replace H := (if_pos (of_decide_eq_true hb1)).symm.trans H
    refine wlk rfl rfl ?_
    refine wlk rfl rfl ?_
    refine wlk rfl rfl ?_
    refine wlk rfl rfl ?_
    refine wla rfl rfl (q_pick_t (v := (.bool true)) rfl rfl rfl) ?_
    refine wla rfl rfl (q_move (v := (.bool true)) rfl rfl) ?_
    refine wlk rfl rfl ?_
    refine wlk rfl rfl ?_
    refine wlk rfl rfl ?_
    refine wlk rfl rfl ?_
    refine wlk rfl rfl ?_
    refine wla rfl rfl (q_pick_t (v := (.bool true)) rfl rfl rfl) ?_
    refine wla rfl rfl (q_assign (v := (.bool true)) rfl rfl) ?_
    refine wl_nil ?_
    refine W_th ?_
    refine W_ret ?_
    obtain rfl := Option.some.inj H
    refine rt1 (.bool true) rfl rfl rfl rfl ?_
    exact ⟨rfl, hE⟩
  · replace H := (if_neg (of_decide_eq_false hb1)).symm.trans H
    refine wla rfl rfl (q_move (v := (i64 a0i)) rfl rfl) ?_
    refine wlq rfl rfl (q_loadB (u := cv0) rfl Try.isAgg22 rfl (hcB0.ext hE) rfl) ?_
    refine wla rfl rfl (q_len rfl T22.sl rfl (hcv0.lift (Lift.ext hE _))) ?_
    refine wla rfl rfl (q_geI rfl rfl rfl) ?_
    refine wla rfl rfl (q_pick_f (v := (.bool ((decide ((b0.length : Int) ≤ a0i))))) rfl rfl rfl) ?_
    refine wlb rfl rfl (q_move (v := (.bool ((decide ((b0.length : Int) ≤ a0i))))) rfl rfl) (fun hb2 => ?_) (fun hb2 => ?_)
    · replace H := (if_pos (of_decide_eq_true hb2)).symm.trans H
      refine wlk rfl rfl ?_
      refine wlk rfl rfl ?_
      refine wlk rfl rfl ?_
      refine wlk rfl rfl ?_
      refine wlk rfl rfl ?_
      refine wla rfl rfl (q_pick_t (v := (.bool true)) rfl rfl rfl) ?_
      refine wla rfl rfl (q_assign (v := (.bool true)) rfl rfl) ?_
      refine wl_nil ?_
      refine W_th ?_
      refine W_ret ?_
      obtain rfl := Option.some.inj H
      refine rt1 (.bool true) rfl rfl rfl rfl ?_
      exact ⟨rfl, hE⟩
    · replace H := (if_neg (of_decide_eq_false hb2)).symm.trans H
      refine wlq rfl rfl (q_loadB (u := cv0) rfl Try.isAgg22 rfl (hcB0.ext hE) rfl) ?_
      refine wla rfl rfl (q_move (v := (i64 a0i)) rfl rfl) ?_
      obtain ⟨c3, hc3, H⟩ := Option.bind_eq_some_iff.1 H
      refine wla rfl rfl (q_adr rfl T22 rfl rfl (hcv0.lift (Lift.ext hE _)) hc3) ?_
      refine wlq rfl rfl (q_loadS rfl T22 rfl (hcv0.lift (Lift.ext hE _)) hc3) ?_
      refine wla rfl rfl (q_eq8 rfl rfl (cst8 (0 : UInt8) rfl)) ?_
      refine wla rfl rfl (q_pick_f (v := (.bool ((decide (c3 = (0 : UInt8)))))) rfl rfl rfl) ?_
      refine wla rfl rfl (q_assign (v := (.bool ((decide (c3 = (0 : UInt8)))))) rfl rfl) ?_
      refine wl_nil ?_
      refine W_th ?_
      refine W_ret ?_
      obtain rfl := Option.some.inj H
      refine rt1 (.bool ((decide (c3 = (0 : UInt8))))) rfl rfl rfl rfl ?_
      exact ⟨rfl, hE⟩

/-! largesse/syndrome.Values -/
noncomputable def syndrome_Values (a0f : Bool) (a1s : List UInt8) (a2locator : List UInt8) (a3xs : List UInt8) (a4wrong : List Int) : Option (List UInt8 × Int) :=
(if (!a0f) = true then some (([] : List UInt8), 1)
else
((lim a4wrong.length).bind fun lim5 =>
((anyO (fun y5 => syndrome_Values_1 y5 a3xs) a4wrong).bind fun r5 =>
(if r5 = true then some (([] : List UInt8), 2)
else
((poly_Weights a0f a3xs (0 : UInt8)).bind fun r8 =>
(if r8.2 = 6 then some (([] : List UInt8), r8.2)
else
((poly_Mul a0f a1s a2locator).bind fun r11 =>
(if r11.2 = 0 then
((subL r11.1 0 ((if (a1s.length : Int) < (r11.1.length : Int) then (a1s.length : Int) else (r11.1.length : Int)))).bind fun c14 =>
((iterC (fun s15 : List UInt8 × Int =>
(if s15.2 < (a4wrong.length : Int) then
((idx a4wrong s15.2).bind fun c18 =>
((idx a3xs c18).bind fun c19 =>
((field_Inv a0f c19).bind fun r20 =>
((syndrome_derivative a2locator).bind fun r24 =>
((poly_Eval a0f r24 r20.1).bind fun r26 =>
((syndrome_weight a0f a3xs c18).bind fun r28 =>
((field_Mul a0f r26 r28).bind fun r30 =>
((poly_Eval a0f c14 r20.1).bind fun r32 =>
((field_Mul a0f c19 r32).bind fun r34 =>
((field_Div a0f r34 r30).bind fun r36 =>
(if r36.2 = 0 then
((appL s15.1 (([r36.1] : List UInt8))).bind fun c41 => some (.inl (c41, (wI (s15.2 + 1)))))
else some (.inr (.inr (([] : List UInt8), r36.2))))))))))))))
else some (.inr (.inl s15.1)))) (([] : List UInt8), 0)).bind (Sum.elim (fun y15 => some (y15, 0)) (fun q15 => some q15))))
else some (([] : List UInt8), r11.2)))))))))
set_option maxRecDepth 100000 in
set_option maxHeartbeats 8000000 in
theorem syndrome_Values_calls (a0f : Bool) (a1s : List UInt8) (a2locator : List UInt8) (a3xs : List UInt8) (a4wrong : List Int) (p0 : Value) (p1 : Value) (p2 : Value) (p3 : Value) (p4 : Value) (r : List UInt8 × Int) (w0 : World) (hp0 : Fd w0 [] p0 a0f) (hp1 : By w0 [] p1 a1s) (hp2 : By w0 [] p2 a2locator) (hp3 : By w0 [] p3 a3xs) (hp4 : In w0 [] p4 a4wrong) (H : syndrome_Values a0f a1s a2locator a3xs a4wrong = some r) :
    Calls Try.prog 31 [p0, p1, p2, p3, p4].toArray w0 (fun e w' => ∃ u0 : Value, e = .returned (.tuple #[u0, (i64 r.2)]) ∧ Ext w0 w' ∧ Nw w0 u0 ∧ OwK (Sc u8) w' [] 5 u0 r.1) := by
  have hE : Ext w0 w0 := Ext.refl w0
  unfold syndrome_Values at H
  refine calls_W (n := 107) Try.func31 rfl rfl rfl ?_
  refine W_seq ?_
  refine W_reg (by kernel_rfl) ?_
  refine wls rfl rfl (stp_boxL (v := p3) (cs := #[p3]) [] rfl rfl (cells_sl _ _ (hp3.lift (Lift.ext hE _))) ?_)
  intro g1 w1 o1 n1 g1r l1
  have x1 := grown_ext g1r
  have n3 := Nw.ext hE n1
  have e2 := hE.trans x1
  refine wla rfl rfl (q_assign (v := (.slice none 0 0)) rfl rfl) ?_
  refine wla rfl rfl (q_assign (v := (i64 0)) rfl rfl) ?_
  refine wl_nil ?_
  refine W_th ?_
  refine W_seq ?_
  refine W_block ?_
  refine W_seq ?_
  refine W_reg (by kernel_rfl) ?_
  refine wla rfl rfl (q_move (v := p0) rfl rfl) ?_
  refine wla rfl rfl (q_eqF rfl rfl rfl rfl (hp0.lift (Lift.ext e2 _))) ?_
  refine wla rfl rfl (q_assign (v := (.bool ((!a0f)))) rfl rfl) ?_
  refine wl_nil ?_
  refine W_th ?_
  refine W_cond _ rfl rfl (fun hb4 => ?_) (fun hb4 => ?_)
  · replace H := (if_pos hb4).symm.trans H
    refine W_seq ?_
    refine W_reg (by kernel_rfl) ?_
    refine wla rfl rfl (q_assign (v := (.slice none 0 0)) rfl rfl) ?_
    refine wla rfl rfl (q_assign (v := (i64 1)) rfl rfl) ?_
    refine wl_nil ?_
    refine W_th ?_
    refine W_ret ?_
    refine bk_r ?_
    refine th_r ?_
    obtain rfl := Option.some.inj H
    refine rt2 (.slice none 0 0) (i64 1) rfl rfl rfl rfl rfl rfl ?_
    exact ⟨(.slice none 0 0), rfl, e2, Nw.nil _, (OwK.nil _ _ _ _)⟩
  · replace H := (if_neg (ne_true_of_eq_false hb4)).symm.trans H
    refine W_seq ?_
    refine W_reg (by kernel_rfl) ?_
    refine wla rfl rfl (q_move (v := p4) rfl rfl) ?_
    refine wla rfl rfl (q_mkfuncN (vs := [(bp g1)]) rfl (ar1 rfl)) ?_
    obtain ⟨lim5, hl5, H⟩ := Option.bind_eq_some_iff.1 H
    obtain ⟨r5, hr5, H⟩ := Option.bind_eq_some_iff.1 H
    refine wls rfl rfl (stp_call (vs := [p4, (.func (.func 68) #[] [(bp g1)].toArray)]) Try.func67 rfl rfl rfl (ar2 rfl rfl) (ContainsFunc_ints_calls p4 a4wrong 68 _ Try.func68 rfl rfl [(bp g1)] (fun y5 => syndrome_Values_1 y5 a3xs) r5 _ (hp4.lift (Lift.ext e2 _)) (lim_lt hl5) hr5 (fun y5 _ b w' xE hb => syndrome_Values_1_calls y5 a3xs g1 p3 b w' (o1.ext xE) ((hp3.lift (Lift.ext e2 _)).lift (Lift.ext xE _)) hb)) ?_)
    rintro _ w5 ⟨rfl, x5⟩
    refine ⟨_, rfl, ?_⟩
    replace o1 := o1.ext x5
    have e6 := e2.trans x5
    refine wla rfl rfl (q_assign (v := (.bool r5)) rfl rfl) ?_
    refine wl_nil ?_
    refine W_th ?_
    refine W_cond _ rfl rfl (fun hb7 => ?_) (fun hb7 => ?_)
    · replace H := (if_pos hb7).symm.trans H
      refine W_seq ?_
      refine W_reg (by kernel_rfl) ?_
      refine wla rfl rfl (q_assign (v := (.slice none 0 0)) rfl rfl) ?_
      refine wla rfl rfl (q_assign (v := (i64 2)) rfl rfl) ?_
      refine wl_nil ?_
      refine W_th ?_
      refine W_ret ?_
      refine bk_r ?_
      refine th_r ?_
      obtain rfl := Option.some.inj H
      refine rt2 (.slice none 0 0) (i64 2) rfl rfl rfl rfl rfl rfl ?_
      exact ⟨(.slice none 0 0), rfl, e6, Nw.nil _, (OwK.nil _ _ _ _)⟩
    · replace H := (if_neg (ne_true_of_eq_false hb7)).symm.trans H
      refine W_skip ?_
      refine bk_n ?_
      refine W_th ?_
      refine W_seq ?_
      refine W_seq ?_
      refine W_reg (by kernel_rfl) ?_
      refine wla rfl rfl (q_move (v := p0) rfl rfl) ?_
      refine wlq rfl rfl (q_loadB (u := p3) rfl Try.isAgg22 rfl o1 rfl) ?_
      obtain ⟨r8, hr8, H⟩ := Option.bind_eq_some_iff.1 H
      refine wls rfl rfl (stp_call (vs := [p0, p3, (u8 0)]) Try.func49 rfl rfl rfl (ar3 rfl rfl (cst8 (0 : UInt8) rfl)) (poly_Weights_calls a0f a3xs (0 : UInt8) p0 p3 r8 _ (hp0.lift (Lift.ext e6 _)) (hp3.lift (Lift.ext e6 _)) hr8) ?_)
      rintro _ w8 ⟨v8_0, rfl, x8, n8_0, o8_0⟩
      refine ⟨_, rfl, ?_⟩
      have i8_0 : By w8 [(bp g1)] v8_0 r8.1 := OwK.slk (Sc.stab _) _ (OwK.scal o8_0 (v8_0 :: [(bp g1)])) (fun k hk => (Old.cons (Old.nil _) o1.ltB) k (n8_0 k hk)) (fun _ h => h.2)
      replace o1 := o1.ext x8
      have e9 := e6.trans x8
      refine wla rfl rfl (q_move (v := (.tuple #[v8_0, (i64 r8.2)])) rfl rfl) ?_
      refine wla rfl rfl (q_extract rfl rfl rfl) ?_
      refine wla rfl rfl (q_extract rfl rfl rfl) ?_
      refine wla rfl rfl (q_assign (v := v8_0) rfl rfl) ?_
      refine wla rfl rfl (q_assign (v := (i64 r8.2)) rfl rfl) ?_
      refine wl_nil ?_
      refine W_th ?_
      refine W_seq ?_
      refine W_reg (by kernel_rfl) ?_
      refine wla rfl rfl (q_move (v := (i64 r8.2)) rfl rfl) ?_
      refine wla rfl rfl (q_eqI rfl rfl rfl) ?_
      refine wl_nil ?_
      refine W_th ?_
      refine W_cond _ rfl rfl (fun hb10 => ?_) (fun hb10 => ?_)
      · replace H := (if_pos (of_decide_eq_true hb10)).symm.trans H
        refine W_seq ?_
        refine W_reg (by kernel_rfl) ?_
        refine wla rfl rfl (q_move (v := (i64 r8.2)) rfl rfl) ?_
        refine wla rfl rfl (q_assign (v := (.slice none 0 0)) rfl rfl) ?_
        refine wla rfl rfl (q_assign (v := (i64 r8.2)) rfl rfl) ?_
        refine wl_nil ?_
        refine W_th ?_
        refine W_ret ?_
        refine th_r ?_
        obtain rfl := Option.some.inj H
        refine rt2 (.slice none 0 0) (i64 r8.2) rfl rfl rfl rfl rfl rfl ?_
        exact ⟨(.slice none 0 0), rfl, e9, Nw.nil _, (OwK.nil _ _ _ _)⟩
      · replace H := (if_neg (of_decide_eq_false hb10)).symm.trans H
        refine W_skip ?_
        refine W_th ?_
        refine W_seq ?_
        refine W_reg (by kernel_rfl) ?_
        refine wla rfl rfl (q_move (v := p0) rfl rfl) ?_
        refine wla rfl rfl (q_move (v := p1) rfl rfl) ?_
        refine wla rfl rfl (q_move (v := p2) rfl rfl) ?_
        obtain ⟨r11, hr11, H⟩ := Option.bind_eq_some_iff.1 H
        refine wls rfl rfl (stp_call (vs := [p0, p1, p2]) Try.func69 rfl rfl rfl (ar3 rfl rfl rfl) (poly_Mul_calls a0f a1s a2locator p0 p1 p2 r11 _ (hp0.lift (Lift.ext e9 _)) (hp1.lift (Lift.ext e9 _)) (hp2.lift (Lift.ext e9 _)) hr11) ?_)
        rintro _ w11 ⟨v11_0, rfl, x11, n11_0, o11_0⟩
        refine ⟨_, rfl, ?_⟩
        have i11_0 : By w11 [(bp g1)] v11_0 r11.1 := OwK.slk (Sc.stab _) _ (OwK.scal o11_0 (v11_0 :: [(bp g1)])) (fun k hk => (Old.cons (Old.nil _) o1.ltB) k (n11_0 k hk)) (fun _ h => h.2)
        replace i8_0 := i8_0.lift (Lift.ext x11 _)
        replace o1 := o1.ext x11
        have e12 := e9.trans x11
        refine wla rfl rfl (q_move (v := (.tuple #[v11_0, (i64 r11.2)])) rfl rfl) ?_
        refine wla rfl rfl (q_extract rfl rfl rfl) ?_
        refine wla rfl rfl (q_extract rfl rfl rfl) ?_
        refine wla rfl rfl (q_assign (v := v11_0) rfl rfl) ?_
        refine wla rfl rfl (q_assign (v := (i64 r11.2)) rfl rfl) ?_
        refine wl_nil ?_
        refine W_th ?_
        refine W_seq ?_
        refine W_seq ?_
        refine W_reg (by kernel_rfl) ?_
        refine wla rfl rfl (q_move (v := (i64 r11.2)) rfl rfl) ?_
        refine wla rfl rfl (q_neI rfl rfl rfl) ?_
        refine wl_nil ?_
        refine W_th ?_
        refine W_cond _ rfl rfl (fun hb13 => ?_) (fun hb13 => ?_)
        · replace H := (if_neg (ndec_t hb13)).symm.trans H
          refine W_seq ?_
          refine W_reg (by kernel_rfl) ?_
          refine wla rfl rfl (q_move (v := (i64 r11.2)) rfl rfl) ?_
          refine wla rfl rfl (q_assign (v := (.slice none 0 0)) rfl rfl) ?_
          refine wla rfl rfl (q_assign (v := (i64 r11.2)) rfl rfl) ?_
          refine wl_nil ?_
          refine W_th ?_
          refine W_ret ?_
          refine th_r ?_
          obtain rfl := Option.some.inj H
          refine rt2 (.slice none 0 0) (i64 r11.2) rfl rfl rfl rfl rfl rfl ?_
          exact ⟨(.slice none 0 0), rfl, e12, Nw.nil _, (OwK.nil _ _ _ _)⟩
        · replace H := (if_pos (ndec_f hb13)).symm.trans H
          refine W_skip ?_
          refine W_th ?_
          refine W_seq ?_
          refine W_reg (by kernel_rfl) ?_
          refine wla rfl rfl (q_move (v := v11_0) rfl rfl) ?_
          refine wla rfl rfl (q_move (v := v11_0) rfl rfl) ?_
          refine wla rfl rfl (q_len rfl T22.sl rfl i11_0) ?_
          refine wla rfl rfl (q_move (v := p1) rfl rfl) ?_
          refine wla rfl rfl (q_len rfl T22.sl rfl (hp1.lift (Lift.ext e12 _))) ?_
          refine wla rfl rfl (q_minI rfl rfl rfl) ?_
          obtain ⟨c14, hc14, H⟩ := Option.bind_eq_some_iff.1 H
          refine wla rfl rfl (q_slice (a := 0) (b := (if (a1s.length : Int) < (r11.1.length : Int) then (a1s.length : Int) else (r11.1.length : Int))) rfl T22 rfl i11_0 rfl rfl hc14) ?_
          refine wla rfl rfl (q_assign (v := (subV v11_0 (0 : Int).toNat ((if (a1s.length : Int) < (r11.1.length : Int) then (a1s.length : Int) else (r11.1.length : Int)) : Int).toNat)) rfl rfl) ?_
          refine wl_nil ?_
          refine W_th ?_
          refine W_seq ?_
          refine W_reg (by kernel_rfl) ?_
          refine wla rfl rfl (q_assign (v := (.slice none 0 0)) rfl rfl) ?_
          refine wl_nil ?_
          refine W_th ?_
          refine W_seq ?_
          refine W_seq ?_
          refine W_reg (by kernel_rfl) ?_
          refine wla rfl rfl (q_move (v := p4) rfl rfl) ?_
          refine wla rfl rfl (q_len rfl T47.sl rfl (hp4.lift (Lift.ext e12 _))) ?_
          refine wla rfl rfl (q_move (v := (i64 0)) rfl rfl) ?_
          refine wl_nil ?_
          refine W_th ?_
          obtain ⟨x15, G15, H⟩ := Option.bind_eq_some_iff.1 H
          refine W_mid (fun f w => ∃ y15, x15 = .inl y15 ∧ ∃ v16_47 : Value, f 16 = v16_47 ∧ f 107 = undef ∧ Ext w0 w ∧ OwK (Sc u8) w [v16_47] 5 v16_47 y15 ∧ Nw w0 v16_47) ?_ ?_
          · refine W_block ?_
            refine W_loop (fun s15 f w => ∃ v16_45 : Value, f 0 = p0 ∧ f 2 = p2 ∧ f 8 = (bp g1) ∧ f 14 = (subV v11_0 (0 : Int).toNat ((if (a1s.length : Int) < (r11.1.length : Int) then (a1s.length : Int) else (r11.1.length : Int)) : Int).toNat) ∧ f 16 = v16_45 ∧ f 58 = p4 ∧ f 59 = (i64 ((a4wrong.length : Int))) ∧ f 60 = (i64 s15.2) ∧ f 107 = undef ∧ Ext w0 w ∧ OwK (Sc u8) w [v16_45, (bp g1)] 5 v16_45 s15.1 ∧ Nw w0 v16_45 ∧ Blk w g1 22 #[p3] ∧ Nw w0 (bp g1) ∧ Nq v16_45 (bp g1) ∧ By w [v16_45, (bp g1)] (subV v11_0 (0 : Int).toNat ((if (a1s.length : Int) < (r11.1.length : Int) then (a1s.length : Int) else (r11.1.length : Int)) : Int).toNat) c14) G15 ?_ ?_
            · exact ⟨(.slice none 0 0), rfl, rfl, rfl, rfl, rfl, rfl, rfl, rfl, rfl, e12, (OwK.nil _ _ _ _), (Nw.nil _), o1, n3, (Nq.nil _), (SlK.cut (L := [(.slice none 0 0), (bp g1)]) (i11_0.lift (Lift.sub (fun _ h => ⟨nh_nil, h.1, trivial⟩))) hc14)⟩
            · rintro s15 _ _ w16 ⟨v16_16, s0_16, s2_16, s8_16, s14_16, s16_16, s58_16, s59_16, s60_16, s107_16, hE16, o0_16, n0_16, o1_16, n1_16, q0_1_16, i0_16⟩ H15 hr15
              refine W_seq ?_
              refine W_reg (by kernel_rfl) ?_
              refine wla rfl rfl (q_ltI rfl s60_16 s59_16) ?_
              refine wl_nil ?_
              refine W_th ?_
              refine W_seq ?_
              refine W_cond _ rfl rfl (fun hb17 => ?_) (fun hb17 => ?_)
              · replace H15 := (if_pos (of_decide_eq_true hb17)).symm.trans H15
                refine W_skip ?_
                refine W_th ?_
                refine W_seq ?_
                refine W_block ?_
                refine W_seq ?_
                refine W_reg (by kernel_rfl) ?_
                obtain ⟨c18, hc18, H15⟩ := Option.bind_eq_some_iff.1 H15
                refine wla rfl rfl (q_adr rfl T47 s58_16 s60_16 (hp4.lift (Lift.ext hE16 _)) hc18) ?_
                refine wlq rfl rfl (q_loadS rfl T47 rfl (hp4.lift (Lift.ext hE16 _)) hc18) ?_
                refine wla rfl rfl (q_assign (v := (i64 c18)) rfl rfl) ?_
                refine wl_nil ?_
                refine W_th ?_
                refine W_seq ?_
                refine W_reg (by kernel_rfl) ?_
                refine wlq rfl rfl (q_loadB (u := p3) rfl Try.isAgg22 s8_16 o1_16 rfl) ?_
                refine wla rfl rfl (q_move (v := (i64 c18)) rfl rfl) ?_
                obtain ⟨c19, hc19, H15⟩ := Option.bind_eq_some_iff.1 H15
                refine wla rfl rfl (q_adr rfl T22 rfl rfl (hp3.lift (Lift.ext hE16 _)) hc19) ?_
                refine wlq rfl rfl (q_loadS rfl T22 rfl (hp3.lift (Lift.ext hE16 _)) hc19) ?_
                refine wla rfl rfl (q_assign (v := (u8 c19)) rfl rfl) ?_
                refine wl_nil ?_
                refine W_th ?_
                refine W_seq ?_
                refine W_reg (by kernel_rfl) ?_
                refine wla rfl rfl (q_move (v := p0) rfl s0_16) ?_
                refine wla rfl rfl (q_move (v := (u8 c19)) rfl rfl) ?_
                obtain ⟨r20, hr20, H15⟩ := Option.bind_eq_some_iff.1 H15
                refine wls rfl rfl (stp_call (vs := [p0, (u8 c19)]) Try.func66 rfl rfl rfl (ar2 rfl rfl) (field_Inv_calls a0f c19 p0 r20 _ (hp0.lift (Lift.ext hE16 _)) hr20) ?_)
                rintro _ w20 ⟨rfl, x20⟩
                refine ⟨_, rfl, ?_⟩
                replace i0_16 := i0_16.lift (Lift.ext x20 _)
                replace o0_16 := o0_16.extL (Sc.stab _) x20 (Lift.ext x20 _)
                replace o1_16 := o1_16.ext x20
                have e21 := hE16.trans x20
                refine wla rfl rfl (q_move (v := (.tuple #[(u8 r20.1), (i64 r20.2)])) rfl rfl) ?_
                refine wla rfl rfl (q_extract rfl rfl rfl) ?_
                refine wla rfl rfl (q_extract rfl rfl rfl) ?_
                refine wla rfl rfl (q_assign (v := (u8 r20.1)) rfl rfl) ?_
                refine wla rfl rfl (q_assign (v := (i64 r20.2)) rfl rfl) ?_
                refine wl_nil ?_
                refine W_th ?_
                refine W_seq ?_
                refine W_draw [7] [(0, 0), (1, 0), (2, 0), (4, 0), (6, 0), (7, 1), (8, 0), (3, 2), (5, 2), (9, 2), (10, 2), (11, 0)] mixed (by kernel_rfl) (by kernel_rfl) (by kernel_rfl) (by kernel_rfl) ?_
                have x22 := Ext.drew w20
                replace i0_16 := i0_16.lift (Lift.ext x22 _)
                replace o0_16 := o0_16.extL (Sc.stab _) x22 (Lift.ext x22 _)
                replace o1_16 := o1_16.ext x22
                have e23 := e21.trans x22
                refine wsa rfl rfl rfl (q_move (v := p0) rfl s0_16) ?_
                refine wsa rfl rfl rfl (q_move (v := p0) rfl s0_16) ?_
                refine wsa rfl rfl rfl (q_move (v := p2) rfl s2_16) ?_
                refine wsa rfl rfl rfl (q_move (v := (u8 r20.1)) rfl rfl) ?_
                refine wsa rfl rfl rfl (q_move (v := p0) rfl s0_16) ?_
                refine wsq rfl rfl rfl (q_loadB (u := p3) rfl Try.isAgg22 s8_16 o1_16 rfl) ?_
                refine wsa rfl rfl rfl (q_move (v := (i64 c18)) rfl rfl) ?_
                obtain ⟨r24, hr24, H15⟩ := Option.bind_eq_some_iff.1 H15
                refine wss rfl rfl rfl (stp_call (vs := [p2]) Try.func70 rfl rfl rfl (ar1 rfl) (syndrome_derivative_calls a2locator p2 r24 _ (hp2.lift (Lift.ext e23 _)) hr24) ?_)
                rintro _ w24 ⟨v24, rfl, x24, n24_0, o24_0⟩
                refine ⟨_, rfl, x24, ?_⟩
                have i24_0 : By w24 [v16_16, (bp g1)] v24 r24 := OwK.slk (Sc.stab _) _ (OwK.scal o24_0 (v24 :: [v16_16, (bp g1)])) (fun k hk => (Old.cons (Old.cons (Old.nil _) o1_16.ltB) o0_16.lt) k (n24_0 k hk)) (fun _ h => h.2)
                replace i0_16 := i0_16.lift (Lift.ext x24 _)
                replace o0_16 := o0_16.extL (Sc.stab _) x24 (Lift.ext x24 _)
                replace o1_16 := o1_16.ext x24
                have e25 := e23.trans x24
                obtain ⟨r26, hr26, H15⟩ := Option.bind_eq_some_iff.1 H15
                refine wss rfl rfl rfl (stp_call (vs := [p0, v24, (u8 r20.1)]) Try.func17 rfl rfl rfl (ar3 rfl rfl rfl) (poly_Eval_calls a0f r24 r20.1 p0 v24 r26 _ (hp0.lift (Lift.ext e25 _)) (i24_0.lift (Lift.sub (fun _ _ => trivial))) hr26) ?_)
                rintro _ w26 ⟨rfl, x26⟩
                refine ⟨_, rfl, x26, ?_⟩
                replace i0_16 := i0_16.lift (Lift.ext x26 _)
                replace i24_0 := i24_0.lift (Lift.ext x26 _)
                replace o0_16 := o0_16.extL (Sc.stab _) x26 (Lift.ext x26 _)
                replace o1_16 := o1_16.ext x26
                have e27 := e25.trans x26
                obtain ⟨r28, hr28, H15⟩ := Option.bind_eq_some_iff.1 H15
                refine wsc rfl (by kernel_rfl) rfl rfl (stp_call (vs := [p0, p3, (i64 c18)]) Try.func53 rfl rfl rfl (ar3 rfl rfl rfl) (syndrome_weight_calls a0f a3xs c18 p0 p3 r28 _ (hp0.lift (Lift.ext e27 _)) (hp3.lift (Lift.ext e27 _)) hr28) ?_)
                rintro _ w28 ⟨rfl, x28⟩
                refine ⟨_, rfl, ?_⟩
                replace i0_16 := i0_16.lift (Lift.ext x28 _)
                replace i24_0 := i24_0.lift (Lift.ext x28 _)
                replace o0_16 := o0_16.extL (Sc.stab _) x28 (Lift.ext x28 _)
                replace o1_16 := o1_16.ext x28
                have e29 := e27.trans x28
                obtain ⟨r30, hr30, H15⟩ := Option.bind_eq_some_iff.1 H15
                refine wsc rfl (by kernel_rfl) rfl rfl (stp_call (vs := [p0, (u8 r26), (u8 r28)]) Try.func43 rfl rfl rfl (ar3 rfl rfl rfl) (field_Mul_calls a0f r26 r28 p0 r30 _ (hp0.lift (Lift.ext e29 _)) hr30) ?_)
                rintro _ w30 ⟨rfl, x30⟩
                refine ⟨_, rfl, ?_⟩
                replace i0_16 := i0_16.lift (Lift.ext x30 _)
                replace i24_0 := i24_0.lift (Lift.ext x30 _)
                replace o0_16 := o0_16.extL (Sc.stab _) x30 (Lift.ext x30 _)
                replace o1_16 := o1_16.ext x30
                have e31 := e29.trans x30
                refine wsa rfl rfl rfl (q_assign (v := (u8 r30)) rfl rfl) ?_
                refine ws_nil ?_
                refine W_th ?_
                refine W_seq ?_
                refine W_reg (by kernel_rfl) ?_
                refine wla rfl rfl (q_move (v := p0) rfl s0_16) ?_
                refine wla rfl rfl (q_move (v := p0) rfl s0_16) ?_
                refine wla rfl rfl (q_move (v := (u8 c19)) rfl rfl) ?_
                refine wla rfl rfl (q_move (v := p0) rfl s0_16) ?_
                refine wla rfl rfl (q_move (v := (subV v11_0 (0 : Int).toNat ((if (a1s.length : Int) < (r11.1.length : Int) then (a1s.length : Int) else (r11.1.length : Int)) : Int).toNat)) rfl s14_16) ?_
                refine wla rfl rfl (q_move (v := (u8 r20.1)) rfl rfl) ?_
                obtain ⟨r32, hr32, H15⟩ := Option.bind_eq_some_iff.1 H15
                refine wls rfl rfl (stp_call (vs := [p0, (subV v11_0 (0 : Int).toNat ((if (a1s.length : Int) < (r11.1.length : Int) then (a1s.length : Int) else (r11.1.length : Int)) : Int).toNat), (u8 r20.1)]) Try.func17 rfl rfl rfl (ar3 rfl rfl rfl) (poly_Eval_calls a0f c14 r20.1 p0 (subV v11_0 (0 : Int).toNat ((if (a1s.length : Int) < (r11.1.length : Int) then (a1s.length : Int) else (r11.1.length : Int)) : Int).toNat) r32 _ (hp0.lift (Lift.ext e31 _)) (i0_16.lift (Lift.sub (fun _ _ => trivial))) hr32) ?_)
                rintro _ w32 ⟨rfl, x32⟩
                refine ⟨_, rfl, ?_⟩
                replace i0_16 := i0_16.lift (Lift.ext x32 _)
                replace i24_0 := i24_0.lift (Lift.ext x32 _)
                replace o0_16 := o0_16.extL (Sc.stab _) x32 (Lift.ext x32 _)
                replace o1_16 := o1_16.ext x32
                have e33 := e31.trans x32
                obtain ⟨r34, hr34, H15⟩ := Option.bind_eq_some_iff.1 H15
                refine wls rfl rfl (stp_call (vs := [p0, (u8 c19), (u8 r32)]) Try.func43 rfl rfl rfl (ar3 rfl rfl rfl) (field_Mul_calls a0f c19 r32 p0 r34 _ (hp0.lift (Lift.ext e33 _)) hr34) ?_)
                rintro _ w34 ⟨rfl, x34⟩
                refine ⟨_, rfl, ?_⟩
                replace i0_16 := i0_16.lift (Lift.ext x34 _)
                replace i24_0 := i24_0.lift (Lift.ext x34 _)
                replace o0_16 := o0_16.extL (Sc.stab _) x34 (Lift.ext x34 _)
                replace o1_16 := o1_16.ext x34
                have e35 := e33.trans x34
                refine wla rfl rfl (q_move (v := (u8 r30)) rfl rfl) ?_
                obtain ⟨r36, hr36, H15⟩ := Option.bind_eq_some_iff.1 H15
                refine wls rfl rfl (stp_call (vs := [p0, (u8 r34), (u8 r30)]) Try.func62 rfl rfl rfl (ar3 rfl rfl rfl) (field_Div_calls a0f r34 r30 p0 r36 _ (hp0.lift (Lift.ext e35 _)) hr36) ?_)
                rintro _ w36 ⟨rfl, x36⟩
                refine ⟨_, rfl, ?_⟩
                replace i0_16 := i0_16.lift (Lift.ext x36 _)
                replace i24_0 := i24_0.lift (Lift.ext x36 _)
                replace o0_16 := o0_16.extL (Sc.stab _) x36 (Lift.ext x36 _)
                replace o1_16 := o1_16.ext x36
                have e37 := e35.trans x36
                refine wla rfl rfl (q_move (v := (.tuple #[(u8 r36.1), (i64 r36.2)])) rfl rfl) ?_
                refine wla rfl rfl (q_extract rfl rfl rfl) ?_
                refine wla rfl rfl (q_extract rfl rfl rfl) ?_
                refine wla rfl rfl (q_assign (v := (u8 r36.1)) rfl rfl) ?_
                refine wla rfl rfl (q_assign (v := (i64 r36.2)) rfl rfl) ?_
                refine wl_nil ?_
                refine W_th ?_
                refine W_seq ?_
                refine W_seq ?_
                refine W_reg (by kernel_rfl) ?_
                refine wla rfl rfl (q_move (v := (i64 r36.2)) rfl rfl) ?_
                refine wla rfl rfl (q_neI rfl rfl rfl) ?_
                refine wl_nil ?_
                refine W_th ?_
                refine W_cond _ rfl rfl (fun hb38 => ?_) (fun hb38 => ?_)
                · replace H15 := (if_neg (ndec_t hb38)).symm.trans H15
                  refine W_seq ?_
                  refine W_reg (by kernel_rfl) ?_
                  refine wla rfl rfl (q_move (v := (i64 r36.2)) rfl rfl) ?_
                  refine wla rfl rfl (q_assign (v := (.slice none 0 0)) rfl rfl) ?_
                  refine wla rfl rfl (q_assign (v := (i64 r36.2)) rfl rfl) ?_
                  refine wl_nil ?_
                  refine W_th ?_
                  refine W_ret ?_
                  refine th_r ?_
                  refine bk_r ?_
                  refine th_r ?_
                  obtain rfl := Option.some.inj H15
                  obtain rfl := hr15 _ rfl
                  simp only [Sum.elim_inr] at H
                  refine th_r ?_
                  refine bk_r ?_
                  refine th_r ?_
                  refine th_r ?_
                  obtain rfl := Option.some.inj H
                  refine rt2 (.slice none 0 0) (i64 r36.2) rfl rfl rfl rfl rfl s107_16 ?_
                  exact ⟨(.slice none 0 0), rfl, e37, Nw.nil _, (OwK.nil _ _ _ _)⟩
                · replace H15 := (if_pos (ndec_f hb38)).symm.trans H15
                  refine W_skip ?_
                  refine W_th ?_
                  refine W_reg (by kernel_rfl) ?_
                  refine wla rfl rfl (q_move (v := v16_16) rfl s16_16) ?_
                  refine wla rfl rfl (q_move (v := (u8 r36.1)) rfl rfl) ?_
                  refine wls rfl rfl (stp_lit (L := [v16_16, (bp g1)]) (R := (Sc u8)) [(u8 r36.1)] ([r36.1] : List UInt8) rfl T22 rfl (by exact ⟨rfl, rfl, trivial⟩) rfl (litC u8 (oneC_u8) (us := [(u8 r36.1)]) (l := ([r36.1] : List UInt8)) rfl) rfl (litS u8 (us := [(u8 r36.1)]) (l := ([r36.1] : List UInt8)) rfl) ?_)
                  intro v39 w39 o39 n39 g39 l39
                  have x39 := grown_ext g39
                  have i39 : By w39 [v16_16, (bp g1)] v39 (([r36.1] : List UInt8)) := OwK.slk (Sc.stab _) _ o39 (fun k hk => (Old.cons (Old.cons (Old.nil _) o1_16.ltB) o0_16.lt) k (n39 k hk)) (fun _ h => h.2)
                  replace i0_16 := i0_16.lift (Lift.ext x39 _)
                  replace i24_0 := i24_0.lift (Lift.ext x39 _)
                  replace o0_16 := o0_16.extL (Sc.stab _) x39 (Lift.ext x39 _)
                  replace o1_16 := o1_16.ext x39
                  have e40 := e37.trans x39
                  obtain ⟨c41, hc41, H15⟩ := Option.bind_eq_some_iff.1 H15
                  refine wls rfl rfl (stp_append (R := (Sc u8)) (v := v16_16) (u := v39) (Sc.stab _) [] [(bp g1)] rfl T22 rfl rfl o0_16 i39 (fun _ _ h => h) hc41 oc_u8 ?_)
                  intro v41 w41 o41 g41 nx41 l41
                  replace i0_16 := i0_16.lift l41
                  replace i24_0 := i24_0.lift l41
                  replace i39 := i39.lift l41
                  have q42 : Nq (bp g1) v41 := o1_16.nxt q0_1_16.symm nx41
                  replace o1_16 := o1_16.other g41 q0_1_16.symm
                  have e43 := e40.grown g41 n0_16
                  have n44 := Nw.nxt e40 n0_16 nx41
                  refine wla rfl rfl (q_assign (v := v41) rfl rfl) ?_
                  refine wl_nil ?_
                  refine bk_n ?_
                  refine W_th ?_
                  refine W_reg (by kernel_rfl) ?_
                  refine wla rfl rfl (q_addI rfl s60_16 rfl) ?_
                  refine wla rfl rfl (q_move (v := (i64 ((wI (s15.2 + 1))))) rfl rfl) ?_
                  refine wl_nil ?_
                  obtain rfl := Option.some.inj H15
                  exact ⟨_, rfl, v41, s0_16, s2_16, s8_16, s14_16, rfl, s58_16, s59_16, rfl, s107_16, e43, o41, n44, o1_16, n1_16, q42.symm, i0_16⟩
              · replace H15 := (if_neg (of_decide_eq_false hb17)).symm.trans H15
                refine W_exit ?_
                refine th_x ?_
                obtain rfl := Option.some.inj H15
                obtain rfl := hr15 _ rfl
                refine th_x ?_
                refine bk_x ?_
                exact ⟨_, rfl, v16_16, s16_16, s107_16, hE16, (o0_16.weak (Sc.stab _) (fun _ h => ⟨h.1, trivial⟩)), n0_16⟩
          · rintro _ w46 ⟨y15, rfl, v16_46, s16_46, s107_46, hE46, o0_46, n0_46⟩
            simp only [Sum.elim_inl] at H
            refine W_th ?_
            refine W_seq ?_
            refine W_reg (by kernel_rfl) ?_
            refine wla rfl rfl (q_move (v := v16_46) rfl s16_46) ?_
            refine wla rfl rfl (q_assign (v := v16_46) rfl rfl) ?_
            refine wla rfl rfl (q_assign (v := (i64 0)) rfl rfl) ?_
            refine wl_nil ?_
            refine W_th ?_
            refine W_ret ?_
            obtain rfl := Option.some.inj H
            refine rt2 v16_46 (i64 0) rfl rfl rfl rfl rfl s107_46 ?_
            exact ⟨v16_46, rfl, hE46, n0_46, (o0_46.weak (Sc.stab _) (fun _ _ => trivial))⟩

/-! largesse/word.Zero$1 -/
noncomputable def word_Zero_1 (a0x : UInt8) : Option Bool := some (!decide (a0x = (0 : UInt8)))
set_option maxRecDepth 100000 in
set_option maxHeartbeats 8000000 in
theorem word_Zero_1_calls (a0x : UInt8) (r : Bool) (w0 : World) (H : word_Zero_1 a0x = some r) :
    Calls Try.prog 60 [(u8 a0x)].toArray w0 (fun e w' => e = .returned (.bool r) ∧ Ext w0 w') := by
  have hE : Ext w0 w0 := Ext.refl w0
  unfold word_Zero_1 at H
  refine calls_W (n := 5) Try.func60 rfl rfl rfl ?_
  refine W_seq ?_
  refine W_reg (by kernel_rfl) ?_
  refine wla rfl rfl (q_assign (v := (.bool false)) rfl rfl) ?_
  refine wl_nil ?_
  refine W_th ?_
  refine W_seq ?_
  refine W_reg (by kernel_rfl) ?_
  refine wla rfl rfl (q_move (v := (u8 a0x)) rfl rfl) ?_
  refine wla rfl rfl (q_ne8 rfl rfl (cst8 (0 : UInt8) rfl)) ?_
  refine wla rfl rfl (q_assign (v := (.bool ((!decide (a0x = (0 : UInt8)))))) rfl rfl) ?_
  refine wl_nil ?_
  refine W_th ?_
  refine W_ret ?_
  obtain rfl := Option.some.inj H
  refine rt1 (.bool ((!decide (a0x = (0 : UInt8))))) rfl rfl rfl rfl ?_
  exact ⟨rfl, hE⟩

/-! largesse/word.Zero -/
noncomputable def word_Zero (a0b : List UInt8) : Option Bool :=
((lim a0b.length).bind fun lim1 =>
((anyO (fun y1 => word_Zero_1 y1) a0b).bind fun r1 => some (!r1)))
set_option maxRecDepth 100000 in
set_option maxHeartbeats 8000000 in
theorem word_Zero_calls (a0b : List UInt8) (p0 : Value) (r : Bool) (w0 : World) (hp0 : By w0 [] p0 a0b) (H : word_Zero a0b = some r) :
    Calls Try.prog 28 [p0].toArray w0 (fun e w' => e = .returned (.bool r) ∧ Ext w0 w') := by
  have hE : Ext w0 w0 := Ext.refl w0
  unfold word_Zero at H
  refine calls_W (n := 6) Try.func28 rfl rfl rfl ?_
  refine W_seq ?_
  refine W_reg (by kernel_rfl) ?_
  refine wla rfl rfl (q_assign (v := (.bool false)) rfl rfl) ?_
  refine wl_nil ?_
  refine W_th ?_
  refine W_seq ?_
  refine W_reg (by kernel_rfl) ?_
  refine wla rfl rfl (q_move (v := p0) rfl rfl) ?_
  obtain ⟨lim1, hl1, H⟩ := Option.bind_eq_some_iff.1 H
  obtain ⟨r1, hr1, H⟩ := Option.bind_eq_some_iff.1 H
  refine wls rfl rfl (stp_call (vs := [p0, (.func (.func 60) #[] #[])]) Try.func59 rfl rfl rfl (ar2 rfl rfl) (ContainsFunc_bytes_calls p0 a0b 60 _ Try.func60 rfl rfl [] (fun y1 => word_Zero_1 y1) r1 _ (hp0.lift (Lift.ext hE _)) (lim_lt hl1) hr1 (fun y1 _ b w' xE hb => word_Zero_1_calls y1  b w'  hb)) ?_)
  rintro _ w1 ⟨rfl, x1⟩
  refine ⟨_, rfl, ?_⟩
  have e2 := hE.trans x1
  refine wla rfl rfl (q_not rfl rfl) ?_
  refine wla rfl rfl (q_assign (v := (.bool ((!r1)))) rfl rfl) ?_
  refine wl_nil ?_
  refine W_th ?_
  refine W_ret ?_
  obtain rfl := Option.some.inj H
  refine rt1 (.bool ((!r1))) rfl rfl rfl rfl ?_
  exact ⟨rfl, e2⟩

/-! largesse/syndrome.Correct -/
noncomputable def syndrome_Correct (a0f : Bool) (a1t : Int) (a2xs : List UInt8) (a3ys : List UInt8) : Option (List UInt8 × List Int × Int) :=
((syndrome_Syndromes a0f a1t a2xs a3ys).bind fun r1 =>
(if r1.2 = 0 then
((slices_Clone_sbytebyte a3ys).bind fun r4 =>
((word_Zero r1.1).bind fun r7 =>
(if r7 = true then some (r4, ([] : List Int), 0)
else
((syndrome_Locator a0f r1.1).bind fun r10 =>
((syndrome_Located a0f r10.1 a2xs).bind fun r12 =>
((poly_Degree r10.1).bind fun r16 =>
(if (r12.length : Int) = r16 then
(if (r1.1.length : Int) < (wI (2 * (r12.length : Int))) then some (([] : List UInt8), ([] : List Int), 11)
else
((syndrome_Values a0f r1.1 r10.1 a2xs r12).bind fun r20 =>
(if r20.2 = 0 then
((iterC (fun s23 : List UInt8 × Int =>
(if s23.2 < (r12.length : Int) then
((idx r12 s23.2).bind fun c26 =>
((idx s23.1 c26).bind fun c29 =>
((idx r20.1 s23.2).bind fun c30 =>
((field_Add c29 c30).bind fun r31 => some (.inl ((s23.1.set (c26 : Int).toNat r31), (wI (s23.2 + 1))))))))
else some (.inr s23.1))) (r4, 0)).bind fun x23 =>
((syndrome_Syndromes a0f a1t a2xs x23).bind fun r37 =>
(if r37.2 = 0 then
((word_Zero r37.1).bind fun r40 =>
(if (!r40) = true then some (([] : List UInt8), ([] : List Int), 11)
else
((slices_Contains_sbytebyte r20.1 (0 : UInt8)).bind fun r43 =>
(if r43 = true then some (([] : List UInt8), ([] : List Int), 11)
else some (x23, r12, 0)))))
else some (([] : List UInt8), ([] : List Int), 11))))
else some (([] : List UInt8), ([] : List Int), 11))))
else some (([] : List UInt8), ([] : List Int), 11))))))))
else some (([] : List UInt8), ([] : List Int), r1.2)))
set_option maxRecDepth 100000 in
set_option maxHeartbeats 8000000 in
theorem syndrome_Correct_calls (a0f : Bool) (a1t : Int) (a2xs : List UInt8) (a3ys : List UInt8) (p0 : Value) (p2 : Value) (p3 : Value) (r : List UInt8 × List Int × Int) (w0 : World) (hp0 : Fd w0 [] p0 a0f) (hp2 : By w0 [] p2 a2xs) (hp3 : By w0 [] p3 a3ys) (H : syndrome_Correct a0f a1t a2xs a3ys = some r) :
    Calls Try.prog 34 [p0, (i64 a1t), p2, p3].toArray w0 (fun e w' => ∃ u0 u1 : Value, e = .returned (.tuple #[u0, u1, (i64 r.2.2)]) ∧ Ext w0 w' ∧ Nw w0 u0 ∧ OwK (Sc u8) w' [] 5 u0 r.1 ∧ Nw w0 u1 ∧ OwK (Sc i64) w' [] 3 u1 r.2.1) := by
  have hE : Ext w0 w0 := Ext.refl w0
  unfold syndrome_Correct at H
  refine calls_W (n := 113) Try.func34 rfl rfl rfl ?_
  refine W_seq ?_
  refine W_reg (by kernel_rfl) ?_
  refine wla rfl rfl (q_assign (v := (.slice none 0 0)) rfl rfl) ?_
  refine wla rfl rfl (q_assign (v := (.slice none 0 0)) rfl rfl) ?_
  refine wla rfl rfl (q_assign (v := (i64 0)) rfl rfl) ?_
  refine wl_nil ?_
  refine W_th ?_
  refine W_seq ?_
  refine W_reg (by kernel_rfl) ?_
  refine wla rfl rfl (q_move (v := p0) rfl rfl) ?_
  refine wla rfl rfl (q_move (v := (i64 a1t)) rfl rfl) ?_
  refine wla rfl rfl (q_move (v := p2) rfl rfl) ?_
  refine wla rfl rfl (q_move (v := p3) rfl rfl) ?_
  obtain ⟨r1, hr1, H⟩ := Option.bind_eq_some_iff.1 H
  refine wls rfl rfl (stp_call (vs := [p0, (i64 a1t), p2, p3]) Try.func25 rfl rfl rfl (ar4 rfl rfl rfl rfl) (syndrome_Syndromes_calls a0f a1t a2xs a3ys p0 p2 p3 r1 _ (hp0.lift (Lift.ext hE _)) (hp2.lift (Lift.ext hE _)) (hp3.lift (Lift.ext hE _)) hr1) ?_)
  rintro _ w1 ⟨v1_0, rfl, x1, n1_0, o1_0⟩
  refine ⟨_, rfl, ?_⟩
  have i1_0 : By w1 [] v1_0 r1.1 := OwK.slk (Sc.stab _) _ (OwK.scal o1_0 (v1_0 :: [])) (fun k hk => (Old.nil _) k (n1_0 k hk)) (fun _ h => h.2)
  have e2 := hE.trans x1
  refine wla rfl rfl (q_move (v := (.tuple #[v1_0, (i64 r1.2)])) rfl rfl) ?_
  refine wla rfl rfl (q_extract rfl rfl rfl) ?_
  refine wla rfl rfl (q_extract rfl rfl rfl) ?_
  refine wla rfl rfl (q_assign (v := v1_0) rfl rfl) ?_
  refine wla rfl rfl (q_assign (v := (i64 r1.2)) rfl rfl) ?_
  refine wl_nil ?_
  refine W_th ?_
  refine W_seq ?_
  refine W_seq ?_
  refine W_reg (by kernel_rfl) ?_
  refine wla rfl rfl (q_move (v := (i64 r1.2)) rfl rfl) ?_
  refine wla rfl rfl (q_neI rfl rfl rfl) ?_
  refine wl_nil ?_
  refine W_th ?_
  refine W_cond _ rfl rfl (fun hb3 => ?_) (fun hb3 => ?_)
  · replace H := (if_neg (ndec_t hb3)).symm.trans H
    refine W_seq ?_
    refine W_reg (by kernel_rfl) ?_
    refine wla rfl rfl (q_move (v := (i64 r1.2)) rfl rfl) ?_
    refine wla rfl rfl (q_assign (v := (.slice none 0 0)) rfl rfl) ?_
    refine wla rfl rfl (q_assign (v := (.slice none 0 0)) rfl rfl) ?_
    refine wla rfl rfl (q_assign (v := (i64 r1.2)) rfl rfl) ?_
    refine wl_nil ?_
    refine W_th ?_
    refine W_ret ?_
    refine th_r ?_
    obtain rfl := Option.some.inj H
    refine rt3 (.slice none 0 0) (.slice none 0 0) (i64 r1.2) rfl rfl rfl rfl rfl rfl rfl rfl ?_
    exact ⟨(.slice none 0 0), (.slice none 0 0), rfl, e2, Nw.nil _, (OwK.nil _ _ _ _), Nw.nil _, (OwK.nil _ _ _ _)⟩
  · replace H := (if_pos (ndec_f hb3)).symm.trans H
    refine W_skip ?_
    refine W_th ?_
    refine W_seq ?_
    refine W_reg (by kernel_rfl) ?_
    refine wla rfl rfl (q_move (v := p3) rfl rfl) ?_
    obtain ⟨r4, hr4, H⟩ := Option.bind_eq_some_iff.1 H
    refine wls rfl rfl (stp_call (vs := [p3]) Try.func39 rfl rfl rfl (ar1 rfl) (slices_Clone_sbytebyte_calls a3ys p3 r4 _ (hp3.lift (Lift.ext e2 _)) hr4) ?_)
    rintro _ w4 ⟨v4, rfl, x4, n4_0, o4_0⟩
    refine ⟨_, rfl, ?_⟩
    have o4 : OwK (Sc u8) w4 (v4 :: []) 5 v4 r4 := OwK.scal o4_0 _
    replace i1_0 := i1_0.lift (Lift.call _ x4 n4_0)
    have n6 := Nw.ext e2 n4_0
    have e5 := e2.trans x4
    refine wla rfl rfl (q_assign (v := v4) rfl rfl) ?_
    refine wl_nil ?_
    refine W_th ?_
    refine W_seq ?_
    refine W_seq ?_
    refine W_reg (by kernel_rfl) ?_
    refine wla rfl rfl (q_move (v := v1_0) rfl rfl) ?_
    obtain ⟨r7, hr7, H⟩ := Option.bind_eq_some_iff.1 H
    refine wls rfl rfl (stp_call (vs := [v1_0]) Try.func28 rfl rfl rfl (ar1 rfl) (word_Zero_calls r1.1 v1_0 r7 _ (i1_0.lift (Lift.sub (fun _ _ => trivial))) hr7) ?_)
    rintro _ w7 ⟨rfl, x7⟩
    refine ⟨_, rfl, ?_⟩
    replace i1_0 := i1_0.lift (Lift.ext x7 _)
    replace o4 := o4.extL (Sc.stab _) x7 (Lift.ext x7 _)
    have e8 := e5.trans x7
    refine wl_nil ?_
    refine W_th ?_
    refine W_cond _ rfl rfl (fun hb9 => ?_) (fun hb9 => ?_)
    · replace H := (if_pos hb9).symm.trans H
      refine W_seq ?_
      refine W_reg (by kernel_rfl) ?_
      refine wla rfl rfl (q_move (v := v4) rfl rfl) ?_
      refine wla rfl rfl (q_assign (v := v4) rfl rfl) ?_
      refine wla rfl rfl (q_assign (v := (.slice none 0 0)) rfl rfl) ?_
      refine wla rfl rfl (q_assign (v := (i64 0)) rfl rfl) ?_
      refine wl_nil ?_
      refine W_th ?_
      refine W_ret ?_
      refine th_r ?_
      obtain rfl := Option.some.inj H
      refine rt3 v4 (.slice none 0 0) (i64 0) rfl rfl rfl rfl rfl rfl rfl rfl ?_
      exact ⟨v4, (.slice none 0 0), rfl, e8, n6, (o4.weak (Sc.stab _) (fun _ _ => trivial)), Nw.nil _, (OwK.nil _ _ _ _)⟩
    · replace H := (if_neg (ne_true_of_eq_false hb9)).symm.trans H
      refine W_skip ?_
      refine W_th ?_
      refine W_seq ?_
      refine W_reg (by kernel_rfl) ?_
      refine wla rfl rfl (q_move (v := p0) rfl rfl) ?_
      refine wla rfl rfl (q_move (v := v1_0) rfl rfl) ?_
      obtain ⟨r10, hr10, H⟩ := Option.bind_eq_some_iff.1 H
      refine wls rfl rfl (stp_call (vs := [p0, v1_0]) Try.func29 rfl rfl rfl (ar2 rfl rfl) (syndrome_Locator_calls a0f r1.1 p0 v1_0 r10 _ (hp0.lift (Lift.ext e8 _)) (i1_0.lift (Lift.sub (fun _ _ => trivial))) hr10) ?_)
      rintro _ w10 ⟨v10_0, rfl, x10, n10_0, o10_0⟩
      refine ⟨_, rfl, ?_⟩
      have i10_0 : By w10 [v4] v10_0 r10.1 := OwK.slk (Sc.stab _) _ (OwK.scal o10_0 (v10_0 :: [v4])) (fun k hk => (Old.cons (Old.nil _) o4.lt) k (n10_0 k hk)) (fun _ h => h.2)
      replace i1_0 := i1_0.lift (Lift.ext x10 _)
      replace o4 := o4.extL (Sc.stab _) x10 (Lift.ext x10 _)
      have e11 := e8.trans x10
      refine wla rfl rfl (q_move (v := (.tuple #[v10_0, (i64 r10.2)])) rfl rfl) ?_
      refine wla rfl rfl (q_extract rfl rfl rfl) ?_
      refine wla rfl rfl (q_extract rfl rfl rfl) ?_
      refine wla rfl rfl (q_assign (v := v10_0) rfl rfl) ?_
      refine wla rfl rfl (q_assign (v := (i64 r10.2)) rfl rfl) ?_
      refine wl_nil ?_
      refine W_th ?_
      refine W_seq ?_
      refine W_reg (by kernel_rfl) ?_
      refine wla rfl rfl (q_move (v := p0) rfl rfl) ?_
      refine wla rfl rfl (q_move (v := v10_0) rfl rfl) ?_
      refine wla rfl rfl (q_move (v := p2) rfl rfl) ?_
      obtain ⟨r12, hr12, H⟩ := Option.bind_eq_some_iff.1 H
      refine wls rfl rfl (stp_call (vs := [p0, v10_0, p2]) Try.func30 rfl rfl rfl (ar3 rfl rfl rfl) (syndrome_Located_calls a0f r10.1 a2xs p0 v10_0 p2 r12 _ (hp0.lift (Lift.ext e11 _)) (i10_0.lift (Lift.sub (fun _ _ => trivial))) (hp2.lift (Lift.ext e11 _)) hr12) ?_)
      rintro _ w12 ⟨v12, rfl, x12, n12_0, o12_0⟩
      refine ⟨_, rfl, ?_⟩
      have o12 : OwK (Sc i64) w12 (v12 :: [v4]) 3 v12 r12 := OwK.scal o12_0 _
      have q13 : Nq v4 v12 := o4.nq n12_0
      replace i1_0 := i1_0.lift (Lift.call _ x12 n12_0)
      replace i10_0 := i10_0.lift (Lift.call _ x12 n12_0)
      replace o4 := o4.extL (Sc.stab _) x12 (Lift.call _ x12 n12_0)
      have n15 := Nw.ext e11 n12_0
      have e14 := e11.trans x12
      refine wla rfl rfl (q_assign (v := v12) rfl rfl) ?_
      refine wl_nil ?_
      refine W_th ?_
      refine W_seq ?_
      refine W_seq ?_
      refine W_reg (by kernel_rfl) ?_
      refine wla rfl rfl (q_move (v := v12) rfl rfl) ?_
      refine wla rfl rfl (q_len rfl T47.sl rfl (o12.rd (Sc.stab _))) ?_
      refine wla rfl rfl (q_move (v := v10_0) rfl rfl) ?_
      obtain ⟨r16, hr16, H⟩ := Option.bind_eq_some_iff.1 H
      refine wls rfl rfl (stp_call (vs := [v10_0]) Try.func40 rfl rfl rfl (ar1 rfl) (poly_Degree_calls r10.1 v10_0 r16 _ (i10_0.lift (Lift.sub (fun _ _ => trivial))) hr16) ?_)
      rintro _ w16 ⟨rfl, x16⟩
      refine ⟨_, rfl, ?_⟩
      replace i1_0 := i1_0.lift (Lift.ext x16 _)
      replace i10_0 := i10_0.lift (Lift.ext x16 _)
      replace o12 := o12.extL (Sc.stab _) x16 (Lift.ext x16 _)
      replace o4 := o4.extL (Sc.stab _) x16 (Lift.ext x16 _)
      have e17 := e14.trans x16
      refine wla rfl rfl (q_neI rfl rfl rfl) ?_
      refine wlb rfl rfl (q_move (v := (.bool ((!decide ((r12.length : Int) = r16))))) rfl rfl) (fun hb18 => ?_) (fun hb18 => ?_)
      · replace H := (if_neg (ndec_t hb18)).symm.trans H
        refine wlk rfl rfl ?_
        refine wlk rfl rfl ?_
        refine wlk rfl rfl ?_
        refine wlk rfl rfl ?_
        refine wlk rfl rfl ?_
        refine wlk rfl rfl ?_
        refine wla rfl rfl (q_pick_t (v := (.bool true)) rfl rfl rfl) ?_
        refine wl_nil ?_
        refine W_th ?_
        refine W_cond true rfl rfl (fun _ => ?_) (fun hb => by cases hb)
        refine W_seq ?_
        refine W_reg (by kernel_rfl) ?_
        refine wla rfl rfl (q_assign (v := (.slice none 0 0)) rfl rfl) ?_
        refine wla rfl rfl (q_assign (v := (.slice none 0 0)) rfl rfl) ?_
        refine wla rfl rfl (q_assign (v := (i64 11)) rfl rfl) ?_
        refine wl_nil ?_
        refine W_th ?_
        refine W_ret ?_
        refine th_r ?_
        obtain rfl := Option.some.inj H
        refine rt3 (.slice none 0 0) (.slice none 0 0) (i64 11) rfl rfl rfl rfl rfl rfl rfl rfl ?_
        exact ⟨(.slice none 0 0), (.slice none 0 0), rfl, e17, Nw.nil _, (OwK.nil _ _ _ _), Nw.nil _, (OwK.nil _ _ _ _)⟩
      · replace H := (if_pos (ndec_f hb18)).symm.trans H
        refine wla rfl rfl (q_move (v := v12) rfl rfl) ?_
        refine wla rfl rfl (q_len rfl T47.sl rfl (o12.rd (Sc.stab _))) ?_
        refine wla rfl rfl (q_mulI rfl rfl rfl) ?_
        refine wla rfl rfl (q_move (v := v1_0) rfl rfl) ?_
        refine wla rfl rfl (q_len rfl T22.sl rfl i1_0) ?_
        refine wla rfl rfl (q_gtI rfl rfl rfl) ?_
        refine wla rfl rfl (q_pick_f (v := (.bool ((decide ((r1.1.length : Int) < (wI (2 * (r12.length : Int)))))))) rfl rfl rfl) ?_
        refine wl_nil ?_
        refine W_th ?_
        refine W_cond _ rfl rfl (fun hb19 => ?_) (fun hb19 => ?_)
        · replace H := (if_pos (of_decide_eq_true hb19)).symm.trans H
          refine W_seq ?_
          refine W_reg (by kernel_rfl) ?_
          refine wla rfl rfl (q_assign (v := (.slice none 0 0)) rfl rfl) ?_
          refine wla rfl rfl (q_assign (v := (.slice none 0 0)) rfl rfl) ?_
          refine wla rfl rfl (q_assign (v := (i64 11)) rfl rfl) ?_
          refine wl_nil ?_
          refine W_th ?_
          refine W_ret ?_
          refine th_r ?_
          obtain rfl := Option.some.inj H
          refine rt3 (.slice none 0 0) (.slice none 0 0) (i64 11) rfl rfl rfl rfl rfl rfl rfl rfl ?_
          exact ⟨(.slice none 0 0), (.slice none 0 0), rfl, e17, Nw.nil _, (OwK.nil _ _ _ _), Nw.nil _, (OwK.nil _ _ _ _)⟩
        · replace H := (if_neg (of_decide_eq_false hb19)).symm.trans H
          refine W_skip ?_
          refine W_th ?_
          refine W_seq ?_
          refine W_reg (by kernel_rfl) ?_
          refine wla rfl rfl (q_move (v := p0) rfl rfl) ?_
          refine wla rfl rfl (q_move (v := v1_0) rfl rfl) ?_
          refine wla rfl rfl (q_move (v := v10_0) rfl rfl) ?_
          refine wla rfl rfl (q_move (v := p2) rfl rfl) ?_
          refine wla rfl rfl (q_move (v := v12) rfl rfl) ?_
          obtain ⟨r20, hr20, H⟩ := Option.bind_eq_some_iff.1 H
          refine wls rfl rfl (stp_call (vs := [p0, v1_0, v10_0, p2, v12]) Try.func31 rfl rfl rfl (ar5 rfl rfl rfl rfl rfl) (syndrome_Values_calls a0f r1.1 r10.1 a2xs r12 p0 v1_0 v10_0 p2 v12 r20 _ (hp0.lift (Lift.ext e17 _)) (i1_0.lift (Lift.sub (fun _ _ => trivial))) (i10_0.lift (Lift.sub (fun _ _ => trivial))) (hp2.lift (Lift.ext e17 _)) (o12.rd (Sc.stab _)) hr20) ?_)
          rintro _ w20 ⟨v20_0, rfl, x20, n20_0, o20_0⟩
          refine ⟨_, rfl, ?_⟩
          have i20_0 : By w20 [v12, v4] v20_0 r20.1 := OwK.slk (Sc.stab _) _ (OwK.scal o20_0 (v20_0 :: [v12, v4])) (fun k hk => (Old.cons (Old.cons (Old.nil _) o4.lt) o12.lt) k (n20_0 k hk)) (fun _ h => h.2)
          replace i1_0 := i1_0.lift (Lift.ext x20 _)
          replace i10_0 := i10_0.lift (Lift.ext x20 _)
          replace o12 := o12.extL (Sc.stab _) x20 (Lift.ext x20 _)
          replace o4 := o4.extL (Sc.stab _) x20 (Lift.ext x20 _)
          have e21 := e17.trans x20
          refine wla rfl rfl (q_move (v := (.tuple #[v20_0, (i64 r20.2)])) rfl rfl) ?_
          refine wla rfl rfl (q_extract rfl rfl rfl) ?_
          refine wla rfl rfl (q_extract rfl rfl rfl) ?_
          refine wla rfl rfl (q_assign (v := v20_0) rfl rfl) ?_
          refine wla rfl rfl (q_assign (v := (i64 r20.2)) rfl rfl) ?_
          refine wl_nil ?_
          refine W_th ?_
          refine W_seq ?_
          refine W_seq ?_
          refine W_reg (by kernel_rfl) ?_
          refine wla rfl rfl (q_move (v := (i64 r20.2)) rfl rfl) ?_
          refine wla rfl rfl (q_neI rfl rfl rfl) ?_
          refine wl_nil ?_
          refine W_th ?_
          refine W_cond _ rfl rfl (fun hb22 => ?_) (fun hb22 => ?_)
          · replace H := (if_neg (ndec_t hb22)).symm.trans H
            refine W_seq ?_
            refine W_reg (by kernel_rfl) ?_
            refine wla rfl rfl (q_assign (v := (.slice none 0 0)) rfl rfl) ?_
            refine wla rfl rfl (q_assign (v := (.slice none 0 0)) rfl rfl) ?_
            refine wla rfl rfl (q_assign (v := (i64 11)) rfl rfl) ?_
            refine wl_nil ?_
            refine W_th ?_
            refine W_ret ?_
            refine th_r ?_
            obtain rfl := Option.some.inj H
            refine rt3 (.slice none 0 0) (.slice none 0 0) (i64 11) rfl rfl rfl rfl rfl rfl rfl rfl ?_
            exact ⟨(.slice none 0 0), (.slice none 0 0), rfl, e21, Nw.nil _, (OwK.nil _ _ _ _), Nw.nil _, (OwK.nil _ _ _ _)⟩
          · replace H := (if_pos (ndec_f hb22)).symm.trans H
            refine W_skip ?_
            refine W_th ?_
            refine W_seq ?_
            refine W_seq ?_
            refine W_reg (by kernel_rfl) ?_
            refine wla rfl rfl (q_move (v := v12) rfl rfl) ?_
            refine wla rfl rfl (q_len rfl T47.sl rfl (o12.rd (Sc.stab _))) ?_
            refine wla rfl rfl (q_move (v := (i64 0)) rfl rfl) ?_
            refine wl_nil ?_
            refine W_th ?_
            obtain ⟨x23, G23, H⟩ := Option.bind_eq_some_iff.1 H
            refine W_mid (fun f w => f 0 = p0 ∧ f 1 = (i64 a1t) ∧ f 2 = p2 ∧ f 13 = v4 ∧ f 16 = v12 ∧ f 17 = v20_0 ∧ f 113 = undef ∧ Ext w0 w ∧ OwK (Sc u8) w [v4, v12] 5 v4 x23 ∧ Nw w0 v4 ∧ OwK (Sc i64) w [v4, v12] 3 v12 r12 ∧ Nw w0 v12 ∧ Nq v4 v12 ∧ By w [v4, v12] v20_0 r20.1) ?_ ?_
            · refine W_block ?_
              refine W_loop (fun s23 f w => f 0 = p0 ∧ f 1 = (i64 a1t) ∧ f 2 = p2 ∧ f 13 = v4 ∧ f 16 = v12 ∧ f 17 = v20_0 ∧ f 72 = v12 ∧ f 73 = (i64 ((r12.length : Int))) ∧ f 74 = (i64 s23.2) ∧ f 113 = undef ∧ Ext w0 w ∧ OwK (Sc u8) w [v4, v12] 5 v4 s23.1 ∧ Nw w0 v4 ∧ OwK (Sc i64) w [v4, v12] 3 v12 r12 ∧ Nw w0 v12 ∧ Nq v4 v12 ∧ By w [v4, v12] v20_0 r20.1) G23 ?_ ?_
              · exact ⟨rfl, rfl, rfl, rfl, rfl, rfl, rfl, rfl, rfl, rfl, e21, (o4.weak (Sc.stab _) (fun _ h => ⟨h.2.1, h.1, trivial⟩)), n6, (o12.weak (Sc.stab _) (fun _ h => ⟨h.2.1, h.1, trivial⟩)), n15, q13, (i20_0.lift (Lift.sub (fun _ h => ⟨h.2.1, h.1, trivial⟩)))⟩
              · rintro s23 _ _ w24 ⟨s0_24, s1_24, s2_24, s13_24, s16_24, s17_24, s72_24, s73_24, s74_24, s113_24, hE24, o0_24, n0_24, o1_24, n1_24, q0_1_24, i0_24⟩ H23 hr23
                refine W_seq ?_
                refine W_reg (by kernel_rfl) ?_
                refine wla rfl rfl (q_ltI rfl s74_24 s73_24) ?_
                refine wl_nil ?_
                refine W_th ?_
                refine W_seq ?_
                refine W_cond _ rfl rfl (fun hb25 => ?_) (fun hb25 => ?_)
                · replace H23 := (if_pos (of_decide_eq_true hb25)).symm.trans H23
                  refine W_skip ?_
                  refine W_th ?_
                  refine W_seq ?_
                  refine W_block ?_
                  refine W_seq ?_
                  refine W_reg (by kernel_rfl) ?_
                  refine wla rfl rfl (q_move (v := (i64 s23.2)) rfl s74_24) ?_
                  obtain ⟨c26, hc26, H23⟩ := Option.bind_eq_some_iff.1 H23
                  refine wla rfl rfl (q_adr rfl T47 s72_24 s74_24 (o1_24.rd (Sc.stab _)) hc26) ?_
                  refine wlq rfl rfl (q_loadS rfl T47 rfl (o1_24.rd (Sc.stab _)) hc26) ?_
                  refine wla rfl rfl (q_assign (v := (i64 s23.2)) rfl rfl) ?_
                  refine wla rfl rfl (q_assign (v := (i64 c26)) rfl rfl) ?_
                  refine wl_nil ?_
                  refine W_th ?_
                  refine W_draw [5, 9] [(0, 0), (1, 0), (2, 0), (3, 0), (4, 0), (5, 1), (6, 0), (7, 0), (8, 0), (9, 1), (10, 2), (11, 0), (12, 2)] mixed (by kernel_rfl) (by kernel_rfl) (by kernel_rfl) (by kernel_rfl) ?_
                  have x27 := Ext.drew w24
                  replace i0_24 := i0_24.lift (Lift.ext x27 _)
                  replace o0_24 := o0_24.extL (Sc.stab _) x27 (Lift.ext x27 _)
                  replace o1_24 := o1_24.extL (Sc.stab _) x27 (Lift.ext x27 _)
                  have e28 := hE24.trans x27
                  refine wsa rfl rfl rfl (q_move (v := v4) rfl s13_24) ?_
                  refine wsa rfl rfl rfl (q_move (v := (i64 c26)) rfl rfl) ?_
                  refine wsa rfl rfl rfl (q_move (v := v4) rfl s13_24) ?_
                  refine wsa rfl rfl rfl (q_move (v := (i64 c26)) rfl rfl) ?_
                  obtain ⟨c29, hc29, H23⟩ := Option.bind_eq_some_iff.1 H23
                  refine wsa rfl rfl rfl (q_adr rfl T22 rfl rfl (o0_24.rd (Sc.stab _)) hc29) ?_
                  refine wsq rfl rfl rfl (q_loadS rfl T22 rfl (o0_24.rd (Sc.stab _)) hc29) ?_
                  refine wsa rfl rfl rfl (q_move (v := v20_0) rfl s17_24) ?_
                  refine wsa rfl rfl rfl (q_move (v := (i64 s23.2)) rfl rfl) ?_
                  obtain ⟨c30, hc30, H23⟩ := Option.bind_eq_some_iff.1 H23
                  refine wsa rfl rfl rfl (q_adr rfl T22 rfl rfl i0_24 hc30) ?_
                  refine wsq rfl rfl rfl (q_loadS rfl T22 rfl i0_24 hc30) ?_
                  obtain ⟨r31, hr31, H23⟩ := Option.bind_eq_some_iff.1 H23
                  refine wsc rfl (by kernel_rfl) rfl rfl (stp_call (vs := [(u8 c29), (u8 c30)]) Try.func42 rfl rfl rfl (ar2 rfl rfl) (field_Add_calls c29 c30  r31 _  hr31) ?_)
                  rintro _ w31 ⟨rfl, x31⟩
                  refine ⟨_, rfl, ?_⟩
                  replace i0_24 := i0_24.lift (Lift.ext x31 _)
                  replace o0_24 := o0_24.extL (Sc.stab _) x31 (Lift.ext x31 _)
                  replace o1_24 := o1_24.extL (Sc.stab _) x31 (Lift.ext x31 _)
                  have e32 := e28.trans x31
                  refine wsa rfl rfl rfl (q_adr rfl T22 rfl rfl (o0_24.rd (Sc.stab _)) hc29) ?_
                  refine wsn rfl (by kernel_rfl) rfl rfl (stp_store (R := (Sc u8)) (u := (u8 r31)) (Sc.stab _) [] [v12] rfl T22 rfl rfl o0_24 (put_of r31 hc29) rfl rfl ?_)
                  intro w33 o33 g33 l33
                  replace i0_24 := i0_24.lift l33
                  replace o1_24 := o1_24.other (Sc.stab _) g33 q0_1_24.symm l33
                  have e34 := e32.grown g33 n0_24
                  refine ws_nil ?_
                  refine bk_n ?_
                  refine W_th ?_
                  refine W_reg (by kernel_rfl) ?_
                  refine wla rfl rfl (q_addI rfl s74_24 rfl) ?_
                  refine wla rfl rfl (q_move (v := (i64 ((wI (s23.2 + 1))))) rfl rfl) ?_
                  refine wl_nil ?_
                  obtain rfl := Option.some.inj H23
                  exact ⟨_, rfl, s0_24, s1_24, s2_24, s13_24, s16_24, s17_24, s72_24, s73_24, rfl, s113_24, e34, o33, n0_24, o1_24, n1_24, q0_1_24, i0_24⟩
                · replace H23 := (if_neg (of_decide_eq_false hb25)).symm.trans H23
                  refine W_exit ?_
                  refine th_x ?_
                  obtain rfl := Option.some.inj H23
                  obtain rfl := hr23 _ rfl
                  refine th_x ?_
                  refine bk_x ?_
                  exact ⟨s0_24, s1_24, s2_24, s13_24, s16_24, s17_24, s113_24, hE24, o0_24, n0_24, o1_24, n1_24, q0_1_24, i0_24⟩
            · rintro _ w36 ⟨s0_36, s1_36, s2_36, s13_36, s16_36, s17_36, s113_36, hE36, o0_36, n0_36, o1_36, n1_36, q0_1_36, i0_36⟩
              refine W_th ?_
              refine W_seq ?_
              refine W_seq ?_
              refine W_reg (by kernel_rfl) ?_
              refine wla rfl rfl (q_move (v := p0) rfl s0_36) ?_
              refine wla rfl rfl (q_move (v := (i64 a1t)) rfl s1_36) ?_
              refine wla rfl rfl (q_move (v := p2) rfl s2_36) ?_
              refine wla rfl rfl (q_move (v := v4) rfl s13_36) ?_
              obtain ⟨r37, hr37, H⟩ := Option.bind_eq_some_iff.1 H
              refine wls rfl rfl (stp_call (vs := [p0, (i64 a1t), p2, v4]) Try.func25 rfl rfl rfl (ar4 rfl rfl rfl rfl) (syndrome_Syndromes_calls a0f a1t a2xs x23 p0 p2 v4 r37 _ (hp0.lift (Lift.ext hE36 _)) (hp2.lift (Lift.ext hE36 _)) (o0_36.rd (Sc.stab _)) hr37) ?_)
              rintro _ w37 ⟨v37_0, rfl, x37, n37_0, o37_0⟩
              refine ⟨_, rfl, ?_⟩
              have i37_0 : By w37 [v4, v12] v37_0 r37.1 := OwK.slk (Sc.stab _) _ (OwK.scal o37_0 (v37_0 :: [v4, v12])) (fun k hk => (Old.cons (Old.cons (Old.nil _) o1_36.lt) o0_36.lt) k (n37_0 k hk)) (fun _ h => h.2)
              replace i0_36 := i0_36.lift (Lift.ext x37 _)
              replace o0_36 := o0_36.extL (Sc.stab _) x37 (Lift.ext x37 _)
              replace o1_36 := o1_36.extL (Sc.stab _) x37 (Lift.ext x37 _)
              have e38 := hE36.trans x37
              refine wla rfl rfl (q_move (v := (.tuple #[v37_0, (i64 r37.2)])) rfl rfl) ?_
              refine wla rfl rfl (q_extract rfl rfl rfl) ?_
              refine wla rfl rfl (q_extract rfl rfl rfl) ?_
              refine wla rfl rfl (q_assign (v := v37_0) rfl rfl) ?_
              refine wla rfl rfl (q_assign (v := (i64 r37.2)) rfl rfl) ?_
              refine wl_nil ?_
              refine W_th ?_
              refine W_seq ?_
              refine W_reg (by kernel_rfl) ?_
              refine wla rfl rfl (q_move (v := (i64 r37.2)) rfl rfl) ?_
              refine wla rfl rfl (q_neI rfl rfl rfl) ?_
              refine wlb rfl rfl (q_move (v := (.bool ((!decide (r37.2 = 0))))) rfl rfl) (fun hb39 => ?_) (fun hb39 => ?_)
              · replace H := (if_neg (ndec_t hb39)).symm.trans H
                refine wlk rfl rfl ?_
                refine wlk rfl rfl ?_
                refine wlk rfl rfl ?_
                refine wla rfl rfl (q_pick_t (v := (.bool true)) rfl rfl rfl) ?_
                refine wla rfl rfl (q_move (v := (.bool true)) rfl rfl) ?_
                refine wlk rfl rfl ?_
                refine wlk rfl rfl ?_
                refine wla rfl rfl (q_pick_t (v := (.bool true)) rfl rfl rfl) ?_
                refine wl_nil ?_
                refine W_th ?_
                refine W_cond true rfl rfl (fun _ => ?_) (fun hb => by cases hb)
                refine W_seq ?_
                refine W_reg (by kernel_rfl) ?_
                refine wla rfl rfl (q_assign (v := (.slice none 0 0)) rfl rfl) ?_
                refine wla rfl rfl (q_assign (v := (.slice none 0 0)) rfl rfl) ?_
                refine wla rfl rfl (q_assign (v := (i64 11)) rfl rfl) ?_
                refine wl_nil ?_
                refine W_th ?_
                refine W_ret ?_
                refine th_r ?_
                obtain rfl := Option.some.inj H
                refine rt3 (.slice none 0 0) (.slice none 0 0) (i64 11) rfl rfl rfl rfl rfl rfl rfl s113_36 ?_
                exact ⟨(.slice none 0 0), (.slice none 0 0), rfl, e38, Nw.nil _, (OwK.nil _ _ _ _), Nw.nil _, (OwK.nil _ _ _ _)⟩
              · replace H := (if_pos (ndec_f hb39)).symm.trans H
                refine wla rfl rfl (q_move (v := v37_0) rfl rfl) ?_
                obtain ⟨r40, hr40, H⟩ := Option.bind_eq_some_iff.1 H
                refine wls rfl rfl (stp_call (vs := [v37_0]) Try.func28 rfl rfl rfl (ar1 rfl) (word_Zero_calls r37.1 v37_0 r40 _ (i37_0.lift (Lift.sub (fun _ _ => trivial))) hr40) ?_)
                rintro _ w40 ⟨rfl, x40⟩
                refine ⟨_, rfl, ?_⟩
                replace i0_36 := i0_36.lift (Lift.ext x40 _)
                replace i37_0 := i37_0.lift (Lift.ext x40 _)
                replace o0_36 := o0_36.extL (Sc.stab _) x40 (Lift.ext x40 _)
                replace o1_36 := o1_36.extL (Sc.stab _) x40 (Lift.ext x40 _)
                have e41 := e38.trans x40
                refine wla rfl rfl (q_not rfl rfl) ?_
                refine wla rfl rfl (q_pick_f (v := (.bool ((!r40)))) rfl rfl rfl) ?_
                refine wlb rfl rfl (q_move (v := (.bool ((!r40)))) rfl rfl) (fun hb42 => ?_) (fun hb42 => ?_)
                · replace H := (if_pos hb42).symm.trans H
                  refine wlk rfl rfl ?_
                  refine wlk rfl rfl ?_
                  refine wla rfl rfl (q_pick_t (v := (.bool true)) rfl rfl rfl) ?_
                  refine wl_nil ?_
                  refine W_th ?_
                  refine W_cond true rfl rfl (fun _ => ?_) (fun hb => by cases hb)
                  refine W_seq ?_
                  refine W_reg (by kernel_rfl) ?_
                  refine wla rfl rfl (q_assign (v := (.slice none 0 0)) rfl rfl) ?_
                  refine wla rfl rfl (q_assign (v := (.slice none 0 0)) rfl rfl) ?_
                  refine wla rfl rfl (q_assign (v := (i64 11)) rfl rfl) ?_
                  refine wl_nil ?_
                  refine W_th ?_
                  refine W_ret ?_
                  refine th_r ?_
                  obtain rfl := Option.some.inj H
                  refine rt3 (.slice none 0 0) (.slice none 0 0) (i64 11) rfl rfl rfl rfl rfl rfl rfl s113_36 ?_
                  exact ⟨(.slice none 0 0), (.slice none 0 0), rfl, e41, Nw.nil _, (OwK.nil _ _ _ _), Nw.nil _, (OwK.nil _ _ _ _)⟩
                · replace H := (if_neg (ne_true_of_eq_false hb42)).symm.trans H
                  refine wla rfl rfl (q_move (v := v20_0) rfl s17_36) ?_
                  obtain ⟨r43, hr43, H⟩ := Option.bind_eq_some_iff.1 H
                  refine wls rfl rfl (stp_call (vs := [v20_0, (u8 0)]) Try.func71 rfl rfl rfl (ar2 rfl (cst8 (0 : UInt8) rfl)) (slices_Contains_sbytebyte_calls r20.1 (0 : UInt8) v20_0 r43 _ (i0_36.lift (Lift.sub (fun _ _ => trivial))) hr43) ?_)
                  rintro _ w43 ⟨rfl, x43⟩
                  refine ⟨_, rfl, ?_⟩
                  replace i0_36 := i0_36.lift (Lift.ext x43 _)
                  replace i37_0 := i37_0.lift (Lift.ext x43 _)
                  replace o0_36 := o0_36.extL (Sc.stab _) x43 (Lift.ext x43 _)
                  replace o1_36 := o1_36.extL (Sc.stab _) x43 (Lift.ext x43 _)
                  have e44 := e41.trans x43
                  refine wla rfl rfl (q_pick_f (v := (.bool r43)) rfl rfl rfl) ?_
                  refine wl_nil ?_
                  refine W_th ?_
                  refine W_cond _ rfl rfl (fun hb45 => ?_) (fun hb45 => ?_)
                  · replace H := (if_pos hb45).symm.trans H
                    refine W_seq ?_
                    refine W_reg (by kernel_rfl) ?_
                    refine wla rfl rfl (q_assign (v := (.slice none 0 0)) rfl rfl) ?_
                    refine wla rfl rfl (q_assign (v := (.slice none 0 0)) rfl rfl) ?_
                    refine wla rfl rfl (q_assign (v := (i64 11)) rfl rfl) ?_
                    refine wl_nil ?_
                    refine W_th ?_
                    refine W_ret ?_
                    refine th_r ?_
                    obtain rfl := Option.some.inj H
                    refine rt3 (.slice none 0 0) (.slice none 0 0) (i64 11) rfl rfl rfl rfl rfl rfl rfl s113_36 ?_
                    exact ⟨(.slice none 0 0), (.slice none 0 0), rfl, e44, Nw.nil _, (OwK.nil _ _ _ _), Nw.nil _, (OwK.nil _ _ _ _)⟩
                  · replace H := (if_neg (ne_true_of_eq_false hb45)).symm.trans H
                    refine W_skip ?_
                    refine W_th ?_
                    refine W_seq ?_
                    refine W_reg (by kernel_rfl) ?_
                    refine wla rfl rfl (q_move (v := v4) rfl s13_36) ?_
                    refine wla rfl rfl (q_move (v := v12) rfl s16_36) ?_
                    refine wla rfl rfl (q_assign (v := v4) rfl rfl) ?_
                    refine wla rfl rfl (q_assign (v := v12) rfl rfl) ?_
                    refine wla rfl rfl (q_assign (v := (i64 0)) rfl rfl) ?_
                    refine wl_nil ?_
                    refine W_th ?_
                    refine W_ret ?_
                    obtain rfl := Option.some.inj H
                    refine rt3 v4 v12 (i64 0) rfl rfl rfl rfl rfl rfl rfl s113_36 ?_
                    exact ⟨v4, v12, rfl, e44, n0_36, (o0_36.weak (Sc.stab _) (fun _ _ => trivial)), n1_36, (o1_36.weak (Sc.stab _) (fun _ _ => trivial))⟩

end Gk

/- Printed by gen.py: for each Go function a pure function, and that the Go code comes to it. No condition beside the equation that says what the pure function gives. -/


set_option linter.unusedVariables false
set_option linter.unusedSimpArgs false
namespace Gk
open Go Go.Proofs

/-! largesse/largesselaw30.lives -/
noncomputable def law30_lives  : Option Bool :=
((field_New ).bind fun r1 =>
((syndrome_Correct r1 1 ([(1 : UInt8), (2 : UInt8), (3 : UInt8)] : List UInt8) ([(5 : UInt8), (5 : UInt8), (9 : UInt8)] : List UInt8)).bind fun r7 =>
(if r7.2.2 = 0 then
(if r7.1 = ([5, 5, 5] : List UInt8) then
(if (r7.2.1.length : Int) = 1 then
((idx r7.2.1 0).bind fun c12 => some (decide (c12 = 2)))
else some false)
else some false)
else some false)))
set_option maxRecDepth 100000 in
set_option maxHeartbeats 8000000 in
theorem law30_lives_calls  (r : Bool) (w0 : World) (H : law30_lives = some r) :
    Calls Try.prog 24 [].toArray w0 (fun e w' => e = .returned (.bool r) ∧ Ext w0 w') := by
  have hE : Ext w0 w0 := Ext.refl w0
  unfold law30_lives at H
  refine calls_W (n := 30) Try.func24 rfl rfl rfl ?_
  refine W_seq ?_
  refine W_reg (by kernel_rfl) ?_
  refine wla rfl rfl (q_assign (v := (.bool false)) rfl rfl) ?_
  refine wl_nil ?_
  refine W_th ?_
  refine W_seq ?_
  refine W_reg (by kernel_rfl) ?_
  obtain ⟨r1, hr1, H⟩ := Option.bind_eq_some_iff.1 H
  refine wls rfl rfl (stp_call (vs := []) Try.func12 rfl rfl rfl (ar0 ) (field_New_calls   r1 _ [] (Old.nil _)  hr1) ?_)
  rintro _ w1 ⟨v1, rfl, x1, i1_0⟩
  refine ⟨_, rfl, ?_⟩
  have e2 := hE.trans x1
  refine wls rfl rfl (stp_lit (L := []) (R := (Sc u8)) [(u8 1), (u8 2), (u8 3)] ([(1 : UInt8), (2 : UInt8), (3 : UInt8)] : List UInt8) rfl T22 rfl (by exact ⟨rfl, (cst8 (1 : UInt8) rfl), rfl, (cst8 (2 : UInt8) rfl), rfl, (cst8 (3 : UInt8) rfl), trivial⟩) rfl (litC u8 (oneC_u8) (us := [(u8 1), (u8 2), (u8 3)]) (l := ([(1 : UInt8), (2 : UInt8), (3 : UInt8)] : List UInt8)) rfl) rfl (litS u8 (us := [(u8 1), (u8 2), (u8 3)]) (l := ([(1 : UInt8), (2 : UInt8), (3 : UInt8)] : List UInt8)) rfl) ?_)
  intro v3 w3 o3 n3 g3 l3
  have x3 := grown_ext g3
  have i3 : By w3 [] v3 (([(1 : UInt8), (2 : UInt8), (3 : UInt8)] : List UInt8)) := OwK.slk (Sc.stab _) _ o3 (fun k hk => (Old.nil _) k (n3 k hk)) (fun _ h => h.2)
  replace i1_0 := i1_0.lift (Lift.ext x3 _)
  have e4 := e2.trans x3
  refine wls rfl rfl (stp_lit (L := []) (R := (Sc u8)) [(u8 5), (u8 5), (u8 9)] ([(5 : UInt8), (5 : UInt8), (9 : UInt8)] : List UInt8) rfl T22 rfl (by exact ⟨rfl, (cst8 (5 : UInt8) rfl), rfl, (cst8 (5 : UInt8) rfl), rfl, (cst8 (9 : UInt8) rfl), trivial⟩) rfl (litC u8 (oneC_u8) (us := [(u8 5), (u8 5), (u8 9)]) (l := ([(5 : UInt8), (5 : UInt8), (9 : UInt8)] : List UInt8)) rfl) rfl (litS u8 (us := [(u8 5), (u8 5), (u8 9)]) (l := ([(5 : UInt8), (5 : UInt8), (9 : UInt8)] : List UInt8)) rfl) ?_)
  intro v5 w5 o5 n5 g5 l5
  have x5 := grown_ext g5
  have i5 : By w5 [] v5 (([(5 : UInt8), (5 : UInt8), (9 : UInt8)] : List UInt8)) := OwK.slk (Sc.stab _) _ o5 (fun k hk => (Old.nil _) k (n5 k hk)) (fun _ h => h.2)
  replace i1_0 := i1_0.lift (Lift.ext x5 _)
  replace i3 := i3.lift (Lift.ext x5 _)
  have e6 := e4.trans x5
  obtain ⟨r7, hr7, H⟩ := Option.bind_eq_some_iff.1 H
  refine wls rfl rfl (stp_call (vs := [v1, (i64 1), v3, v5]) Try.func34 rfl rfl rfl (ar4 rfl rfl rfl rfl) (syndrome_Correct_calls r1 1 ([(1 : UInt8), (2 : UInt8), (3 : UInt8)] : List UInt8) ([(5 : UInt8), (5 : UInt8), (9 : UInt8)] : List UInt8) v1 v3 v5 r7 _ (i1_0.lift (Lift.sub (fun _ _ => trivial))) (i3.lift (Lift.sub (fun _ _ => trivial))) (i5.lift (Lift.sub (fun _ _ => trivial))) hr7) ?_)
  rintro _ w7 ⟨v7_0, v7_1, rfl, x7, n7_0, o7_0, n7_1, o7_1⟩
  refine ⟨_, rfl, ?_⟩
  have i7_0 : By w7 [] v7_0 r7.1 := OwK.slk (Sc.stab _) _ (OwK.scal o7_0 (v7_0 :: [])) (fun k hk => (Old.nil _) k (n7_0 k hk)) (fun _ h => h.2)
  have i7_1 : In w7 [] v7_1 r7.2.1 := OwK.slk (Sc.stab _) _ (OwK.scal o7_1 (v7_1 :: [])) (fun k hk => (Old.nil _) k (n7_1 k hk)) (fun _ h => h.2)
  replace i1_0 := i1_0.lift (Lift.ext x7 _)
  replace i3 := i3.lift (Lift.ext x7 _)
  replace i5 := i5.lift (Lift.ext x7 _)
  have e8 := e6.trans x7
  refine wla rfl rfl (q_move (v := (.tuple #[v7_0, v7_1, (i64 r7.2.2)])) rfl rfl) ?_
  refine wla rfl rfl (q_extract rfl rfl rfl) ?_
  refine wla rfl rfl (q_extract rfl rfl rfl) ?_
  refine wla rfl rfl (q_extract rfl rfl rfl) ?_
  refine wla rfl rfl (q_assign (v := v7_0) rfl rfl) ?_
  refine wla rfl rfl (q_assign (v := v7_1) rfl rfl) ?_
  refine wla rfl rfl (q_assign (v := (i64 r7.2.2)) rfl rfl) ?_
  refine wl_nil ?_
  refine W_th ?_
  refine W_seq ?_
  refine W_reg (by kernel_rfl) ?_
  refine wla rfl rfl (q_move (v := (i64 r7.2.2)) rfl rfl) ?_
  refine wla rfl rfl (q_eqI rfl rfl rfl) ?_
  refine wlb rfl rfl (q_move (v := (.bool ((decide (r7.2.2 = 0))))) rfl rfl) (fun hb9 => ?_) (fun hb9 => ?_)
  · replace H := (if_pos (of_decide_eq_true hb9)).symm.trans H
    refine wla rfl rfl (q_move (v := v7_0) rfl rfl) ?_
    refine wlq rfl rfl (q_str rfl T22 rfl rfl rfl i7_0) ?_
    refine wla rfl rfl (q_eqS rfl rfl rfl) ?_
    refine wla rfl rfl (q_pick_t (v := (.bool ((decide (r7.1 = ([5, 5, 5] : List UInt8)))))) rfl rfl rfl) ?_
    refine wlb rfl rfl (q_move (v := (.bool ((decide (r7.1 = ([5, 5, 5] : List UInt8)))))) rfl rfl) (fun hb10 => ?_) (fun hb10 => ?_)
    · replace H := (if_pos (of_decide_eq_true hb10)).symm.trans H
      refine wla rfl rfl (q_move (v := v7_1) rfl rfl) ?_
      refine wla rfl rfl (q_len rfl T47.sl rfl i7_1) ?_
      refine wla rfl rfl (q_eqI rfl rfl rfl) ?_
      refine wla rfl rfl (q_pick_t (v := (.bool ((decide ((r7.2.1.length : Int) = 1))))) rfl rfl rfl) ?_
      refine wlb rfl rfl (q_move (v := (.bool ((decide ((r7.2.1.length : Int) = 1))))) rfl rfl) (fun hb11 => ?_) (fun hb11 => ?_)
      · replace H := (if_pos (of_decide_eq_true hb11)).symm.trans H
        refine wla rfl rfl (q_move (v := v7_1) rfl rfl) ?_
        obtain ⟨c12, hc12, H⟩ := Option.bind_eq_some_iff.1 H
        refine wla rfl rfl (q_adr rfl T47 rfl rfl i7_1 hc12) ?_
        refine wlq rfl rfl (q_loadS rfl T47 rfl i7_1 hc12) ?_
        refine wla rfl rfl (q_eqI rfl rfl rfl) ?_
        refine wla rfl rfl (q_pick_t (v := (.bool ((decide (c12 = 2))))) rfl rfl rfl) ?_
        refine wla rfl rfl (q_assign (v := (.bool ((decide (c12 = 2))))) rfl rfl) ?_
        refine wl_nil ?_
        refine W_th ?_
        refine W_ret ?_
        obtain rfl := Option.some.inj H
        refine rt1 (.bool ((decide (c12 = 2)))) rfl rfl rfl rfl ?_
        exact ⟨rfl, e8⟩
      · replace H := (if_neg (of_decide_eq_false hb11)).symm.trans H
        refine wlk rfl rfl ?_
        refine wlk rfl rfl ?_
        refine wlk rfl rfl ?_
        refine wlk rfl rfl ?_
        refine wla rfl rfl (q_pick_f (v := (.bool false)) rfl rfl rfl) ?_
        refine wla rfl rfl (q_assign (v := (.bool false)) rfl rfl) ?_
        refine wl_nil ?_
        refine W_th ?_
        refine W_ret ?_
        obtain rfl := Option.some.inj H
        refine rt1 (.bool false) rfl rfl rfl rfl ?_
        exact ⟨rfl, e8⟩
    · replace H := (if_neg (of_decide_eq_false hb10)).symm.trans H
      refine wlk rfl rfl ?_
      refine wlk rfl rfl ?_
      refine wlk rfl rfl ?_
      refine wla rfl rfl (q_pick_f (v := (.bool false)) rfl rfl rfl) ?_
      refine wla rfl rfl (q_move (v := (.bool false)) rfl rfl) ?_
      refine wlk rfl rfl ?_
      refine wlk rfl rfl ?_
      refine wlk rfl rfl ?_
      refine wlk rfl rfl ?_
      refine wla rfl rfl (q_pick_f (v := (.bool false)) rfl rfl rfl) ?_
      refine wla rfl rfl (q_assign (v := (.bool false)) rfl rfl) ?_
      refine wl_nil ?_
      refine W_th ?_
      refine W_ret ?_
      obtain rfl := Option.some.inj H
      refine rt1 (.bool false) rfl rfl rfl rfl ?_
      exact ⟨rfl, e8⟩
  · replace H := (if_neg (of_decide_eq_false hb9)).symm.trans H
    refine wlk rfl rfl ?_
    refine wlk rfl rfl ?_
    refine wlk rfl rfl ?_
    refine wla rfl rfl (q_pick_f (v := (.bool false)) rfl rfl rfl) ?_
    refine wla rfl rfl (q_move (v := (.bool false)) rfl rfl) ?_
    refine wlk rfl rfl ?_
    refine wlk rfl rfl ?_
    refine wlk rfl rfl ?_
    refine wla rfl rfl (q_pick_f (v := (.bool false)) rfl rfl rfl) ?_
    refine wla rfl rfl (q_move (v := (.bool false)) rfl rfl) ?_
    refine wlk rfl rfl ?_
    refine wlk rfl rfl ?_
    refine wlk rfl rfl ?_
    refine wlk rfl rfl ?_
    refine wla rfl rfl (q_pick_f (v := (.bool false)) rfl rfl rfl) ?_
    refine wla rfl rfl (q_assign (v := (.bool false)) rfl rfl) ?_
    refine wl_nil ?_
    refine W_th ?_
    refine W_ret ?_
    obtain rfl := Option.some.inj H
    refine rt1 (.bool false) rfl rfl rfl rfl ?_
    exact ⟨rfl, e8⟩

/-! largesse/largesselaw10.lives -/
noncomputable def law10_lives  : Option Bool :=
((field_New ).bind fun r1 =>
((mend_Column r1 1 ([(1 : UInt8), (2 : UInt8), (3 : UInt8)] : List UInt8) ([(5 : UInt8), (5 : UInt8), (9 : UInt8)] : List UInt8) 1).bind fun r7 =>
((mend_Column r1 1 ([(1 : UInt8), (2 : UInt8)] : List UInt8) ([(5 : UInt8), (9 : UInt8)] : List UInt8) 1).bind fun r13 =>
(if r7.2 = 0 then
(if r7.1 = ([5] : List UInt8) then some (decide (r13.2 = 11))
else some false)
else some false))))
set_option maxRecDepth 100000 in
set_option maxHeartbeats 8000000 in
theorem law10_lives_calls  (r : Bool) (w0 : World) (H : law10_lives = some r) :
    Calls Try.prog 10 [].toArray w0 (fun e w' => e = .returned (.bool r) ∧ Ext w0 w') := by
  have hE : Ext w0 w0 := Ext.refl w0
  unfold law10_lives at H
  refine calls_W (n := 32) Try.func10 rfl rfl rfl ?_
  refine W_seq ?_
  refine W_reg (by kernel_rfl) ?_
  refine wla rfl rfl (q_assign (v := (.bool false)) rfl rfl) ?_
  refine wl_nil ?_
  refine W_th ?_
  refine W_seq ?_
  refine W_reg (by kernel_rfl) ?_
  obtain ⟨r1, hr1, H⟩ := Option.bind_eq_some_iff.1 H
  refine wls rfl rfl (stp_call (vs := []) Try.func12 rfl rfl rfl (ar0 ) (field_New_calls   r1 _ [] (Old.nil _)  hr1) ?_)
  rintro _ w1 ⟨v1, rfl, x1, i1_0⟩
  refine ⟨_, rfl, ?_⟩
  have e2 := hE.trans x1
  refine wla rfl rfl (q_assign (v := v1) rfl rfl) ?_
  refine wl_nil ?_
  refine W_th ?_
  refine W_seq ?_
  refine W_reg (by kernel_rfl) ?_
  refine wla rfl rfl (q_move (v := v1) rfl rfl) ?_
  refine wls rfl rfl (stp_lit (L := []) (R := (Sc u8)) [(u8 1), (u8 2), (u8 3)] ([(1 : UInt8), (2 : UInt8), (3 : UInt8)] : List UInt8) rfl T22 rfl (by exact ⟨rfl, (cst8 (1 : UInt8) rfl), rfl, (cst8 (2 : UInt8) rfl), rfl, (cst8 (3 : UInt8) rfl), trivial⟩) rfl (litC u8 (oneC_u8) (us := [(u8 1), (u8 2), (u8 3)]) (l := ([(1 : UInt8), (2 : UInt8), (3 : UInt8)] : List UInt8)) rfl) rfl (litS u8 (us := [(u8 1), (u8 2), (u8 3)]) (l := ([(1 : UInt8), (2 : UInt8), (3 : UInt8)] : List UInt8)) rfl) ?_)
  intro v3 w3 o3 n3 g3 l3
  have x3 := grown_ext g3
  have i3 : By w3 [] v3 (([(1 : UInt8), (2 : UInt8), (3 : UInt8)] : List UInt8)) := OwK.slk (Sc.stab _) _ o3 (fun k hk => (Old.nil _) k (n3 k hk)) (fun _ h => h.2)
  replace i1_0 := i1_0.lift (Lift.ext x3 _)
  have e4 := e2.trans x3
  refine wls rfl rfl (stp_lit (L := []) (R := (Sc u8)) [(u8 5), (u8 5), (u8 9)] ([(5 : UInt8), (5 : UInt8), (9 : UInt8)] : List UInt8) rfl T22 rfl (by exact ⟨rfl, (cst8 (5 : UInt8) rfl), rfl, (cst8 (5 : UInt8) rfl), rfl, (cst8 (9 : UInt8) rfl), trivial⟩) rfl (litC u8 (oneC_u8) (us := [(u8 5), (u8 5), (u8 9)]) (l := ([(5 : UInt8), (5 : UInt8), (9 : UInt8)] : List UInt8)) rfl) rfl (litS u8 (us := [(u8 5), (u8 5), (u8 9)]) (l := ([(5 : UInt8), (5 : UInt8), (9 : UInt8)] : List UInt8)) rfl) ?_)
  intro v5 w5 o5 n5 g5 l5
  have x5 := grown_ext g5
  have i5 : By w5 [] v5 (([(5 : UInt8), (5 : UInt8), (9 : UInt8)] : List UInt8)) := OwK.slk (Sc.stab _) _ o5 (fun k hk => (Old.nil _) k (n5 k hk)) (fun _ h => h.2)
  replace i1_0 := i1_0.lift (Lift.ext x5 _)
  replace i3 := i3.lift (Lift.ext x5 _)
  have e6 := e4.trans x5
  obtain ⟨r7, hr7, H⟩ := Option.bind_eq_some_iff.1 H
  refine wls rfl rfl (stp_call (vs := [v1, (i64 1), v3, v5, (i64 1)]) Try.func11 rfl rfl rfl (ar5 rfl rfl rfl rfl rfl) (mend_Column_calls r1 1 ([(1 : UInt8), (2 : UInt8), (3 : UInt8)] : List UInt8) ([(5 : UInt8), (5 : UInt8), (9 : UInt8)] : List UInt8) 1 v1 v3 v5 r7 _ (i1_0.lift (Lift.sub (fun _ _ => trivial))) (i3.lift (Lift.sub (fun _ _ => trivial))) (i5.lift (Lift.sub (fun _ _ => trivial))) hr7) ?_)
  rintro _ w7 ⟨v7_0, rfl, x7, n7_0, o7_0⟩
  refine ⟨_, rfl, ?_⟩
  have i7_0 : By w7 [] v7_0 r7.1 := SlK.avail o7_0 _ (fun k hk => (Old.nil _) k (n7_0 k hk))
  replace i1_0 := i1_0.lift (Lift.ext x7 _)
  replace i3 := i3.lift (Lift.ext x7 _)
  replace i5 := i5.lift (Lift.ext x7 _)
  have e8 := e6.trans x7
  refine wla rfl rfl (q_move (v := (.tuple #[v7_0, (i64 r7.2)])) rfl rfl) ?_
  refine wla rfl rfl (q_extract rfl rfl rfl) ?_
  refine wla rfl rfl (q_extract rfl rfl rfl) ?_
  refine wla rfl rfl (q_assign (v := v7_0) rfl rfl) ?_
  refine wla rfl rfl (q_assign (v := (i64 r7.2)) rfl rfl) ?_
  refine wl_nil ?_
  refine W_th ?_
  refine W_seq ?_
  refine W_reg (by kernel_rfl) ?_
  refine wla rfl rfl (q_move (v := v1) rfl rfl) ?_
  refine wls rfl rfl (stp_lit (L := []) (R := (Sc u8)) [(u8 1), (u8 2)] ([(1 : UInt8), (2 : UInt8)] : List UInt8) rfl T22 rfl (by exact ⟨rfl, (cst8 (1 : UInt8) rfl), rfl, (cst8 (2 : UInt8) rfl), trivial⟩) rfl (litC u8 (oneC_u8) (us := [(u8 1), (u8 2)]) (l := ([(1 : UInt8), (2 : UInt8)] : List UInt8)) rfl) rfl (litS u8 (us := [(u8 1), (u8 2)]) (l := ([(1 : UInt8), (2 : UInt8)] : List UInt8)) rfl) ?_)
  intro v9 w9 o9 n9 g9 l9
  have x9 := grown_ext g9
  have i9 : By w9 [] v9 (([(1 : UInt8), (2 : UInt8)] : List UInt8)) := OwK.slk (Sc.stab _) _ o9 (fun k hk => (Old.nil _) k (n9 k hk)) (fun _ h => h.2)
  replace i1_0 := i1_0.lift (Lift.ext x9 _)
  replace i3 := i3.lift (Lift.ext x9 _)
  replace i5 := i5.lift (Lift.ext x9 _)
  replace i7_0 := i7_0.lift (Lift.ext x9 _)
  have e10 := e8.trans x9
  refine wls rfl rfl (stp_lit (L := []) (R := (Sc u8)) [(u8 5), (u8 9)] ([(5 : UInt8), (9 : UInt8)] : List UInt8) rfl T22 rfl (by exact ⟨rfl, (cst8 (5 : UInt8) rfl), rfl, (cst8 (9 : UInt8) rfl), trivial⟩) rfl (litC u8 (oneC_u8) (us := [(u8 5), (u8 9)]) (l := ([(5 : UInt8), (9 : UInt8)] : List UInt8)) rfl) rfl (litS u8 (us := [(u8 5), (u8 9)]) (l := ([(5 : UInt8), (9 : UInt8)] : List UInt8)) rfl) ?_)
  intro v11 w11 o11 n11 g11 l11
  have x11 := grown_ext g11
  have i11 : By w11 [] v11 (([(5 : UInt8), (9 : UInt8)] : List UInt8)) := OwK.slk (Sc.stab _) _ o11 (fun k hk => (Old.nil _) k (n11 k hk)) (fun _ h => h.2)
  replace i1_0 := i1_0.lift (Lift.ext x11 _)
  replace i3 := i3.lift (Lift.ext x11 _)
  replace i5 := i5.lift (Lift.ext x11 _)
  replace i7_0 := i7_0.lift (Lift.ext x11 _)
  replace i9 := i9.lift (Lift.ext x11 _)
  have e12 := e10.trans x11
  obtain ⟨r13, hr13, H⟩ := Option.bind_eq_some_iff.1 H
  refine wls rfl rfl (stp_call (vs := [v1, (i64 1), v9, v11, (i64 1)]) Try.func11 rfl rfl rfl (ar5 rfl rfl rfl rfl rfl) (mend_Column_calls r1 1 ([(1 : UInt8), (2 : UInt8)] : List UInt8) ([(5 : UInt8), (9 : UInt8)] : List UInt8) 1 v1 v9 v11 r13 _ (i1_0.lift (Lift.sub (fun _ _ => trivial))) (i9.lift (Lift.sub (fun _ _ => trivial))) (i11.lift (Lift.sub (fun _ _ => trivial))) hr13) ?_)
  rintro _ w13 ⟨v13_0, rfl, x13, n13_0, o13_0⟩
  refine ⟨_, rfl, ?_⟩
  have i13_0 : By w13 [] v13_0 r13.1 := SlK.avail o13_0 _ (fun k hk => (Old.nil _) k (n13_0 k hk))
  replace i1_0 := i1_0.lift (Lift.ext x13 _)
  replace i3 := i3.lift (Lift.ext x13 _)
  replace i5 := i5.lift (Lift.ext x13 _)
  replace i7_0 := i7_0.lift (Lift.ext x13 _)
  replace i9 := i9.lift (Lift.ext x13 _)
  replace i11 := i11.lift (Lift.ext x13 _)
  have e14 := e12.trans x13
  refine wla rfl rfl (q_move (v := (.tuple #[v13_0, (i64 r13.2)])) rfl rfl) ?_
  refine wla rfl rfl (q_extract rfl rfl rfl) ?_
  refine wla rfl rfl (q_extract rfl rfl rfl) ?_
  refine wla rfl rfl (q_assign (v := v13_0) rfl rfl) ?_
  refine wla rfl rfl (q_assign (v := (i64 r13.2)) rfl rfl) ?_
  refine wl_nil ?_
  refine W_th ?_
  refine W_seq ?_
  refine W_reg (by kernel_rfl) ?_
  refine wla rfl rfl (q_move (v := (i64 r7.2)) rfl rfl) ?_
  refine wla rfl rfl (q_eqI rfl rfl rfl) ?_
  refine wlb rfl rfl (q_move (v := (.bool ((decide (r7.2 = 0))))) rfl rfl) (fun hb15 => ?_) (fun hb15 => ?_)
  · replace H := (if_pos (of_decide_eq_true hb15)).symm.trans H
    refine wla rfl rfl (q_move (v := v7_0) rfl rfl) ?_
    refine wlq rfl rfl (q_str rfl T22 rfl rfl rfl i7_0) ?_
    refine wla rfl rfl (q_eqS rfl rfl rfl) ?_
    refine wla rfl rfl (q_pick_t (v := (.bool ((decide (r7.1 = ([5] : List UInt8)))))) rfl rfl rfl) ?_
    refine wlb rfl rfl (q_move (v := (.bool ((decide (r7.1 = ([5] : List UInt8)))))) rfl rfl) (fun hb16 => ?_) (fun hb16 => ?_)
    · replace H := (if_pos (of_decide_eq_true hb16)).symm.trans H
      refine wla rfl rfl (q_move (v := (i64 r13.2)) rfl rfl) ?_
      refine wla rfl rfl (q_eqI rfl rfl rfl) ?_
      refine wla rfl rfl (q_pick_t (v := (.bool ((decide (r13.2 = 11))))) rfl rfl rfl) ?_
      refine wla rfl rfl (q_assign (v := (.bool ((decide (r13.2 = 11))))) rfl rfl) ?_
      refine wl_nil ?_
      refine W_th ?_
      refine W_ret ?_
      obtain rfl := Option.some.inj H
      refine rt1 (.bool ((decide (r13.2 = 11)))) rfl rfl rfl rfl ?_
      exact ⟨rfl, e14⟩
    · replace H := (if_neg (of_decide_eq_false hb16)).symm.trans H
      refine wlk rfl rfl ?_
      refine wlk rfl rfl ?_
      refine wla rfl rfl (q_pick_f (v := (.bool false)) rfl rfl rfl) ?_
      refine wla rfl rfl (q_assign (v := (.bool false)) rfl rfl) ?_
      refine wl_nil ?_
      refine W_th ?_
      refine W_ret ?_
      obtain rfl := Option.some.inj H
      refine rt1 (.bool false) rfl rfl rfl rfl ?_
      exact ⟨rfl, e14⟩
  · replace H := (if_neg (of_decide_eq_false hb15)).symm.trans H
    refine wlk rfl rfl ?_
    refine wlk rfl rfl ?_
    refine wlk rfl rfl ?_
    refine wla rfl rfl (q_pick_f (v := (.bool false)) rfl rfl rfl) ?_
    refine wla rfl rfl (q_move (v := (.bool false)) rfl rfl) ?_
    refine wlk rfl rfl ?_
    refine wlk rfl rfl ?_
    refine wla rfl rfl (q_pick_f (v := (.bool false)) rfl rfl rfl) ?_
    refine wla rfl rfl (q_assign (v := (.bool false)) rfl rfl) ?_
    refine wl_nil ?_
    refine W_th ?_
    refine W_ret ?_
    obtain rfl := Option.some.inj H
    refine rt1 (.bool false) rfl rfl rfl rfl ?_
    exact ⟨rfl, e14⟩

/-! largesse/largesselaw10.spoil -/
noncomputable def law10_spoil (a0ys : List UInt8) (a1where : List UInt8) (a2by : List UInt8) (a3most : Int) : Option (List UInt8 × Int) :=
((appL (([] : List UInt8)) a0ys).bind fun c4 =>
((iterC (fun s7 : List UInt8 × Int × Int =>
(if s7.2.2 < (a1where.length : Int) then
((idx a1where s7.2.2).bind fun c10 =>
((remI ((c10.toNat : Int)) ((s7.1.length : Int))).bind fun c11 =>
(if s7.2.1 < a3most then
(if s7.2.2 < (a2by.length : Int) then
((idx a2by s7.2.2).bind fun c16 =>
(if c16 = (0 : UInt8) then some (.inl (s7.1, s7.2.1, (wI (s7.2.2 + 1))))
else
((idx s7.1 c11).bind fun c18 =>
((idx a0ys c11).bind fun c19 =>
(if c18 = c19 then
((idx s7.1 c11).bind fun c23 =>
((idx a2by s7.2.2).bind fun c24 => some (.inl ((s7.1.set (c11 : Int).toNat ((c23 ^^^ c24))), (wI (s7.2.1 + 1)), (wI (s7.2.2 + 1))))))
else some (.inl (s7.1, s7.2.1, (wI (s7.2.2 + 1)))))))))
else some (.inl (s7.1, s7.2.1, (wI (s7.2.2 + 1)))))
else some (.inl (s7.1, s7.2.1, (wI (s7.2.2 + 1)))))))
else some (.inr (s7.1, s7.2.1)))) (c4, 0, 0)).bind fun x7 => some (x7.1, x7.2)))
set_option maxRecDepth 100000 in
set_option maxHeartbeats 8000000 in
theorem law10_spoil_calls (a0ys : List UInt8) (a1where : List UInt8) (a2by : List UInt8) (a3most : Int) (p0 : Value) (p1 : Value) (p2 : Value) (r : List UInt8 × Int) (w0 : World) (hp0 : By w0 [] p0 a0ys) (hp1 : By w0 [] p1 a1where) (hp2 : By w0 [] p2 a2by) (H : law10_spoil a0ys a1where a2by a3most = some r) :
    Calls Try.prog 18 [p0, p1, p2, (i64 a3most)].toArray w0 (fun e w' => ∃ u0 : Value, e = .returned (.tuple #[u0, (i64 r.2)]) ∧ Ext w0 w' ∧ Nw w0 u0 ∧ OwK (Sc u8) w' [] 5 u0 r.1) := by
  have hE : Ext w0 w0 := Ext.refl w0
  unfold law10_spoil at H
  refine calls_W (n := 72) Try.func18 rfl rfl rfl ?_
  refine W_seq ?_
  refine W_reg (by kernel_rfl) ?_
  refine wla rfl rfl (q_assign (v := (.slice none 0 0)) rfl rfl) ?_
  refine wla rfl rfl (q_assign (v := (i64 0)) rfl rfl) ?_
  refine wl_nil ?_
  refine W_th ?_
  refine W_seq ?_
  refine W_reg (by kernel_rfl) ?_
  refine wls rfl rfl (stp_lit (L := []) (R := (Sc u8)) [] ([] : List UInt8) rfl T22 rfl (by exact trivial) rfl (litC u8 (oneC_u8) (us := []) (l := ([] : List UInt8)) rfl) rfl (litS u8 (us := []) (l := ([] : List UInt8)) rfl) ?_)
  intro v1 w1 o1 n1 g1 l1
  have x1 := grown_ext g1
  have n3 := Nw.ext hE n1
  have e2 := hE.trans x1
  refine wla rfl rfl (q_move (v := p0) rfl rfl) ?_
  obtain ⟨c4, hc4, H⟩ := Option.bind_eq_some_iff.1 H
  refine wls rfl rfl (stp_append (R := (Sc u8)) (v := v1) (u := p0) (Sc.stab _) [] [] rfl T22 rfl rfl o1 (hp0.lift (Lift.ext e2 _)) (fun _ _ h => h) hc4 oc_u8 ?_)
  intro v4 w4 o4 g4 nx4 l4
  have e5 := e2.grown g4 n3
  have n6 := Nw.nxt e2 n3 nx4
  refine wla rfl rfl (q_assign (v := v4) rfl rfl) ?_
  refine wl_nil ?_
  refine W_th ?_
  refine W_seq ?_
  refine W_reg (by kernel_rfl) ?_
  refine wla rfl rfl (q_assign (v := (i64 0)) rfl rfl) ?_
  refine wl_nil ?_
  refine W_th ?_
  refine W_seq ?_
  refine W_seq ?_
  refine W_reg (by kernel_rfl) ?_
  refine wla rfl rfl (q_move (v := p1) rfl rfl) ?_
  refine wla rfl rfl (q_len rfl T22.sl rfl (hp1.lift (Lift.ext e5 _))) ?_
  refine wla rfl rfl (q_move (v := (i64 0)) rfl rfl) ?_
  refine wl_nil ?_
  refine W_th ?_
  obtain ⟨x7, G7, H⟩ := Option.bind_eq_some_iff.1 H
  refine W_mid (fun f w => f 10 = v4 ∧ f 11 = (i64 x7.2) ∧ f 72 = undef ∧ Ext w0 w ∧ OwK (Sc u8) w [v4] 5 v4 x7.1 ∧ Nw w0 v4) ?_ ?_
  · refine W_block ?_
    refine W_loop (fun s7 f w => f 0 = p0 ∧ f 2 = p2 ∧ f 3 = (i64 a3most) ∧ f 10 = v4 ∧ f 11 = (i64 s7.2.1) ∧ f 18 = p1 ∧ f 19 = (i64 ((a1where.length : Int))) ∧ f 20 = (i64 s7.2.2) ∧ f 72 = undef ∧ Ext w0 w ∧ OwK (Sc u8) w [v4] 5 v4 s7.1 ∧ Nw w0 v4) G7 ?_ ?_
    · exact ⟨rfl, rfl, rfl, rfl, rfl, rfl, rfl, rfl, rfl, e5, o4, n6⟩
    · rintro s7 _ _ w8 ⟨s0_8, s2_8, s3_8, s10_8, s11_8, s18_8, s19_8, s20_8, s72_8, hE8, o0_8, n0_8⟩ H7 hr7
      refine W_seq ?_
      refine W_reg (by kernel_rfl) ?_
      refine wla rfl rfl (q_ltI rfl s20_8 s19_8) ?_
      refine wl_nil ?_
      refine W_th ?_
      refine W_seq ?_
      refine W_cond _ rfl rfl (fun hb9 => ?_) (fun hb9 => ?_)
      · replace H7 := (if_pos (of_decide_eq_true hb9)).symm.trans H7
        refine W_skip ?_
        refine W_th ?_
        refine W_seq ?_
        refine W_block ?_
        refine W_seq ?_
        refine W_reg (by kernel_rfl) ?_
        refine wla rfl rfl (q_move (v := (i64 s7.2.2)) rfl s20_8) ?_
        obtain ⟨c10, hc10, H7⟩ := Option.bind_eq_some_iff.1 H7
        refine wla rfl rfl (q_adr rfl T22 s18_8 s20_8 (hp1.lift (Lift.ext hE8 _)) hc10) ?_
        refine wlq rfl rfl (q_loadS rfl T22 rfl (hp1.lift (Lift.ext hE8 _)) hc10) ?_
        refine wla rfl rfl (q_assign (v := (i64 s7.2.2)) rfl rfl) ?_
        refine wla rfl rfl (q_assign (v := (u8 c10)) rfl rfl) ?_
        refine wl_nil ?_
        refine W_th ?_
        refine W_seq ?_
        refine W_reg (by kernel_rfl) ?_
        refine wla rfl rfl (q_move (v := (u8 c10)) rfl rfl) ?_
        refine wla rfl rfl (q_cvtI8 rfl rfl rfl rfl) ?_
        refine wla rfl rfl (q_move (v := v4) rfl s10_8) ?_
        refine wla rfl rfl (q_len rfl T22.sl rfl (o0_8.rd (Sc.stab _))) ?_
        obtain ⟨c11, hc11, H7⟩ := Option.bind_eq_some_iff.1 H7
        refine wla rfl rfl (q_remI rfl rfl rfl hc11) ?_
        refine wla rfl rfl (q_assign (v := (i64 c11)) rfl rfl) ?_
        refine wl_nil ?_
        refine W_th ?_
        refine W_seq ?_
        refine W_draw [13, 20, 24] [(0, 0), (1, 0), (2, 0), (3, 0), (4, 0), (5, 0), (6, 0), (7, 0), (8, 0), (9, 0), (10, 0), (11, 0), (12, 0), (13, 1), (14, 0), (15, 0), (16, 0), (17, 0), (18, 0), (19, 0), (20, 1), (21, 0), (22, 0), (23, 0), (24, 1), (25, 0), (26, 0)] mixed (by kernel_rfl) (by kernel_rfl) (by kernel_rfl) (by kernel_rfl) ?_
        have x12 := Ext.drew w8
        replace o0_8 := o0_8.extL (Sc.stab _) x12 (Lift.ext x12 _)
        have e13 := hE8.trans x12
        refine wsa rfl rfl rfl (q_move (v := (i64 s7.2.1)) rfl s11_8) ?_
        refine wsa rfl rfl rfl (q_move (v := (i64 a3most)) rfl s3_8) ?_
        refine wsa rfl rfl rfl (q_ltI rfl rfl rfl) ?_
        refine wsb rfl rfl rfl (q_move (v := (.bool ((decide (s7.2.1 < a3most))))) rfl rfl) (fun hb14 => ?_) (fun hb14 => ?_)
        · replace H7 := (if_pos (of_decide_eq_true hb14)).symm.trans H7
          refine wsa rfl rfl rfl (q_move (v := (i64 s7.2.2)) rfl rfl) ?_
          refine wsa rfl rfl rfl (q_move (v := p2) rfl s2_8) ?_
          refine wsa rfl rfl rfl (q_len rfl T22.sl rfl (hp2.lift (Lift.ext e13 _))) ?_
          refine wsa rfl rfl rfl (q_ltI rfl rfl rfl) ?_
          refine wsa rfl rfl rfl (q_pick_t (v := (.bool ((decide (s7.2.2 < (a2by.length : Int)))))) rfl rfl rfl) ?_
          refine wsb rfl rfl rfl (q_move (v := (.bool ((decide (s7.2.2 < (a2by.length : Int)))))) rfl rfl) (fun hb15 => ?_) (fun hb15 => ?_)
          · replace H7 := (if_pos (of_decide_eq_true hb15)).symm.trans H7
            refine wsa rfl rfl rfl (q_move (v := p2) rfl s2_8) ?_
            refine wsa rfl rfl rfl (q_move (v := (i64 s7.2.2)) rfl rfl) ?_
            obtain ⟨c16, hc16, H7⟩ := Option.bind_eq_some_iff.1 H7
            refine wsa rfl rfl rfl (q_adr rfl T22 rfl rfl (hp2.lift (Lift.ext e13 _)) hc16) ?_
            refine wsq rfl rfl rfl (q_loadS rfl T22 rfl (hp2.lift (Lift.ext e13 _)) hc16) ?_
            refine wsa rfl rfl rfl (q_ne8 rfl rfl (cst8 (0 : UInt8) rfl)) ?_
            refine wsa rfl rfl rfl (q_pick_t (v := (.bool ((!decide (c16 = (0 : UInt8)))))) rfl rfl rfl) ?_
            refine wsb rfl rfl rfl (q_move (v := (.bool ((!decide (c16 = (0 : UInt8)))))) rfl rfl) (fun hb17 => ?_) (fun hb17 => ?_)
            · replace H7 := (if_neg (ndec_t hb17)).symm.trans H7
              refine wsa rfl rfl rfl (q_move (v := v4) rfl s10_8) ?_
              refine wsa rfl rfl rfl (q_move (v := (i64 c11)) rfl rfl) ?_
              obtain ⟨c18, hc18, H7⟩ := Option.bind_eq_some_iff.1 H7
              refine wsa rfl rfl rfl (q_adr rfl T22 rfl rfl (o0_8.rd (Sc.stab _)) hc18) ?_
              refine wsq rfl rfl rfl (q_loadS rfl T22 rfl (o0_8.rd (Sc.stab _)) hc18) ?_
              refine wsa rfl rfl rfl (q_move (v := p0) rfl s0_8) ?_
              refine wsa rfl rfl rfl (q_move (v := (i64 c11)) rfl rfl) ?_
              obtain ⟨c19, hc19, H7⟩ := Option.bind_eq_some_iff.1 H7
              refine wsa rfl rfl rfl (q_adr rfl T22 rfl rfl (hp0.lift (Lift.ext e13 _)) hc19) ?_
              refine wsq rfl rfl rfl (q_loadS rfl T22 rfl (hp0.lift (Lift.ext e13 _)) hc19) ?_
              refine wsa rfl rfl rfl (q_eq8 rfl rfl rfl) ?_
              refine wsa rfl rfl rfl (q_pick_t (v := (.bool ((decide (c18 = c19))))) rfl rfl rfl) ?_
              refine ws_nil ?_
              refine W_th ?_
              refine W_cond _ rfl rfl (fun hb20 => ?_) (fun hb20 => ?_)
              · replace H7 := (if_pos (of_decide_eq_true hb20)).symm.trans H7
                refine W_seq ?_
                refine W_draw [3, 7] [(0, 0), (1, 0), (2, 0), (3, 1), (4, 0), (5, 0), (6, 0), (7, 1), (8, 0), (9, 0), (10, 2)] mixed (by kernel_rfl) (by kernel_rfl) (by kernel_rfl) (by kernel_rfl) ?_
                have x21 := Ext.drew (World.drew w8)
                replace o0_8 := o0_8.extL (Sc.stab _) x21 (Lift.ext x21 _)
                have e22 := e13.trans x21
                refine wsa rfl rfl rfl (q_move (v := v4) rfl s10_8) ?_
                refine wsa rfl rfl rfl (q_move (v := (i64 c11)) rfl rfl) ?_
                obtain ⟨c23, hc23, H7⟩ := Option.bind_eq_some_iff.1 H7
                refine wsa rfl rfl rfl (q_adr rfl T22 rfl rfl (o0_8.rd (Sc.stab _)) hc23) ?_
                refine wsq rfl rfl rfl (q_loadS rfl T22 rfl (o0_8.rd (Sc.stab _)) hc23) ?_
                refine wsa rfl rfl rfl (q_move (v := p2) rfl s2_8) ?_
                refine wsa rfl rfl rfl (q_move (v := (i64 s7.2.2)) rfl rfl) ?_
                obtain ⟨c24, hc24, H7⟩ := Option.bind_eq_some_iff.1 H7
                refine wsa rfl rfl rfl (q_adr rfl T22 rfl rfl (hp2.lift (Lift.ext e22 _)) hc24) ?_
                refine wsq rfl rfl rfl (q_loadS rfl T22 rfl (hp2.lift (Lift.ext e22 _)) hc24) ?_
                refine wsa rfl rfl rfl (q_xor8 rfl rfl rfl) ?_
                refine wsa rfl rfl rfl (q_adr rfl T22 rfl rfl (o0_8.rd (Sc.stab _)) hc23) ?_
                refine wsn rfl (by kernel_rfl) rfl rfl (stp_store (R := (Sc u8)) (u := (u8 ((c23 ^^^ c24)))) (Sc.stab _) [] [] rfl T22 rfl rfl o0_8 (put_of ((c23 ^^^ c24)) hc23) rfl rfl ?_)
                intro w25 o25 g25 l25
                have e26 := e22.grown g25 n0_8
                refine ws_nil ?_
                refine W_th ?_
                refine W_reg (by kernel_rfl) ?_
                refine wla rfl rfl (q_move (v := (i64 s7.2.1)) rfl s11_8) ?_
                refine wla rfl rfl (q_addI rfl rfl rfl) ?_
                refine wla rfl rfl (q_assign (v := (i64 ((wI (s7.2.1 + 1))))) rfl rfl) ?_
                refine wl_nil ?_
                refine bk_n ?_
                refine W_th ?_
                refine W_reg (by kernel_rfl) ?_
                refine wla rfl rfl (q_addI rfl s20_8 rfl) ?_
                refine wla rfl rfl (q_move (v := (i64 ((wI (s7.2.2 + 1))))) rfl rfl) ?_
                refine wl_nil ?_
                obtain rfl := Option.some.inj H7
                exact ⟨_, rfl, s0_8, s2_8, s3_8, s10_8, rfl, s18_8, s19_8, rfl, s72_8, e26, o25, n0_8⟩
              · replace H7 := (if_neg (of_decide_eq_false hb20)).symm.trans H7
                refine W_skip ?_
                refine bk_n ?_
                refine W_th ?_
                refine W_reg (by kernel_rfl) ?_
                refine wla rfl rfl (q_addI rfl s20_8 rfl) ?_
                refine wla rfl rfl (q_move (v := (i64 ((wI (s7.2.2 + 1))))) rfl rfl) ?_
                refine wl_nil ?_
                obtain rfl := Option.some.inj H7
                exact ⟨_, rfl, s0_8, s2_8, s3_8, s10_8, s11_8, s18_8, s19_8, rfl, s72_8, e13, o0_8, n0_8⟩
            · replace H7 := (if_pos (ndec_f hb17)).symm.trans H7
              refine wsk rfl rfl rfl ?_
              refine wsk rfl rfl rfl ?_
              refine wsk rfl rfl rfl ?_
              refine wsk rfl rfl rfl ?_
              refine wsk rfl rfl rfl ?_
              refine wsk rfl rfl rfl ?_
              refine wsk rfl rfl rfl ?_
              refine wsk rfl rfl rfl ?_
              refine wsk rfl rfl rfl ?_
              refine wsa rfl rfl rfl (q_pick_f (v := (.bool false)) rfl rfl rfl) ?_
              refine ws_nil ?_
              refine W_th ?_
              refine W_cond false rfl rfl (fun hb => by cases hb) (fun _ => ?_)
              refine W_skip ?_
              refine bk_n ?_
              refine W_th ?_
              refine W_reg (by kernel_rfl) ?_
              refine wla rfl rfl (q_addI rfl s20_8 rfl) ?_
              refine wla rfl rfl (q_move (v := (i64 ((wI (s7.2.2 + 1))))) rfl rfl) ?_
              refine wl_nil ?_
              obtain rfl := Option.some.inj H7
              exact ⟨_, rfl, s0_8, s2_8, s3_8, s10_8, s11_8, s18_8, s19_8, rfl, s72_8, e13, o0_8, n0_8⟩
          · replace H7 := (if_neg (of_decide_eq_false hb15)).symm.trans H7
            refine wsk rfl rfl rfl ?_
            refine wsk rfl rfl rfl ?_
            refine wsk rfl rfl rfl ?_
            refine wsk rfl rfl rfl ?_
            refine wsk rfl rfl rfl ?_
            refine wsa rfl rfl rfl (q_pick_f (v := (.bool false)) rfl rfl rfl) ?_
            refine wsa rfl rfl rfl (q_move (v := (.bool false)) rfl rfl) ?_
            refine wsk rfl rfl rfl ?_
            refine wsk rfl rfl rfl ?_
            refine wsk rfl rfl rfl ?_
            refine wsk rfl rfl rfl ?_
            refine wsk rfl rfl rfl ?_
            refine wsk rfl rfl rfl ?_
            refine wsk rfl rfl rfl ?_
            refine wsk rfl rfl rfl ?_
            refine wsk rfl rfl rfl ?_
            refine wsa rfl rfl rfl (q_pick_f (v := (.bool false)) rfl rfl rfl) ?_
            refine ws_nil ?_
            refine W_th ?_
            refine W_cond false rfl rfl (fun hb => by cases hb) (fun _ => ?_)
            refine W_skip ?_
            refine bk_n ?_
            refine W_th ?_
            refine W_reg (by kernel_rfl) ?_
            refine wla rfl rfl (q_addI rfl s20_8 rfl) ?_
            refine wla rfl rfl (q_move (v := (i64 ((wI (s7.2.2 + 1))))) rfl rfl) ?_
            refine wl_nil ?_
            obtain rfl := Option.some.inj H7
            exact ⟨_, rfl, s0_8, s2_8, s3_8, s10_8, s11_8, s18_8, s19_8, rfl, s72_8, e13, o0_8, n0_8⟩
        · replace H7 := (if_neg (of_decide_eq_false hb14)).symm.trans H7
          refine wsk rfl rfl rfl ?_
          refine wsk rfl rfl rfl ?_
          refine wsk rfl rfl rfl ?_
          refine wsk rfl rfl rfl ?_
          refine wsa rfl rfl rfl (q_pick_f (v := (.bool false)) rfl rfl rfl) ?_
          refine wsa rfl rfl rfl (q_move (v := (.bool false)) rfl rfl) ?_
          refine wsk rfl rfl rfl ?_
          refine wsk rfl rfl rfl ?_
          refine wsk rfl rfl rfl ?_
          refine wsk rfl rfl rfl ?_
          refine wsk rfl rfl rfl ?_
          refine wsa rfl rfl rfl (q_pick_f (v := (.bool false)) rfl rfl rfl) ?_
          refine wsa rfl rfl rfl (q_move (v := (.bool false)) rfl rfl) ?_
          refine wsk rfl rfl rfl ?_
          refine wsk rfl rfl rfl ?_
          refine wsk rfl rfl rfl ?_
          refine wsk rfl rfl rfl ?_
          refine wsk rfl rfl rfl ?_
          refine wsk rfl rfl rfl ?_
          refine wsk rfl rfl rfl ?_
          refine wsk rfl rfl rfl ?_
          refine wsk rfl rfl rfl ?_
          refine wsa rfl rfl rfl (q_pick_f (v := (.bool false)) rfl rfl rfl) ?_
          refine ws_nil ?_
          refine W_th ?_
          refine W_cond false rfl rfl (fun hb => by cases hb) (fun _ => ?_)
          refine W_skip ?_
          refine bk_n ?_
          refine W_th ?_
          refine W_reg (by kernel_rfl) ?_
          refine wla rfl rfl (q_addI rfl s20_8 rfl) ?_
          refine wla rfl rfl (q_move (v := (i64 ((wI (s7.2.2 + 1))))) rfl rfl) ?_
          refine wl_nil ?_
          obtain rfl := Option.some.inj H7
          exact ⟨_, rfl, s0_8, s2_8, s3_8, s10_8, s11_8, s18_8, s19_8, rfl, s72_8, e13, o0_8, n0_8⟩
      · replace H7 := (if_neg (of_decide_eq_false hb9)).symm.trans H7
        refine W_exit ?_
        refine th_x ?_
        obtain rfl := Option.some.inj H7
        obtain rfl := hr7 _ rfl
        refine th_x ?_
        refine bk_x ?_
        exact ⟨s10_8, s11_8, s72_8, hE8, o0_8, n0_8⟩
  · rintro _ w28 ⟨s10_28, s11_28, s72_28, hE28, o0_28, n0_28⟩
    refine W_th ?_
    refine W_seq ?_
    refine W_reg (by kernel_rfl) ?_
    refine wla rfl rfl (q_move (v := v4) rfl s10_28) ?_
    refine wla rfl rfl (q_move (v := (i64 x7.2)) rfl s11_28) ?_
    refine wla rfl rfl (q_assign (v := v4) rfl rfl) ?_
    refine wla rfl rfl (q_assign (v := (i64 x7.2)) rfl rfl) ?_
    refine wl_nil ?_
    refine W_th ?_
    refine W_ret ?_
    obtain rfl := Option.some.inj H
    refine rt2 v4 (i64 x7.2) rfl rfl rfl rfl rfl s72_28 ?_
    exact ⟨v4, rfl, hE28, n0_28, (o0_28.weak (Sc.stab _) (fun _ _ => trivial))⟩

end Gk

/- Printed by gen.py: for each Go function a pure function, and that the Go code comes to it. No condition beside the equation that says what the pure function gives. -/


set_option linter.unusedVariables false
set_option linter.unusedSimpArgs false
namespace Gk
open Go Go.Proofs

/-! largesse/largesseref30.Weight -/
noncomputable def ref30_Weight (a0xs : List UInt8) (a1i : Int) : Option UInt8 :=
((iterC (fun s1 : UInt8 × Int =>
(if s1.2 < (a0xs.length : Int) then
(if s1.2 = a1i then some (.inl (s1.1, (wI (s1.2 + 1))))
else
((idx a0xs a1i).bind fun c7 =>
((idx a0xs s1.2).bind fun c8 =>
((ref02_Mul s1.1 (c7 ^^^ c8)).bind fun r9 => some (.inl (r9, (wI (s1.2 + 1))))))))
else some (.inr s1.1))) ((1 : UInt8), 0)).bind fun x1 =>
((ref02_Inv x1).bind fun r13 => some r13))
set_option maxRecDepth 100000 in
set_option maxHeartbeats 8000000 in
theorem ref30_Weight_calls (a0xs : List UInt8) (a1i : Int) (p0 : Value) (r : UInt8) (w0 : World) (hp0 : By w0 [] p0 a0xs) (H : ref30_Weight a0xs a1i = some r) :
    Calls Try.prog 57 [p0, (i64 a1i)].toArray w0 (fun e w' => e = .returned (u8 r) ∧ Ext w0 w') := by
  have hE : Ext w0 w0 := Ext.refl w0
  unfold ref30_Weight at H
  refine calls_W (n := 29) Try.func57 rfl rfl rfl ?_
  refine W_seq ?_
  refine W_reg (by kernel_rfl) ?_
  refine wla rfl rfl (q_assign (v := (u8 0)) rfl (cst8 (0 : UInt8) rfl)) ?_
  refine wl_nil ?_
  refine W_th ?_
  refine W_seq ?_
  refine W_reg (by kernel_rfl) ?_
  refine wla rfl rfl (q_assign (v := (u8 1)) rfl (cst8 (1 : UInt8) rfl)) ?_
  refine wl_nil ?_
  refine W_th ?_
  refine W_seq ?_
  refine W_seq ?_
  refine W_reg (by kernel_rfl) ?_
  refine wla rfl rfl (q_move (v := p0) rfl rfl) ?_
  refine wla rfl rfl (q_len rfl T22.sl rfl (hp0.lift (Lift.ext hE _))) ?_
  refine wla rfl rfl (q_move (v := (i64 0)) rfl rfl) ?_
  refine wl_nil ?_
  refine W_th ?_
  obtain ⟨x1, G1, H⟩ := Option.bind_eq_some_iff.1 H
  refine W_mid (fun f w => f 5 = (u8 x1) ∧ f 29 = undef ∧ Ext w0 w) ?_ ?_
  · refine W_block ?_
    refine W_loop (fun s1 f w => f 0 = p0 ∧ f 1 = (i64 a1i) ∧ f 5 = (u8 s1.1) ∧ f 8 = (i64 ((a0xs.length : Int))) ∧ f 9 = (i64 s1.2) ∧ f 29 = undef ∧ Ext w0 w) G1 ?_ ?_
    · exact ⟨rfl, rfl, rfl, rfl, rfl, rfl, hE⟩
    · rintro s1 _ _ w2 ⟨s0_2, s1_2, s5_2, s8_2, s9_2, s29_2, hE2⟩ H1 hr1
      refine W_seq ?_
      refine W_reg (by kernel_rfl) ?_
      refine wla rfl rfl (q_ltI rfl s9_2 s8_2) ?_
      refine wl_nil ?_
      refine W_th ?_
      refine W_seq ?_
      refine W_cond _ rfl rfl (fun hb3 => ?_) (fun hb3 => ?_)
      · replace H1 := (if_pos (of_decide_eq_true hb3)).symm.trans H1
        refine W_skip ?_
        refine W_th ?_
        refine W_seq ?_
        refine W_block ?_
        refine W_seq ?_
        refine W_reg (by kernel_rfl) ?_
        refine wla rfl rfl (q_move (v := (i64 s1.2)) rfl s9_2) ?_
        refine wla rfl rfl (q_assign (v := (i64 s1.2)) rfl rfl) ?_
        refine wl_nil ?_
        refine W_th ?_
        refine W_seq ?_
        refine W_reg (by kernel_rfl) ?_
        refine wla rfl rfl (q_move (v := (i64 s1.2)) rfl rfl) ?_
        refine wla rfl rfl (q_move (v := (i64 a1i)) rfl s1_2) ?_
        refine wla rfl rfl (q_neI rfl rfl rfl) ?_
        refine wl_nil ?_
        refine W_th ?_
        refine W_cond _ rfl rfl (fun hb4 => ?_) (fun hb4 => ?_)
        · replace H1 := (if_neg (ndec_t hb4)).symm.trans H1
          refine W_draw [4, 8] [(0, 0), (1, 0), (2, 0), (3, 0), (4, 1), (5, 0), (6, 0), (7, 0), (8, 1), (9, 0), (10, 2), (11, 0)] mixed (by kernel_rfl) (by kernel_rfl) (by kernel_rfl) (by kernel_rfl) ?_
          have x5 := Ext.drew w2
          have e6 := hE2.trans x5
          refine wsa rfl rfl rfl (q_move (v := (u8 s1.1)) rfl s5_2) ?_
          refine wsa rfl rfl rfl (q_move (v := p0) rfl s0_2) ?_
          refine wsa rfl rfl rfl (q_move (v := (i64 a1i)) rfl s1_2) ?_
          obtain ⟨c7, hc7, H1⟩ := Option.bind_eq_some_iff.1 H1
          refine wsa rfl rfl rfl (q_adr rfl T22 rfl rfl (hp0.lift (Lift.ext e6 _)) hc7) ?_
          refine wsq rfl rfl rfl (q_loadS rfl T22 rfl (hp0.lift (Lift.ext e6 _)) hc7) ?_
          refine wsa rfl rfl rfl (q_move (v := p0) rfl s0_2) ?_
          refine wsa rfl rfl rfl (q_move (v := (i64 s1.2)) rfl rfl) ?_
          obtain ⟨c8, hc8, H1⟩ := Option.bind_eq_some_iff.1 H1
          refine wsa rfl rfl rfl (q_adr rfl T22 rfl rfl (hp0.lift (Lift.ext e6 _)) hc8) ?_
          refine wsq rfl rfl rfl (q_loadS rfl T22 rfl (hp0.lift (Lift.ext e6 _)) hc8) ?_
          refine wsa rfl rfl rfl (q_xor8 rfl rfl rfl) ?_
          obtain ⟨r9, hr9, H1⟩ := Option.bind_eq_some_iff.1 H1
          refine wsc rfl (by kernel_rfl) rfl rfl (stp_call (vs := [(u8 s1.1), (u8 ((c7 ^^^ c8)))]) Try.func48 rfl rfl rfl (ar2 rfl rfl) (ref02_Mul_calls s1.1 (c7 ^^^ c8)  r9 _  hr9) ?_)
          rintro _ w9 ⟨rfl, x9⟩
          refine ⟨_, rfl, ?_⟩
          have e10 := e6.trans x9
          refine wsa rfl rfl rfl (q_assign (v := (u8 r9)) rfl rfl) ?_
          refine ws_nil ?_
          refine bk_n ?_
          refine W_th ?_
          refine W_reg (by kernel_rfl) ?_
          refine wla rfl rfl (q_addI rfl s9_2 rfl) ?_
          refine wla rfl rfl (q_move (v := (i64 ((wI (s1.2 + 1))))) rfl rfl) ?_
          refine wl_nil ?_
          obtain rfl := Option.some.inj H1
          exact ⟨_, rfl, s0_2, s1_2, rfl, s8_2, rfl, s29_2, e10⟩
        · replace H1 := (if_pos (ndec_f hb4)).symm.trans H1
          refine W_skip ?_
          refine bk_n ?_
          refine W_th ?_
          refine W_reg (by kernel_rfl) ?_
          refine wla rfl rfl (q_addI rfl s9_2 rfl) ?_
          refine wla rfl rfl (q_move (v := (i64 ((wI (s1.2 + 1))))) rfl rfl) ?_
          refine wl_nil ?_
          obtain rfl := Option.some.inj H1
          exact ⟨_, rfl, s0_2, s1_2, s5_2, s8_2, rfl, s29_2, hE2⟩
      · replace H1 := (if_neg (of_decide_eq_false hb3)).symm.trans H1
        refine W_exit ?_
        refine th_x ?_
        obtain rfl := Option.some.inj H1
        obtain rfl := hr1 _ rfl
        refine th_x ?_
        refine bk_x ?_
        exact ⟨s5_2, s29_2, hE2⟩
  · rintro _ w12 ⟨s5_12, s29_12, hE12⟩
    refine W_th ?_
    refine W_seq ?_
    refine W_reg (by kernel_rfl) ?_
    refine wla rfl rfl (q_move (v := (u8 x1)) rfl s5_12) ?_
    obtain ⟨r13, hr13, H⟩ := Option.bind_eq_some_iff.1 H
    refine wls rfl rfl (stp_call (vs := [(u8 x1)]) Try.func54 rfl rfl rfl (ar1 rfl) (ref02_Inv_calls x1  r13 _  hr13) ?_)
    rintro _ w13 ⟨rfl, x13⟩
    refine ⟨_, rfl, ?_⟩
    have e14 := hE12.trans x13
    refine wla rfl rfl (q_assign (v := (u8 r13)) rfl rfl) ?_
    refine wl_nil ?_
    refine W_th ?_
    refine W_ret ?_
    obtain rfl := Option.some.inj H
    refine rt1 (u8 r13) rfl rfl rfl s29_12 ?_
    exact ⟨rfl, e14⟩

/-! largesse/largesseref30.Syndromes -/
noncomputable def ref30_Syndromes (a0r : Int) (a1xs : List UInt8) (a2ys : List UInt8) : Option (List UInt8) :=
((iterC (fun s4 : List UInt8 × Int =>
(if s4.2 < a0r then
((iterC (fun s7 : UInt8 × Int =>
(if s7.2 < (a1xs.length : Int) then
((idx a2ys s7.2).bind fun c12 =>
((idx a1xs s7.2).bind fun c13 =>
((ref30_Weight a1xs s7.2).bind fun r14 =>
((ref02_Pow c13 s4.2).bind fun r16 =>
((ref02_Mul c12 r16).bind fun r18 =>
((ref02_Mul r14 r18).bind fun r20 => some (.inl ((s7.1 ^^^ r20), (wI (s7.2 + 1))))))))))
else some (.inr s7.1))) ((0 : UInt8), 0)).bind fun x7 =>
((appL s4.1 (([x7] : List UInt8))).bind fun c26 => some (.inl (c26, (wI (s4.2 + 1))))))
else some (.inr s4.1))) (([] : List UInt8), 0)).bind fun x4 => some x4)
set_option maxRecDepth 100000 in
set_option maxHeartbeats 8000000 in
theorem ref30_Syndromes_calls (a0r : Int) (a1xs : List UInt8) (a2ys : List UInt8) (p1 : Value) (p2 : Value) (r : List UInt8) (w0 : World) (hp1 : By w0 [] p1 a1xs) (hp2 : By w0 [] p2 a2ys) (H : ref30_Syndromes a0r a1xs a2ys = some r) :
    Calls Try.prog 27 [(i64 a0r), p1, p2].toArray w0 (fun e w' => ∃ u0 : Value, e = .returned u0 ∧ Ext w0 w' ∧ Nw w0 u0 ∧ OwK (Sc u8) w' [] 5 u0 r) := by
  have hE : Ext w0 w0 := Ext.refl w0
  unfold ref30_Syndromes at H
  refine calls_W (n := 45) Try.func27 rfl rfl rfl ?_
  refine W_seq ?_
  refine W_reg (by kernel_rfl) ?_
  refine wla rfl rfl (q_assign (v := (.slice none 0 0)) rfl rfl) ?_
  refine wl_nil ?_
  refine W_th ?_
  refine W_seq ?_
  refine W_reg (by kernel_rfl) ?_
  refine wls rfl rfl (stp_lit (L := []) (R := (Sc u8)) [] ([] : List UInt8) rfl T22 rfl (by exact trivial) rfl (litC u8 (oneC_u8) (us := []) (l := ([] : List UInt8)) rfl) rfl (litS u8 (us := []) (l := ([] : List UInt8)) rfl) ?_)
  intro v1 w1 o1 n1 g1 l1
  have x1 := grown_ext g1
  have n3 := Nw.ext hE n1
  have e2 := hE.trans x1
  refine wla rfl rfl (q_assign (v := v1) rfl rfl) ?_
  refine wl_nil ?_
  refine W_th ?_
  refine W_seq ?_
  refine W_seq ?_
  refine W_reg (by kernel_rfl) ?_
  refine wla rfl rfl (q_assign (v := (i64 0)) rfl rfl) ?_
  refine wl_nil ?_
  refine W_th ?_
  obtain ⟨x4, G4, H⟩ := Option.bind_eq_some_iff.1 H
  refine W_mid (fun f w => ∃ v7_32 : Value, f 7 = v7_32 ∧ f 45 = undef ∧ Ext w0 w ∧ OwK (Sc u8) w [v7_32] 5 v7_32 x4 ∧ Nw w0 v7_32) ?_ ?_
  · refine W_block ?_
    refine W_loop (fun s4 f w => ∃ v7_30 : Value, f 0 = (i64 a0r) ∧ f 1 = p1 ∧ f 2 = p2 ∧ f 7 = v7_30 ∧ f 8 = (i64 s4.2) ∧ f 45 = undef ∧ Ext w0 w ∧ OwK (Sc u8) w [v7_30] 5 v7_30 s4.1 ∧ Nw w0 v7_30) G4 ?_ ?_
    · exact ⟨v1, rfl, rfl, rfl, rfl, rfl, rfl, e2, o1, n3⟩
    · rintro s4 _ _ w5 ⟨v7_5, s0_5, s1_5, s2_5, s7_5, s8_5, s45_5, hE5, o0_5, n0_5⟩ H4 hr4
      refine W_seq ?_
      refine W_seq ?_
      refine W_reg (by kernel_rfl) ?_
      refine wla rfl rfl (q_move (v := (i64 s4.2)) rfl s8_5) ?_
      refine wla rfl rfl (q_move (v := (i64 a0r)) rfl s0_5) ?_
      refine wla rfl rfl (q_ltI rfl rfl rfl) ?_
      refine wl_nil ?_
      refine W_th ?_
      refine W_cond _ rfl rfl (fun hb6 => ?_) (fun hb6 => ?_)
      · replace H4 := (if_pos (of_decide_eq_true hb6)).symm.trans H4
        refine W_skip ?_
        refine W_th ?_
        refine W_seq ?_
        refine W_block ?_
        refine W_seq ?_
        refine W_reg (by kernel_rfl) ?_
        refine wla rfl rfl (q_assign (v := (u8 0)) rfl (cst8 (0 : UInt8) rfl)) ?_
        refine wl_nil ?_
        refine W_th ?_
        refine W_seq ?_
        refine W_seq ?_
        refine W_reg (by kernel_rfl) ?_
        refine wla rfl rfl (q_move (v := p1) rfl s1_5) ?_
        refine wla rfl rfl (q_len rfl T22.sl rfl (hp1.lift (Lift.ext hE5 _))) ?_
        refine wla rfl rfl (q_move (v := (i64 0)) rfl rfl) ?_
        refine wl_nil ?_
        refine W_th ?_
        obtain ⟨x7, G7, H4⟩ := Option.bind_eq_some_iff.1 H4
        refine W_mid (fun f w => f 0 = (i64 a0r) ∧ f 1 = p1 ∧ f 2 = p2 ∧ f 7 = v7_5 ∧ f 8 = (i64 s4.2) ∧ f 9 = (u8 x7) ∧ f 45 = undef ∧ Ext w0 w ∧ OwK (Sc u8) w [v7_5] 5 v7_5 s4.1 ∧ Nw w0 v7_5) ?_ ?_
        · refine W_block ?_
          refine W_loop (fun s7 f w => f 0 = (i64 a0r) ∧ f 1 = p1 ∧ f 2 = p2 ∧ f 7 = v7_5 ∧ f 8 = (i64 s4.2) ∧ f 9 = (u8 s7.1) ∧ f 18 = (i64 ((a1xs.length : Int))) ∧ f 19 = (i64 s7.2) ∧ f 45 = undef ∧ Ext w0 w ∧ OwK (Sc u8) w [v7_5] 5 v7_5 s4.1 ∧ Nw w0 v7_5) G7 ?_ ?_
          · exact ⟨s0_5, s1_5, s2_5, s7_5, s8_5, rfl, rfl, rfl, s45_5, hE5, o0_5, n0_5⟩
          · rintro s7 _ _ w8 ⟨s0_8, s1_8, s2_8, s7_8, s8_8, s9_8, s18_8, s19_8, s45_8, hE8, o0_8, n0_8⟩ H7 hr7
            refine W_seq ?_
            refine W_reg (by kernel_rfl) ?_
            refine wla rfl rfl (q_ltI rfl s19_8 s18_8) ?_
            refine wl_nil ?_
            refine W_th ?_
            refine W_seq ?_
            refine W_cond _ rfl rfl (fun hb9 => ?_) (fun hb9 => ?_)
            · replace H7 := (if_pos (of_decide_eq_true hb9)).symm.trans H7
              refine W_skip ?_
              refine W_th ?_
              refine W_seq ?_
              refine W_block ?_
              refine W_seq ?_
              refine W_reg (by kernel_rfl) ?_
              refine wla rfl rfl (q_move (v := (i64 s7.2)) rfl s19_8) ?_
              refine wla rfl rfl (q_assign (v := (i64 s7.2)) rfl rfl) ?_
              refine wl_nil ?_
              refine W_th ?_
              refine W_draw [7, 11] [(0, 0), (1, 0), (2, 0), (4, 0), (5, 0), (6, 0), (7, 1), (8, 0), (9, 0), (10, 0), (11, 1), (12, 0), (3, 2), (13, 2), (14, 2), (15, 2), (16, 0), (17, 0)] mixed (by kernel_rfl) (by kernel_rfl) (by kernel_rfl) (by kernel_rfl) ?_
              have x10 := Ext.drew w8
              replace o0_8 := o0_8.extL (Sc.stab _) x10 (Lift.ext x10 _)
              have e11 := hE8.trans x10
              refine wsa rfl rfl rfl (q_move (v := (u8 s7.1)) rfl s9_8) ?_
              refine wsa rfl rfl rfl (q_move (v := p1) rfl s1_8) ?_
              refine wsa rfl rfl rfl (q_move (v := (i64 s7.2)) rfl rfl) ?_
              refine wsa rfl rfl rfl (q_move (v := p2) rfl s2_8) ?_
              refine wsa rfl rfl rfl (q_move (v := (i64 s7.2)) rfl rfl) ?_
              obtain ⟨c12, hc12, H7⟩ := Option.bind_eq_some_iff.1 H7
              refine wsa rfl rfl rfl (q_adr rfl T22 rfl rfl (hp2.lift (Lift.ext e11 _)) hc12) ?_
              refine wsq rfl rfl rfl (q_loadS rfl T22 rfl (hp2.lift (Lift.ext e11 _)) hc12) ?_
              refine wsa rfl rfl rfl (q_move (v := p1) rfl s1_8) ?_
              refine wsa rfl rfl rfl (q_move (v := (i64 s7.2)) rfl rfl) ?_
              obtain ⟨c13, hc13, H7⟩ := Option.bind_eq_some_iff.1 H7
              refine wsa rfl rfl rfl (q_adr rfl T22 rfl rfl (hp1.lift (Lift.ext e11 _)) hc13) ?_
              refine wsq rfl rfl rfl (q_loadS rfl T22 rfl (hp1.lift (Lift.ext e11 _)) hc13) ?_
              refine wsa rfl rfl rfl (q_move (v := (i64 s4.2)) rfl s8_8) ?_
              obtain ⟨r14, hr14, H7⟩ := Option.bind_eq_some_iff.1 H7
              refine wss rfl rfl rfl (stp_call (vs := [p1, (i64 s7.2)]) Try.func57 rfl rfl rfl (ar2 rfl rfl) (ref30_Weight_calls a1xs s7.2 p1 r14 _ (hp1.lift (Lift.ext e11 _)) hr14) ?_)
              rintro _ w14 ⟨rfl, x14⟩
              refine ⟨_, rfl, x14, ?_⟩
              replace o0_8 := o0_8.extL (Sc.stab _) x14 (Lift.ext x14 _)
              have e15 := e11.trans x14
              obtain ⟨r16, hr16, H7⟩ := Option.bind_eq_some_iff.1 H7
              refine wss rfl rfl rfl (stp_call (vs := [(u8 c13), (i64 s4.2)]) Try.func58 rfl rfl rfl (ar2 rfl rfl) (ref02_Pow_calls c13 s4.2  r16 _  hr16) ?_)
              rintro _ w16 ⟨rfl, x16⟩
              refine ⟨_, rfl, x16, ?_⟩
              replace o0_8 := o0_8.extL (Sc.stab _) x16 (Lift.ext x16 _)
              have e17 := e15.trans x16
              obtain ⟨r18, hr18, H7⟩ := Option.bind_eq_some_iff.1 H7
              refine wsc rfl (by kernel_rfl) rfl rfl (stp_call (vs := [(u8 c12), (u8 r16)]) Try.func48 rfl rfl rfl (ar2 rfl rfl) (ref02_Mul_calls c12 r16  r18 _  hr18) ?_)
              rintro _ w18 ⟨rfl, x18⟩
              refine ⟨_, rfl, ?_⟩
              replace o0_8 := o0_8.extL (Sc.stab _) x18 (Lift.ext x18 _)
              have e19 := e17.trans x18
              obtain ⟨r20, hr20, H7⟩ := Option.bind_eq_some_iff.1 H7
              refine wsc rfl (by kernel_rfl) rfl rfl (stp_call (vs := [(u8 r14), (u8 r18)]) Try.func48 rfl rfl rfl (ar2 rfl rfl) (ref02_Mul_calls r14 r18  r20 _  hr20) ?_)
              rintro _ w20 ⟨rfl, x20⟩
              refine ⟨_, rfl, ?_⟩
              replace o0_8 := o0_8.extL (Sc.stab _) x20 (Lift.ext x20 _)
              have e21 := e19.trans x20
              refine wsa rfl rfl rfl (q_xor8 rfl rfl rfl) ?_
              refine wsa rfl rfl rfl (q_assign (v := (u8 ((s7.1 ^^^ r20)))) rfl rfl) ?_
              refine ws_nil ?_
              refine bk_n ?_
              refine W_th ?_
              refine W_reg (by kernel_rfl) ?_
              refine wla rfl rfl (q_addI rfl s19_8 rfl) ?_
              refine wla rfl rfl (q_move (v := (i64 ((wI (s7.2 + 1))))) rfl rfl) ?_
              refine wl_nil ?_
              obtain rfl := Option.some.inj H7
              exact ⟨_, rfl, s0_8, s1_8, s2_8, s7_8, s8_8, rfl, s18_8, rfl, s45_8, e21, o0_8, n0_8⟩
            · replace H7 := (if_neg (of_decide_eq_false hb9)).symm.trans H7
              refine W_exit ?_
              refine th_x ?_
              obtain rfl := Option.some.inj H7
              obtain rfl := hr7 _ rfl
              refine th_x ?_
              refine bk_x ?_
              exact ⟨s0_8, s1_8, s2_8, s7_8, s8_8, s9_8, s45_8, hE8, o0_8, n0_8⟩
        · rintro _ w23 ⟨s0_23, s1_23, s2_23, s7_23, s8_23, s9_23, s45_23, hE23, o0_23, n0_23⟩
          refine W_th ?_
          refine W_reg (by kernel_rfl) ?_
          refine wla rfl rfl (q_move (v := v7_5) rfl s7_23) ?_
          refine wla rfl rfl (q_move (v := (u8 x7)) rfl s9_23) ?_
          refine wls rfl rfl (stp_lit (L := [v7_5]) (R := (Sc u8)) [(u8 x7)] ([x7] : List UInt8) rfl T22 rfl (by exact ⟨rfl, rfl, trivial⟩) rfl (litC u8 (oneC_u8) (us := [(u8 x7)]) (l := ([x7] : List UInt8)) rfl) rfl (litS u8 (us := [(u8 x7)]) (l := ([x7] : List UInt8)) rfl) ?_)
          intro v24 w24 o24 n24 g24 l24
          have x24 := grown_ext g24
          have i24 : By w24 [v7_5] v24 (([x7] : List UInt8)) := OwK.slk (Sc.stab _) _ o24 (fun k hk => (Old.cons (Old.nil _) o0_23.lt) k (n24 k hk)) (fun _ h => h.2)
          replace o0_23 := o0_23.extL (Sc.stab _) x24 (Lift.ext x24 _)
          have e25 := hE23.trans x24
          obtain ⟨c26, hc26, H4⟩ := Option.bind_eq_some_iff.1 H4
          refine wls rfl rfl (stp_append (R := (Sc u8)) (v := v7_5) (u := v24) (Sc.stab _) [] [] rfl T22 rfl rfl o0_23 i24 (fun _ _ h => h) hc26 oc_u8 ?_)
          intro v26 w26 o26 g26 nx26 l26
          replace i24 := i24.lift l26
          have e27 := e25.grown g26 n0_23
          have n28 := Nw.nxt e25 n0_23 nx26
          refine wla rfl rfl (q_assign (v := v26) rfl rfl) ?_
          refine wl_nil ?_
          refine bk_n ?_
          refine W_th ?_
          refine W_reg (by kernel_rfl) ?_
          refine wla rfl rfl (q_move (v := (i64 s4.2)) rfl s8_23) ?_
          refine wla rfl rfl (q_addI rfl rfl rfl) ?_
          refine wla rfl rfl (q_assign (v := (i64 ((wI (s4.2 + 1))))) rfl rfl) ?_
          refine wl_nil ?_
          obtain rfl := Option.some.inj H4
          exact ⟨_, rfl, v26, s0_23, s1_23, s2_23, rfl, rfl, s45_23, e27, o26, n28⟩
      · replace H4 := (if_neg (of_decide_eq_false hb6)).symm.trans H4
        refine W_exit ?_
        refine th_x ?_
        obtain rfl := Option.some.inj H4
        obtain rfl := hr4 _ rfl
        refine th_x ?_
        refine bk_x ?_
        exact ⟨v7_5, s7_5, s45_5, hE5, o0_5, n0_5⟩
  · rintro _ w31 ⟨v7_31, s7_31, s45_31, hE31, o0_31, n0_31⟩
    refine W_th ?_
    refine W_seq ?_
    refine W_reg (by kernel_rfl) ?_
    refine wla rfl rfl (q_move (v := v7_31) rfl s7_31) ?_
    refine wla rfl rfl (q_assign (v := v7_31) rfl rfl) ?_
    refine wl_nil ?_
    refine W_th ?_
    refine W_ret ?_
    obtain rfl := Option.some.inj H
    refine rt1 v7_31 rfl rfl rfl s45_31 ?_
    exact ⟨v7_31, rfl, hE31, n0_31, (o0_31.weak (Sc.stab _) (fun _ _ => trivial))⟩

end Gk

/- Printed by gen.py: for each Go function a pure function, and that the Go code comes to it. No condition beside the equation that says what the pure function gives. -/



set_option linter.unusedVariables false
set_option linter.unusedSimpArgs false
namespace Gk
open Go Go.Proofs

/-! largesse/largesselaw30.SyndromeTells -/
noncomputable def law30_SyndromeTells (a0t : Int) (a1xs : List UInt8) (a2ys : List UInt8) : Option Bool :=
((law30_lives ).bind fun r1 =>
(if (!r1) = true then
((law30_lives ).bind fun r4 => some r4)
else
(if 12 < (a1xs.length : Int) then
((law30_lives ).bind fun r7 => some r7)
else
(if 12 < (a2ys.length : Int) then
((law30_lives ).bind fun r10 => some r10)
else
((field_New ).bind fun r12 =>
((syndrome_Syndromes r12 a0t a1xs a2ys).bind fun r14 =>
((iterC (fun s16 : Bool × Int =>
(if s16.2 < (a1xs.length : Int) then
((idx a1xs s16.2).bind fun c19 =>
(if s16.1 = true then some (.inl (true, (wI (s16.2 + 1))))
else some (.inl ((decide (c19 = (0 : UInt8))), (wI (s16.2 + 1))))))
else some (.inr s16.1))) (false, 0)).bind fun x16 =>
(((if (a1xs.length : Int) = (a2ys.length : Int) then
(if a0t < 1 then some 2
else
(if 255 < a0t then some 2
else
(if x16 = true then some 2
else
(if (a1xs.length : Int) < a0t then some 5
else
((ref03_Places a1xs).bind fun r29 => some r29)))))
else some 1)).bind fun x23 =>
((syndrome_Syndromes false a0t a1xs a2ys).bind fun r32 =>
(if r14.2 = x23 then
(if r32.2 = 1 then
(if x23 = 0 then
((ref03_Through a1xs a2ys).bind fun r43 =>
((ref30_Syndromes (wI ((a1xs.length : Int) - a0t)) a1xs a2ys).bind fun r47 =>
(if r14.1 = r47 then
((word_Zero r14.1).bind fun r50 => some (r50 == ((decide ((r43.length : Int) ≤ a0t)))))
else some false)))
else
(if r14.2 = x23 then
(if r32.2 = 1 then some (decide ((r14.1.length : Int) = 0))
else some false)
else some false))
else
(if r14.2 = x23 then
(if r32.2 = 1 then some (decide ((r14.1.length : Int) = 0))
else some false)
else some false))
else
(if r14.2 = x23 then
(if r32.2 = 1 then some (decide ((r14.1.length : Int) = 0))
else some false)
else some false)))))))))))
set_option maxRecDepth 100000 in
set_option maxHeartbeats 8000000 in
theorem law30_SyndromeTells_calls (a0t : Int) (a1xs : List UInt8) (a2ys : List UInt8) (p1 : Value) (p2 : Value) (r : Bool) (w0 : World) (hp1 : By w0 [] p1 a1xs) (hp2 : By w0 [] p2 a2ys) (H : law30_SyndromeTells a0t a1xs a2ys = some r) :
    Calls Try.prog 6 [(i64 a0t), p1, p2].toArray w0 (fun e w' => e = .returned (.bool r) ∧ Ext w0 w') := by
  have hE : Ext w0 w0 := Ext.refl w0
  unfold law30_SyndromeTells at H
  refine calls_W (n := 127) Try.func6 rfl rfl rfl ?_
  refine W_seq ?_
  refine W_reg (by kernel_rfl) ?_
  refine wla rfl rfl (q_assign (v := (.bool false)) rfl rfl) ?_
  refine wl_nil ?_
  refine W_th ?_
  refine W_seq ?_
  refine W_seq ?_
  refine W_reg (by kernel_rfl) ?_
  obtain ⟨r1, hr1, H⟩ := Option.bind_eq_some_iff.1 H
  refine wls rfl rfl (stp_call (vs := []) Try.func24 rfl rfl rfl (ar0 ) (law30_lives_calls   r1 _  hr1) ?_)
  rintro _ w1 ⟨rfl, x1⟩
  refine ⟨_, rfl, ?_⟩
  have e2 := hE.trans x1
  refine wla rfl rfl (q_not rfl rfl) ?_
  refine wlb rfl rfl (q_move (v := (.bool ((!r1)))) rfl rfl) (fun hb3 => ?_) (fun hb3 => ?_)
  · replace H := (if_pos hb3).symm.trans H
    refine wlk rfl rfl ?_
    refine wlk rfl rfl ?_
    refine wlk rfl rfl ?_
    refine wla rfl rfl (q_pick_t (v := (.bool true)) rfl rfl rfl) ?_
    refine wla rfl rfl (q_move (v := (.bool true)) rfl rfl) ?_
    refine wlk rfl rfl ?_
    refine wlk rfl rfl ?_
    refine wlk rfl rfl ?_
    refine wla rfl rfl (q_pick_t (v := (.bool true)) rfl rfl rfl) ?_
    refine wl_nil ?_
    refine W_th ?_
    refine W_cond true rfl rfl (fun _ => ?_) (fun hb => by cases hb)
    refine W_seq ?_
    refine W_reg (by kernel_rfl) ?_
    obtain ⟨r4, hr4, H⟩ := Option.bind_eq_some_iff.1 H
    refine wls rfl rfl (stp_call (vs := []) Try.func24 rfl rfl rfl (ar0 ) (law30_lives_calls   r4 _  hr4) ?_)
    rintro _ w4 ⟨rfl, x4⟩
    refine ⟨_, rfl, ?_⟩
    have e5 := e2.trans x4
    refine wla rfl rfl (q_assign (v := (.bool r4)) rfl rfl) ?_
    refine wl_nil ?_
    refine W_th ?_
    refine W_ret ?_
    refine th_r ?_
    obtain rfl := Option.some.inj H
    refine rt1 (.bool r4) rfl rfl rfl rfl ?_
    exact ⟨rfl, e5⟩
  · replace H := (if_neg (ne_true_of_eq_false hb3)).symm.trans H
    refine wla rfl rfl (q_move (v := p1) rfl rfl) ?_
    refine wla rfl rfl (q_len rfl T22.sl rfl (hp1.lift (Lift.ext e2 _))) ?_
    refine wla rfl rfl (q_gtI rfl rfl rfl) ?_
    refine wla rfl rfl (q_pick_f (v := (.bool ((decide (12 < (a1xs.length : Int)))))) rfl rfl rfl) ?_
    refine wlb rfl rfl (q_move (v := (.bool ((decide (12 < (a1xs.length : Int)))))) rfl rfl) (fun hb6 => ?_) (fun hb6 => ?_)
    · replace H := (if_pos (of_decide_eq_true hb6)).symm.trans H
      refine wlk rfl rfl ?_
      refine wlk rfl rfl ?_
      refine wlk rfl rfl ?_
      refine wla rfl rfl (q_pick_t (v := (.bool true)) rfl rfl rfl) ?_
      refine wl_nil ?_
      refine W_th ?_
      refine W_cond true rfl rfl (fun _ => ?_) (fun hb => by cases hb)
      refine W_seq ?_
      refine W_reg (by kernel_rfl) ?_
      obtain ⟨r7, hr7, H⟩ := Option.bind_eq_some_iff.1 H
      refine wls rfl rfl (stp_call (vs := []) Try.func24 rfl rfl rfl (ar0 ) (law30_lives_calls   r7 _  hr7) ?_)
      rintro _ w7 ⟨rfl, x7⟩
      refine ⟨_, rfl, ?_⟩
      have e8 := e2.trans x7
      refine wla rfl rfl (q_assign (v := (.bool r7)) rfl rfl) ?_
      refine wl_nil ?_
      refine W_th ?_
      refine W_ret ?_
      refine th_r ?_
      obtain rfl := Option.some.inj H
      refine rt1 (.bool r7) rfl rfl rfl rfl ?_
      exact ⟨rfl, e8⟩
    · replace H := (if_neg (of_decide_eq_false hb6)).symm.trans H
      refine wla rfl rfl (q_move (v := p2) rfl rfl) ?_
      refine wla rfl rfl (q_len rfl T22.sl rfl (hp2.lift (Lift.ext e2 _))) ?_
      refine wla rfl rfl (q_gtI rfl rfl rfl) ?_
      refine wla rfl rfl (q_pick_f (v := (.bool ((decide (12 < (a2ys.length : Int)))))) rfl rfl rfl) ?_
      refine wl_nil ?_
      refine W_th ?_
      refine W_cond _ rfl rfl (fun hb9 => ?_) (fun hb9 => ?_)
      · replace H := (if_pos (of_decide_eq_true hb9)).symm.trans H
        refine W_seq ?_
        refine W_reg (by kernel_rfl) ?_
        obtain ⟨r10, hr10, H⟩ := Option.bind_eq_some_iff.1 H
        refine wls rfl rfl (stp_call (vs := []) Try.func24 rfl rfl rfl (ar0 ) (law30_lives_calls   r10 _  hr10) ?_)
        rintro _ w10 ⟨rfl, x10⟩
        refine ⟨_, rfl, ?_⟩
        have e11 := e2.trans x10
        refine wla rfl rfl (q_assign (v := (.bool r10)) rfl rfl) ?_
        refine wl_nil ?_
        refine W_th ?_
        refine W_ret ?_
        refine th_r ?_
        obtain rfl := Option.some.inj H
        refine rt1 (.bool r10) rfl rfl rfl rfl ?_
        exact ⟨rfl, e11⟩
      · replace H := (if_neg (of_decide_eq_false hb9)).symm.trans H
        refine W_skip ?_
        refine W_th ?_
        refine W_seq ?_
        refine W_reg (by kernel_rfl) ?_
        obtain ⟨r12, hr12, H⟩ := Option.bind_eq_some_iff.1 H
        refine wls rfl rfl (stp_call (vs := []) Try.func12 rfl rfl rfl (ar0 ) (field_New_calls   r12 _ [] (Old.nil _)  hr12) ?_)
        rintro _ w12 ⟨v12, rfl, x12, i12_0⟩
        refine ⟨_, rfl, ?_⟩
        have e13 := e2.trans x12
        refine wla rfl rfl (q_assign (v := v12) rfl rfl) ?_
        refine wl_nil ?_
        refine W_th ?_
        refine W_seq ?_
        refine W_reg (by kernel_rfl) ?_
        refine wla rfl rfl (q_move (v := v12) rfl rfl) ?_
        refine wla rfl rfl (q_move (v := (i64 a0t)) rfl rfl) ?_
        refine wla rfl rfl (q_move (v := p1) rfl rfl) ?_
        refine wla rfl rfl (q_move (v := p2) rfl rfl) ?_
        obtain ⟨r14, hr14, H⟩ := Option.bind_eq_some_iff.1 H
        refine wls rfl rfl (stp_call (vs := [v12, (i64 a0t), p1, p2]) Try.func25 rfl rfl rfl (ar4 rfl rfl rfl rfl) (syndrome_Syndromes_calls r12 a0t a1xs a2ys v12 p1 p2 r14 _ (i12_0.lift (Lift.sub (fun _ _ => trivial))) (hp1.lift (Lift.ext e13 _)) (hp2.lift (Lift.ext e13 _)) hr14) ?_)
        rintro _ w14 ⟨v14_0, rfl, x14, n14_0, o14_0⟩
        refine ⟨_, rfl, ?_⟩
        have i14_0 : By w14 [] v14_0 r14.1 := OwK.slk (Sc.stab _) _ (OwK.scal o14_0 (v14_0 :: [])) (fun k hk => (Old.nil _) k (n14_0 k hk)) (fun _ h => h.2)
        replace i12_0 := i12_0.lift (Lift.ext x14 _)
        have e15 := e13.trans x14
        refine wla rfl rfl (q_move (v := (.tuple #[v14_0, (i64 r14.2)])) rfl rfl) ?_
        refine wla rfl rfl (q_extract rfl rfl rfl) ?_
        refine wla rfl rfl (q_extract rfl rfl rfl) ?_
        refine wla rfl rfl (q_assign (v := v14_0) rfl rfl) ?_
        refine wla rfl rfl (q_assign (v := (i64 r14.2)) rfl rfl) ?_
        refine wl_nil ?_
        refine W_th ?_
        refine W_seq ?_
        refine W_reg (by kernel_rfl) ?_
        refine wla rfl rfl (q_assign (v := (.bool false)) rfl rfl) ?_
        refine wl_nil ?_
        refine W_th ?_
        refine W_seq ?_
        refine W_seq ?_
        refine W_reg (by kernel_rfl) ?_
        refine wla rfl rfl (q_move (v := p1) rfl rfl) ?_
        refine wla rfl rfl (q_len rfl T22.sl rfl (hp1.lift (Lift.ext e15 _))) ?_
        refine wla rfl rfl (q_move (v := (i64 0)) rfl rfl) ?_
        refine wl_nil ?_
        refine W_th ?_
        obtain ⟨x16, G16, H⟩ := Option.bind_eq_some_iff.1 H
        refine W_mid (fun f w => f 0 = (i64 a0t) ∧ f 1 = p1 ∧ f 2 = p2 ∧ f 8 = v14_0 ∧ f 9 = (i64 r14.2) ∧ f 10 = (.bool x16) ∧ f 127 = undef ∧ Ext w0 w ∧ By w [] v14_0 r14.1) ?_ ?_
        · refine W_block ?_
          refine W_loop (fun s16 f w => f 0 = (i64 a0t) ∧ f 1 = p1 ∧ f 2 = p2 ∧ f 8 = v14_0 ∧ f 9 = (i64 r14.2) ∧ f 10 = (.bool s16.1) ∧ f 39 = p1 ∧ f 40 = (i64 ((a1xs.length : Int))) ∧ f 41 = (i64 s16.2) ∧ f 127 = undef ∧ Ext w0 w ∧ By w [] v14_0 r14.1) G16 ?_ ?_
          · exact ⟨rfl, rfl, rfl, rfl, rfl, rfl, rfl, rfl, rfl, rfl, e15, i14_0⟩
          · rintro s16 _ _ w17 ⟨s0_17, s1_17, s2_17, s8_17, s9_17, s10_17, s39_17, s40_17, s41_17, s127_17, hE17, i0_17⟩ H16 hr16
            refine W_seq ?_
            refine W_reg (by kernel_rfl) ?_
            refine wla rfl rfl (q_ltI rfl s41_17 s40_17) ?_
            refine wl_nil ?_
            refine W_th ?_
            refine W_seq ?_
            refine W_cond _ rfl rfl (fun hb18 => ?_) (fun hb18 => ?_)
            · replace H16 := (if_pos (of_decide_eq_true hb18)).symm.trans H16
              refine W_skip ?_
              refine W_th ?_
              refine W_seq ?_
              refine W_block ?_
              refine W_seq ?_
              refine W_reg (by kernel_rfl) ?_
              obtain ⟨c19, hc19, H16⟩ := Option.bind_eq_some_iff.1 H16
              refine wla rfl rfl (q_adr rfl T22 s39_17 s41_17 (hp1.lift (Lift.ext hE17 _)) hc19) ?_
              refine wlq rfl rfl (q_loadS rfl T22 rfl (hp1.lift (Lift.ext hE17 _)) hc19) ?_
              refine wla rfl rfl (q_assign (v := (u8 c19)) rfl rfl) ?_
              refine wl_nil ?_
              refine W_th ?_
              refine W_reg (by kernel_rfl) ?_
              refine wla rfl rfl (q_move (v := (.bool s16.1)) rfl s10_17) ?_
              refine wlb rfl rfl (q_move (v := (.bool s16.1)) rfl rfl) (fun hb20 => ?_) (fun hb20 => ?_)
              · replace H16 := (if_pos hb20).symm.trans H16
                refine wlk rfl rfl ?_
                refine wlk rfl rfl ?_
                refine wla rfl rfl (q_pick_t (v := (.bool true)) rfl rfl rfl) ?_
                refine wla rfl rfl (q_assign (v := (.bool true)) rfl rfl) ?_
                refine wl_nil ?_
                refine bk_n ?_
                refine W_th ?_
                refine W_reg (by kernel_rfl) ?_
                refine wla rfl rfl (q_addI rfl s41_17 rfl) ?_
                refine wla rfl rfl (q_move (v := (i64 ((wI (s16.2 + 1))))) rfl rfl) ?_
                refine wl_nil ?_
                obtain rfl := Option.some.inj H16
                exact ⟨_, rfl, s0_17, s1_17, s2_17, s8_17, s9_17, rfl, s39_17, s40_17, rfl, s127_17, hE17, i0_17⟩
              · replace H16 := (if_neg (ne_true_of_eq_false hb20)).symm.trans H16
                refine wla rfl rfl (q_move (v := (u8 c19)) rfl rfl) ?_
                refine wla rfl rfl (q_eq8 rfl rfl (cst8 (0 : UInt8) rfl)) ?_
                refine wla rfl rfl (q_pick_f (v := (.bool ((decide (c19 = (0 : UInt8)))))) rfl rfl rfl) ?_
                refine wla rfl rfl (q_assign (v := (.bool ((decide (c19 = (0 : UInt8)))))) rfl rfl) ?_
                refine wl_nil ?_
                refine bk_n ?_
                refine W_th ?_
                refine W_reg (by kernel_rfl) ?_
                refine wla rfl rfl (q_addI rfl s41_17 rfl) ?_
                refine wla rfl rfl (q_move (v := (i64 ((wI (s16.2 + 1))))) rfl rfl) ?_
                refine wl_nil ?_
                obtain rfl := Option.some.inj H16
                exact ⟨_, rfl, s0_17, s1_17, s2_17, s8_17, s9_17, rfl, s39_17, s40_17, rfl, s127_17, hE17, i0_17⟩
            · replace H16 := (if_neg (of_decide_eq_false hb18)).symm.trans H16
              refine W_exit ?_
              refine th_x ?_
              obtain rfl := Option.some.inj H16
              obtain rfl := hr16 _ rfl
              refine th_x ?_
              refine bk_x ?_
              exact ⟨s0_17, s1_17, s2_17, s8_17, s9_17, s10_17, s127_17, hE17, i0_17⟩
        · rintro _ w22 ⟨s0_22, s1_22, s2_22, s8_22, s9_22, s10_22, s127_22, hE22, i0_22⟩
          refine W_th ?_
          refine W_seq ?_
          refine W_reg (by kernel_rfl) ?_
          refine wla rfl rfl (q_assign (v := (i64 0)) rfl rfl) ?_
          refine wl_nil ?_
          refine W_th ?_
          refine W_seq ?_
          obtain ⟨x23, H23, H⟩ := Option.bind_eq_some_iff.1 H
          refine W_mid (fun f w => f 0 = (i64 a0t) ∧ f 1 = p1 ∧ f 2 = p2 ∧ f 8 = v14_0 ∧ f 9 = (i64 r14.2) ∧ f 13 = (i64 x23) ∧ f 127 = undef ∧ Ext w0 w ∧ By w [] v14_0 r14.1) ?_ ?_
          · refine W_block ?_
            refine W_seq ?_
            refine W_reg (by kernel_rfl) ?_
            refine wla rfl rfl (q_move (v := p1) rfl s1_22) ?_
            refine wla rfl rfl (q_len rfl T22.sl rfl (hp1.lift (Lift.ext hE22 _))) ?_
            refine wla rfl rfl (q_move (v := p2) rfl s2_22) ?_
            refine wla rfl rfl (q_len rfl T22.sl rfl (hp2.lift (Lift.ext hE22 _))) ?_
            refine wla rfl rfl (q_neI rfl rfl rfl) ?_
            refine wla rfl rfl (q_assign (v := (.bool ((!decide ((a1xs.length : Int) = (a2ys.length : Int)))))) rfl rfl) ?_
            refine wl_nil ?_
            refine W_th ?_
            refine W_cond _ rfl rfl (fun hb24 => ?_) (fun hb24 => ?_)
            · replace H23 := (if_neg (ndec_t hb24)).symm.trans H23
              refine W_reg (by kernel_rfl) ?_
              refine wla rfl rfl (q_assign (v := (i64 1)) rfl rfl) ?_
              refine wl_nil ?_
              refine bk_n ?_
              obtain rfl := Option.some.inj H23
              exact ⟨s0_22, s1_22, s2_22, s8_22, s9_22, rfl, s127_22, hE22, i0_22⟩
            · replace H23 := (if_pos (ndec_f hb24)).symm.trans H23
              refine W_seq ?_
              refine W_reg (by kernel_rfl) ?_
              refine wla rfl rfl (q_move (v := (i64 a0t)) rfl s0_22) ?_
              refine wla rfl rfl (q_ltI rfl rfl rfl) ?_
              refine wlb rfl rfl (q_move (v := (.bool ((decide (a0t < 1))))) rfl rfl) (fun hb25 => ?_) (fun hb25 => ?_)
              · replace H23 := (if_pos (of_decide_eq_true hb25)).symm.trans H23
                refine wlk rfl rfl ?_
                refine wlk rfl rfl ?_
                refine wla rfl rfl (q_pick_t (v := (.bool true)) rfl rfl rfl) ?_
                refine wla rfl rfl (q_move (v := (.bool true)) rfl rfl) ?_
                refine wlk rfl rfl ?_
                refine wla rfl rfl (q_pick_t (v := (.bool true)) rfl rfl rfl) ?_
                refine wla rfl rfl (q_assign (v := (.bool true)) rfl rfl) ?_
                refine wl_nil ?_
                refine W_th ?_
                refine W_cond true rfl rfl (fun _ => ?_) (fun hb => by cases hb)
                refine W_reg (by kernel_rfl) ?_
                refine wla rfl rfl (q_assign (v := (i64 2)) rfl rfl) ?_
                refine wl_nil ?_
                refine bk_n ?_
                obtain rfl := Option.some.inj H23
                exact ⟨s0_22, s1_22, s2_22, s8_22, s9_22, rfl, s127_22, hE22, i0_22⟩
              · replace H23 := (if_neg (of_decide_eq_false hb25)).symm.trans H23
                refine wla rfl rfl (q_move (v := (i64 a0t)) rfl s0_22) ?_
                refine wla rfl rfl (q_gtI rfl rfl rfl) ?_
                refine wla rfl rfl (q_pick_f (v := (.bool ((decide (255 < a0t))))) rfl rfl rfl) ?_
                refine wlb rfl rfl (q_move (v := (.bool ((decide (255 < a0t))))) rfl rfl) (fun hb26 => ?_) (fun hb26 => ?_)
                · replace H23 := (if_pos (of_decide_eq_true hb26)).symm.trans H23
                  refine wlk rfl rfl ?_
                  refine wla rfl rfl (q_pick_t (v := (.bool true)) rfl rfl rfl) ?_
                  refine wla rfl rfl (q_assign (v := (.bool true)) rfl rfl) ?_
                  refine wl_nil ?_
                  refine W_th ?_
                  refine W_cond true rfl rfl (fun _ => ?_) (fun hb => by cases hb)
                  refine W_reg (by kernel_rfl) ?_
                  refine wla rfl rfl (q_assign (v := (i64 2)) rfl rfl) ?_
                  refine wl_nil ?_
                  refine bk_n ?_
                  obtain rfl := Option.some.inj H23
                  exact ⟨s0_22, s1_22, s2_22, s8_22, s9_22, rfl, s127_22, hE22, i0_22⟩
                · replace H23 := (if_neg (of_decide_eq_false hb26)).symm.trans H23
                  refine wla rfl rfl (q_move (v := (.bool x16)) rfl s10_22) ?_
                  refine wla rfl rfl (q_pick_f (v := (.bool x16)) rfl rfl rfl) ?_
                  refine wla rfl rfl (q_assign (v := (.bool x16)) rfl rfl) ?_
                  refine wl_nil ?_
                  refine W_th ?_
                  refine W_cond _ rfl rfl (fun hb27 => ?_) (fun hb27 => ?_)
                  · replace H23 := (if_pos hb27).symm.trans H23
                    refine W_reg (by kernel_rfl) ?_
                    refine wla rfl rfl (q_assign (v := (i64 2)) rfl rfl) ?_
                    refine wl_nil ?_
                    refine bk_n ?_
                    obtain rfl := Option.some.inj H23
                    exact ⟨s0_22, s1_22, s2_22, s8_22, s9_22, rfl, s127_22, hE22, i0_22⟩
                  · replace H23 := (if_neg (ne_true_of_eq_false hb27)).symm.trans H23
                    refine W_seq ?_
                    refine W_reg (by kernel_rfl) ?_
                    refine wla rfl rfl (q_move (v := p1) rfl s1_22) ?_
                    refine wla rfl rfl (q_len rfl T22.sl rfl (hp1.lift (Lift.ext hE22 _))) ?_
                    refine wla rfl rfl (q_move (v := (i64 a0t)) rfl s0_22) ?_
                    refine wla rfl rfl (q_ltI rfl rfl rfl) ?_
                    refine wla rfl rfl (q_assign (v := (.bool ((decide ((a1xs.length : Int) < a0t))))) rfl rfl) ?_
                    refine wl_nil ?_
                    refine W_th ?_
                    refine W_cond _ rfl rfl (fun hb28 => ?_) (fun hb28 => ?_)
                    · replace H23 := (if_pos (of_decide_eq_true hb28)).symm.trans H23
                      refine W_reg (by kernel_rfl) ?_
                      refine wla rfl rfl (q_assign (v := (i64 5)) rfl rfl) ?_
                      refine wl_nil ?_
                      refine bk_n ?_
                      obtain rfl := Option.some.inj H23
                      exact ⟨s0_22, s1_22, s2_22, s8_22, s9_22, rfl, s127_22, hE22, i0_22⟩
                    · replace H23 := (if_neg (of_decide_eq_false hb28)).symm.trans H23
                      refine W_reg (by kernel_rfl) ?_
                      refine wla rfl rfl (q_move (v := p1) rfl s1_22) ?_
                      obtain ⟨r29, hr29, H23⟩ := Option.bind_eq_some_iff.1 H23
                      refine wls rfl rfl (stp_call (vs := [p1]) Try.func13 rfl rfl rfl (ar1 rfl) (ref03_Places_calls a1xs p1 r29 _ (hp1.lift (Lift.ext hE22 _)) hr29) ?_)
                      rintro _ w29 ⟨rfl, x29⟩
                      refine ⟨_, rfl, ?_⟩
                      replace i0_22 := i0_22.lift (Lift.ext x29 _)
                      have e30 := hE22.trans x29
                      refine wla rfl rfl (q_assign (v := (i64 r29)) rfl rfl) ?_
                      refine wl_nil ?_
                      refine bk_n ?_
                      obtain rfl := Option.some.inj H23
                      exact ⟨s0_22, s1_22, s2_22, s8_22, s9_22, rfl, s127_22, e30, i0_22⟩
          · rintro _ w31 ⟨s0_31, s1_31, s2_31, s8_31, s9_31, s13_31, s127_31, hE31, i0_31⟩
            refine W_th ?_
            refine W_seq ?_
            refine W_reg (by kernel_rfl) ?_
            refine wla rfl rfl (q_move (v := (i64 a0t)) rfl s0_31) ?_
            refine wla rfl rfl (q_move (v := p1) rfl s1_31) ?_
            refine wla rfl rfl (q_move (v := p2) rfl s2_31) ?_
            obtain ⟨r32, hr32, H⟩ := Option.bind_eq_some_iff.1 H
            refine wls rfl rfl (stp_call (vs := [(.pointer none), (i64 a0t), p1, p2]) Try.func25 rfl rfl rfl (ar4 rfl rfl rfl rfl) (syndrome_Syndromes_calls false a0t a1xs a2ys (.pointer none) p1 p2 r32 _ (Fd.nil _ _) (hp1.lift (Lift.ext hE31 _)) (hp2.lift (Lift.ext hE31 _)) hr32) ?_)
            rintro _ w32 ⟨v32_0, rfl, x32, n32_0, o32_0⟩
            refine ⟨_, rfl, ?_⟩
            have i32_0 : By w32 [] v32_0 r32.1 := OwK.slk (Sc.stab _) _ (OwK.scal o32_0 (v32_0 :: [])) (fun k hk => (Old.nil _) k (n32_0 k hk)) (fun _ h => h.2)
            replace i0_31 := i0_31.lift (Lift.ext x32 _)
            have e33 := hE31.trans x32
            refine wla rfl rfl (q_move (v := (.tuple #[v32_0, (i64 r32.2)])) rfl rfl) ?_
            refine wla rfl rfl (q_extract rfl rfl rfl) ?_
            refine wla rfl rfl (q_extract rfl rfl rfl) ?_
            refine wla rfl rfl (q_assign (v := v32_0) rfl rfl) ?_
            refine wla rfl rfl (q_assign (v := (i64 r32.2)) rfl rfl) ?_
            refine wl_nil ?_
            refine W_th ?_
            refine W_seq ?_
            refine W_seq ?_
            refine W_reg (by kernel_rfl) ?_
            refine wla rfl rfl (q_move (v := (i64 r14.2)) rfl s9_31) ?_
            refine wla rfl rfl (q_move (v := (i64 x23)) rfl s13_31) ?_
            refine wla rfl rfl (q_neI rfl rfl rfl) ?_
            refine wlb rfl rfl (q_move (v := (.bool ((!decide (r14.2 = x23))))) rfl rfl) (fun hb34 => ?_) (fun hb34 => ?_)
            · replace H := (if_neg (ndec_t hb34)).symm.trans H
              refine wlk rfl rfl ?_
              refine wlk rfl rfl ?_
              refine wla rfl rfl (q_pick_t (v := (.bool true)) rfl rfl rfl) ?_
              refine wla rfl rfl (q_move (v := (.bool true)) rfl rfl) ?_
              refine wlk rfl rfl ?_
              refine wlk rfl rfl ?_
              refine wla rfl rfl (q_pick_t (v := (.bool true)) rfl rfl rfl) ?_
              refine wl_nil ?_
              refine W_th ?_
              refine W_cond true rfl rfl (fun _ => ?_) (fun hb => by cases hb)
              refine W_seq ?_
              refine W_reg (by kernel_rfl) ?_
              refine wla rfl rfl (q_move (v := (i64 r14.2)) rfl s9_31) ?_
              refine wla rfl rfl (q_move (v := (i64 x23)) rfl s13_31) ?_
              refine wla rfl rfl (q_eqI rfl rfl rfl) ?_
              refine wlb rfl rfl (q_move (v := (.bool ((decide (r14.2 = x23))))) rfl rfl) (fun hb35 => ?_) (fun hb35 => ?_)
              · replace H := (if_pos (of_decide_eq_true hb35)).symm.trans H
                refine wla rfl rfl (q_move (v := (i64 r32.2)) rfl rfl) ?_
                refine wla rfl rfl (q_eqI rfl rfl rfl) ?_
                refine wla rfl rfl (q_pick_t (v := (.bool ((decide (r32.2 = 1))))) rfl rfl rfl) ?_
                refine wlb rfl rfl (q_move (v := (.bool ((decide (r32.2 = 1))))) rfl rfl) (fun hb36 => ?_) (fun hb36 => ?_)
                · replace H := (if_pos (of_decide_eq_true hb36)).symm.trans H
                  refine wla rfl rfl (q_move (v := v14_0) rfl s8_31) ?_
                  refine wla rfl rfl (q_len rfl T22.sl rfl i0_31) ?_
                  refine wla rfl rfl (q_eqI rfl rfl rfl) ?_
                  refine wla rfl rfl (q_pick_t (v := (.bool ((decide ((r14.1.length : Int) = 0))))) rfl rfl rfl) ?_
                  refine wla rfl rfl (q_assign (v := (.bool ((decide ((r14.1.length : Int) = 0))))) rfl rfl) ?_
                  refine wl_nil ?_
                  refine W_th ?_
                  refine W_ret ?_
                  refine th_r ?_
                  obtain rfl := Option.some.inj H
                  refine rt1 (.bool ((decide ((r14.1.length : Int) = 0)))) rfl rfl rfl s127_31 ?_
                  exact ⟨rfl, e33⟩
                · replace H := (if_neg (of_decide_eq_false hb36)).symm.trans H
                  refine wlk rfl rfl ?_
                  refine wlk rfl rfl ?_
                  refine wlk rfl rfl ?_
                  refine wla rfl rfl (q_pick_f (v := (.bool false)) rfl rfl rfl) ?_
                  refine wla rfl rfl (q_assign (v := (.bool false)) rfl rfl) ?_
                  refine wl_nil ?_
                  refine W_th ?_
                  refine W_ret ?_
                  refine th_r ?_
                  obtain rfl := Option.some.inj H
                  refine rt1 (.bool false) rfl rfl rfl s127_31 ?_
                  exact ⟨rfl, e33⟩
              · replace H := (if_neg (of_decide_eq_false hb35)).symm.trans H
                refine wlk rfl rfl ?_
                refine wlk rfl rfl ?_
                refine wla rfl rfl (q_pick_f (v := (.bool false)) rfl rfl rfl) ?_
                refine wla rfl rfl (q_move (v := (.bool false)) rfl rfl) ?_
                refine wlk rfl rfl ?_
                refine wlk rfl rfl ?_
                refine wlk rfl rfl ?_
                refine wla rfl rfl (q_pick_f (v := (.bool false)) rfl rfl rfl) ?_
                refine wla rfl rfl (q_assign (v := (.bool false)) rfl rfl) ?_
                refine wl_nil ?_
                refine W_th ?_
                refine W_ret ?_
                refine th_r ?_
                obtain rfl := Option.some.inj H
                refine rt1 (.bool false) rfl rfl rfl s127_31 ?_
                exact ⟨rfl, e33⟩
            · replace H := (if_pos (ndec_f hb34)).symm.trans H
              refine wla rfl rfl (q_move (v := (i64 r32.2)) rfl rfl) ?_
              refine wla rfl rfl (q_neI rfl rfl rfl) ?_
              refine wla rfl rfl (q_pick_f (v := (.bool ((!decide (r32.2 = 1))))) rfl rfl rfl) ?_
              refine wlb rfl rfl (q_move (v := (.bool ((!decide (r32.2 = 1))))) rfl rfl) (fun hb37 => ?_) (fun hb37 => ?_)
              · replace H := (if_neg (ndec_t hb37)).symm.trans H
                refine wlk rfl rfl ?_
                refine wlk rfl rfl ?_
                refine wla rfl rfl (q_pick_t (v := (.bool true)) rfl rfl rfl) ?_
                refine wl_nil ?_
                refine W_th ?_
                refine W_cond true rfl rfl (fun _ => ?_) (fun hb => by cases hb)
                refine W_seq ?_
                refine W_reg (by kernel_rfl) ?_
                refine wla rfl rfl (q_move (v := (i64 r14.2)) rfl s9_31) ?_
                refine wla rfl rfl (q_move (v := (i64 x23)) rfl s13_31) ?_
                refine wla rfl rfl (q_eqI rfl rfl rfl) ?_
                refine wlb rfl rfl (q_move (v := (.bool ((decide (r14.2 = x23))))) rfl rfl) (fun hb38 => ?_) (fun hb38 => ?_)
                · replace H := (if_pos (of_decide_eq_true hb38)).symm.trans H
                  refine wla rfl rfl (q_move (v := (i64 r32.2)) rfl rfl) ?_
                  refine wla rfl rfl (q_eqI rfl rfl rfl) ?_
                  refine wla rfl rfl (q_pick_t (v := (.bool ((decide (r32.2 = 1))))) rfl rfl rfl) ?_
                  refine wlb rfl rfl (q_move (v := (.bool ((decide (r32.2 = 1))))) rfl rfl) (fun hb39 => ?_) (fun hb39 => ?_)
                  · replace H := (if_pos (of_decide_eq_true hb39)).symm.trans H
                    refine wla rfl rfl (q_move (v := v14_0) rfl s8_31) ?_
                    refine wla rfl rfl (q_len rfl T22.sl rfl i0_31) ?_
                    refine wla rfl rfl (q_eqI rfl rfl rfl) ?_
                    refine wla rfl rfl (q_pick_t (v := (.bool ((decide ((r14.1.length : Int) = 0))))) rfl rfl rfl) ?_
                    refine wla rfl rfl (q_assign (v := (.bool ((decide ((r14.1.length : Int) = 0))))) rfl rfl) ?_
                    refine wl_nil ?_
                    refine W_th ?_
                    refine W_ret ?_
                    refine th_r ?_
                    obtain rfl := Option.some.inj H
                    refine rt1 (.bool ((decide ((r14.1.length : Int) = 0)))) rfl rfl rfl s127_31 ?_
                    exact ⟨rfl, e33⟩
                  · replace H := (if_neg (of_decide_eq_false hb39)).symm.trans H
                    refine wlk rfl rfl ?_
                    refine wlk rfl rfl ?_
                    refine wlk rfl rfl ?_
                    refine wla rfl rfl (q_pick_f (v := (.bool false)) rfl rfl rfl) ?_
                    refine wla rfl rfl (q_assign (v := (.bool false)) rfl rfl) ?_
                    refine wl_nil ?_
                    refine W_th ?_
                    refine W_ret ?_
                    refine th_r ?_
                    obtain rfl := Option.some.inj H
                    refine rt1 (.bool false) rfl rfl rfl s127_31 ?_
                    exact ⟨rfl, e33⟩
                · replace H := (if_neg (of_decide_eq_false hb38)).symm.trans H
                  refine wlk rfl rfl ?_
                  refine wlk rfl rfl ?_
                  refine wla rfl rfl (q_pick_f (v := (.bool false)) rfl rfl rfl) ?_
                  refine wla rfl rfl (q_move (v := (.bool false)) rfl rfl) ?_
                  refine wlk rfl rfl ?_
                  refine wlk rfl rfl ?_
                  refine wlk rfl rfl ?_
                  refine wla rfl rfl (q_pick_f (v := (.bool false)) rfl rfl rfl) ?_
                  refine wla rfl rfl (q_assign (v := (.bool false)) rfl rfl) ?_
                  refine wl_nil ?_
                  refine W_th ?_
                  refine W_ret ?_
                  refine th_r ?_
                  obtain rfl := Option.some.inj H
                  refine rt1 (.bool false) rfl rfl rfl s127_31 ?_
                  exact ⟨rfl, e33⟩
              · replace H := (if_pos (ndec_f hb37)).symm.trans H
                refine wla rfl rfl (q_move (v := (i64 x23)) rfl s13_31) ?_
                refine wla rfl rfl (q_neI rfl rfl rfl) ?_
                refine wla rfl rfl (q_pick_f (v := (.bool ((!decide (x23 = 0))))) rfl rfl rfl) ?_
                refine wl_nil ?_
                refine W_th ?_
                refine W_cond _ rfl rfl (fun hb40 => ?_) (fun hb40 => ?_)
                · replace H := (if_neg (ndec_t hb40)).symm.trans H
                  refine W_seq ?_
                  refine W_reg (by kernel_rfl) ?_
                  refine wla rfl rfl (q_move (v := (i64 r14.2)) rfl s9_31) ?_
                  refine wla rfl rfl (q_move (v := (i64 x23)) rfl s13_31) ?_
                  refine wla rfl rfl (q_eqI rfl rfl rfl) ?_
                  refine wlb rfl rfl (q_move (v := (.bool ((decide (r14.2 = x23))))) rfl rfl) (fun hb41 => ?_) (fun hb41 => ?_)
                  · replace H := (if_pos (of_decide_eq_true hb41)).symm.trans H
                    refine wla rfl rfl (q_move (v := (i64 r32.2)) rfl rfl) ?_
                    refine wla rfl rfl (q_eqI rfl rfl rfl) ?_
                    refine wla rfl rfl (q_pick_t (v := (.bool ((decide (r32.2 = 1))))) rfl rfl rfl) ?_
                    refine wlb rfl rfl (q_move (v := (.bool ((decide (r32.2 = 1))))) rfl rfl) (fun hb42 => ?_) (fun hb42 => ?_)
                    · replace H := (if_pos (of_decide_eq_true hb42)).symm.trans H
                      refine wla rfl rfl (q_move (v := v14_0) rfl s8_31) ?_
                      refine wla rfl rfl (q_len rfl T22.sl rfl i0_31) ?_
                      refine wla rfl rfl (q_eqI rfl rfl rfl) ?_
                      refine wla rfl rfl (q_pick_t (v := (.bool ((decide ((r14.1.length : Int) = 0))))) rfl rfl rfl) ?_
                      refine wla rfl rfl (q_assign (v := (.bool ((decide ((r14.1.length : Int) = 0))))) rfl rfl) ?_
                      refine wl_nil ?_
                      refine W_th ?_
                      refine W_ret ?_
                      refine th_r ?_
                      obtain rfl := Option.some.inj H
                      refine rt1 (.bool ((decide ((r14.1.length : Int) = 0)))) rfl rfl rfl s127_31 ?_
                      exact ⟨rfl, e33⟩
                    · replace H := (if_neg (of_decide_eq_false hb42)).symm.trans H
                      refine wlk rfl rfl ?_
                      refine wlk rfl rfl ?_
                      refine wlk rfl rfl ?_
                      refine wla rfl rfl (q_pick_f (v := (.bool false)) rfl rfl rfl) ?_
                      refine wla rfl rfl (q_assign (v := (.bool false)) rfl rfl) ?_
                      refine wl_nil ?_
                      refine W_th ?_
                      refine W_ret ?_
                      refine th_r ?_
                      obtain rfl := Option.some.inj H
                      refine rt1 (.bool false) rfl rfl rfl s127_31 ?_
                      exact ⟨rfl, e33⟩
                  · replace H := (if_neg (of_decide_eq_false hb41)).symm.trans H
                    refine wlk rfl rfl ?_
                    refine wlk rfl rfl ?_
                    refine wla rfl rfl (q_pick_f (v := (.bool false)) rfl rfl rfl) ?_
                    refine wla rfl rfl (q_move (v := (.bool false)) rfl rfl) ?_
                    refine wlk rfl rfl ?_
                    refine wlk rfl rfl ?_
                    refine wlk rfl rfl ?_
                    refine wla rfl rfl (q_pick_f (v := (.bool false)) rfl rfl rfl) ?_
                    refine wla rfl rfl (q_assign (v := (.bool false)) rfl rfl) ?_
                    refine wl_nil ?_
                    refine W_th ?_
                    refine W_ret ?_
                    refine th_r ?_
                    obtain rfl := Option.some.inj H
                    refine rt1 (.bool false) rfl rfl rfl s127_31 ?_
                    exact ⟨rfl, e33⟩
                · replace H := (if_pos (ndec_f hb40)).symm.trans H
                  refine W_skip ?_
                  refine W_th ?_
                  refine W_seq ?_
                  refine W_reg (by kernel_rfl) ?_
                  refine wla rfl rfl (q_move (v := p1) rfl s1_31) ?_
                  refine wla rfl rfl (q_move (v := p2) rfl s2_31) ?_
                  obtain ⟨r43, hr43, H⟩ := Option.bind_eq_some_iff.1 H
                  refine wls rfl rfl (stp_call (vs := [p1, p2]) Try.func26 rfl rfl rfl (ar2 rfl rfl) (ref03_Through_calls a1xs a2ys p1 p2 r43 _ (hp1.lift (Lift.ext e33 _)) (hp2.lift (Lift.ext e33 _)) hr43) ?_)
                  rintro _ w43 ⟨v43, rfl, x43, n43_0, o43_0⟩
                  refine ⟨_, rfl, ?_⟩
                  have i43_0 : By w43 [] v43 r43 := OwK.slk (Sc.stab _) _ (OwK.scal o43_0 (v43 :: [])) (fun k hk => (Old.nil _) k (n43_0 k hk)) (fun _ h => h.2)
                  replace i0_31 := i0_31.lift (Lift.ext x43 _)
                  replace i32_0 := i32_0.lift (Lift.ext x43 _)
                  have e44 := e33.trans x43
                  refine wla rfl rfl (q_assign (v := v43) rfl rfl) ?_
                  refine wl_nil ?_
                  refine W_th ?_
                  refine W_seq ?_
                  refine W_draw [1, 9] [(0, 0), (1, 1), (2, 0), (3, 0), (4, 0), (5, 0), (6, 0), (7, 0), (8, 2), (9, 1), (10, 0), (11, 0), (12, 0), (14, 0), (15, 0), (16, 0), (17, 0), (13, 2), (18, 0), (19, 0), (20, 0)] mixed (by kernel_rfl) (by kernel_rfl) (by kernel_rfl) (by kernel_rfl) ?_
                  have x45 := Ext.drew w43
                  replace i0_31 := i0_31.lift (Lift.ext x45 _)
                  replace i32_0 := i32_0.lift (Lift.ext x45 _)
                  replace i43_0 := i43_0.lift (Lift.ext x45 _)
                  have e46 := e44.trans x45
                  refine wsa rfl rfl rfl (q_move (v := v14_0) rfl s8_31) ?_
                  refine wsq rfl rfl rfl (q_str rfl T22 rfl rfl rfl i0_31) ?_
                  refine wsa rfl rfl rfl (q_move (v := p1) rfl s1_31) ?_
                  refine wsa rfl rfl rfl (q_len rfl T22.sl rfl (hp1.lift (Lift.ext e46 _))) ?_
                  refine wsa rfl rfl rfl (q_move (v := (i64 a0t)) rfl s0_31) ?_
                  refine wsa rfl rfl rfl (q_subI rfl rfl rfl) ?_
                  refine wsa rfl rfl rfl (q_move (v := p1) rfl s1_31) ?_
                  refine wsa rfl rfl rfl (q_move (v := p2) rfl s2_31) ?_
                  obtain ⟨r47, hr47, H⟩ := Option.bind_eq_some_iff.1 H
                  refine wss rfl rfl rfl (stp_call (vs := [(i64 ((wI ((a1xs.length : Int) - a0t)))), p1, p2]) Try.func27 rfl rfl rfl (ar3 rfl rfl rfl) (ref30_Syndromes_calls (wI ((a1xs.length : Int) - a0t)) a1xs a2ys p1 p2 r47 _ (hp1.lift (Lift.ext e46 _)) (hp2.lift (Lift.ext e46 _)) hr47) ?_)
                  rintro _ w47 ⟨v47, rfl, x47, n47_0, o47_0⟩
                  refine ⟨_, rfl, x47, ?_⟩
                  have i47_0 : By w47 [] v47 r47 := OwK.slk (Sc.stab _) _ (OwK.scal o47_0 (v47 :: [])) (fun k hk => (Old.nil _) k (n47_0 k hk)) (fun _ h => h.2)
                  replace i0_31 := i0_31.lift (Lift.ext x47 _)
                  replace i32_0 := i32_0.lift (Lift.ext x47 _)
                  replace i43_0 := i43_0.lift (Lift.ext x47 _)
                  have e48 := e46.trans x47
                  refine wsq rfl rfl rfl (q_str rfl T22 rfl rfl rfl i47_0) ?_
                  refine wsa rfl rfl rfl (q_eqS rfl rfl rfl) ?_
                  refine wsb rfl rfl rfl (q_move (v := (.bool ((decide (r14.1 = r47))))) rfl rfl) (fun hb49 => ?_) (fun hb49 => ?_)
                  · replace H := (if_pos (of_decide_eq_true hb49)).symm.trans H
                    refine wsa rfl rfl rfl (q_move (v := v14_0) rfl s8_31) ?_
                    refine wsa rfl rfl rfl (q_move (v := v43) rfl rfl) ?_
                    refine wsa rfl rfl rfl (q_len rfl T22.sl rfl i43_0) ?_
                    refine wsa rfl rfl rfl (q_move (v := (i64 a0t)) rfl s0_31) ?_
                    refine wsa rfl rfl rfl (q_leI rfl rfl rfl) ?_
                    obtain ⟨r50, hr50, H⟩ := Option.bind_eq_some_iff.1 H
                    refine wsc rfl (by kernel_rfl) rfl rfl (stp_call (vs := [v14_0]) Try.func28 rfl rfl rfl (ar1 rfl) (word_Zero_calls r14.1 v14_0 r50 _ (i0_31.lift (Lift.sub (fun _ _ => trivial))) hr50) ?_)
                    rintro _ w50 ⟨rfl, x50⟩
                    refine ⟨_, rfl, ?_⟩
                    replace i0_31 := i0_31.lift (Lift.ext x50 _)
                    replace i32_0 := i32_0.lift (Lift.ext x50 _)
                    replace i43_0 := i43_0.lift (Lift.ext x50 _)
                    replace i47_0 := i47_0.lift (Lift.ext x50 _)
                    have e51 := e48.trans x50
                    refine wsa rfl rfl rfl (q_eqB rfl (by kernel_rfl) rfl rfl) ?_
                    refine wsa rfl rfl rfl (q_pick_t (v := (.bool ((r50 == ((decide ((r43.length : Int) ≤ a0t))))))) rfl rfl rfl) ?_
                    refine wsa rfl rfl rfl (q_assign (v := (.bool ((r50 == ((decide ((r43.length : Int) ≤ a0t))))))) rfl rfl) ?_
                    refine ws_nil ?_
                    refine W_th ?_
                    refine W_ret ?_
                    obtain rfl := Option.some.inj H
                    refine rt1 (.bool ((r50 == ((decide ((r43.length : Int) ≤ a0t)))))) rfl rfl rfl s127_31 ?_
                    exact ⟨rfl, e51⟩
                  · replace H := (if_neg (of_decide_eq_false hb49)).symm.trans H
                    refine wsk rfl rfl rfl ?_
                    refine wsk rfl rfl rfl ?_
                    refine wsk rfl rfl rfl ?_
                    refine wsk rfl rfl rfl ?_
                    refine wsk rfl rfl rfl ?_
                    refine wsk rfl rfl rfl ?_
                    refine wsk rfl rfl rfl ?_
                    refine wsa rfl rfl rfl (q_pick_f (v := (.bool false)) rfl rfl rfl) ?_
                    refine wsa rfl rfl rfl (q_assign (v := (.bool false)) rfl rfl) ?_
                    refine ws_nil ?_
                    refine W_th ?_
                    refine W_ret ?_
                    obtain rfl := Option.some.inj H
                    refine rt1 (.bool false) rfl rfl rfl s127_31 ?_
                    exact ⟨rfl, e48⟩

end Gk

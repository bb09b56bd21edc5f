/- Parts LAc, Mc, Md, Mp, Mv, Mz, Mq, Mr0, Mu0, Ms0, Mw, Mx0, Na, Pa, Oy, Pb, Pc, Pd, Pe, Nd0, Pf, Ph, one behind the other. What is proved: said at the head of each part. No condition beside those said there. -/
import Derived.Test.YtpakbhiabgcglaaRows
import Derived.Orders
import Derived.Deep.Draws
import Derived.Laws.World
import Derived.KernelRfl
import Derived.OrdersIn
import Derived.TacticsIn
import Derived.RangeFuncCalls
import Derived.Deep.LoopGhost
import Derived.Tactics
import Derived.Sort.LoopGhostIn
import Derived.RangeFuncLeaves
import Derived.RangeFuncNested
import Derived.RangeFuncRecord
import Derived.Laws.Sem
import Derived.OwnWalk
import Derived.RangeFuncWrites
import Derived.Laws.IdiomCopy
import Derived.WalkKit
import Derived.ProofKit
import Derived.OpenShut
import Derived.ChangeOld
import Derived.Below
import Derived.Test.YtpakbhiabgcglaaProg
import Derived.MapKept
import Derived.Lib.AppendZerosOnto
import Derived.Test.YtpakbhiabgcglaaZPSyndromeTells1
import Derived.Test.YtpakbhiabgcglaaZPSyndromeTells2
import Derived.Test.YtpakbhiabgcglaaZPSyndromeTells3
import Derived.Test.YtpakbhiabgcglaaZPSyndromeTells4
/- Printed by gen.py: for each Go function a pure function, and that the Go code comes to it. No condition beside the equation that says what the pure function gives. -/

set_option linter.unusedVariables false
set_option linter.unusedSimpArgs false
namespace Gk
open Go Go.Proofs

/-! largesse/largesselaw30.SyndromeAdds -/
noncomputable def law30_SyndromeAdds (a0t : Int) (a1xs : List UInt8) (a2ys : List UInt8) (a3zs : List UInt8) : Option Bool :=
((law30_lives ).bind fun r1 =>
(if (!r1) = true then
((law30_lives ).bind fun r4 => some r4)
else
(if 16 < (a1xs.length : Int) then
((law30_lives ).bind fun r7 => some r7)
else
(if 16 < (a2ys.length : Int) then
((law30_lives ).bind fun r10 => some r10)
else
(if 100 < (a3zs.length : Int) then
((law30_lives ).bind fun r13 => some r13)
else
((field_New ).bind fun r15 =>
((syndrome_Syndromes r15 a0t a1xs a2ys).bind fun r17 =>
(if r17.2 = 0 then
((law08_Made a3zs (a2ys.length : Int)).bind fun r20 =>
((syndrome_Syndromes r15 a0t a1xs r20).bind fun r22 =>
((word_Xor a2ys r20).bind fun r24 =>
((syndrome_Syndromes r15 a0t a1xs r24).bind fun r26 =>
(if r22.2 = 0 then
(if r26.2 = 0 then
((word_Xor r17.1 r22.1).bind fun r32 =>
(if r26.1 = r32 then some (decide ((r17.1.length : Int) = (wI ((a1xs.length : Int) - a0t))))
else some false))
else some false)
else some false)))))
else some (decide ((r17.1.length : Int) = 0))))))))))
set_option maxRecDepth 100000 in
set_option maxHeartbeats 8000000 in
theorem law30_SyndromeAdds_calls (a0t : Int) (a1xs : List UInt8) (a2ys : List UInt8) (a3zs : List UInt8) (p1 : Value) (p2 : Value) (p3 : Value) (r : Bool) (w0 : World) (hp1 : By w0 [] p1 a1xs) (hp2 : By w0 [] p2 a2ys) (hp3 : By w0 [] p3 a3zs) (H : law30_SyndromeAdds a0t a1xs a2ys a3zs = some r) :
    Calls Try.prog 8 [(i64 a0t), p1, p2, p3].toArray w0 (fun e w' => e = .returned (.bool r) ∧ Ext w0 w') := by
  have hE : Ext w0 w0 := Ext.refl w0
  unfold law30_SyndromeAdds at H
  refine calls_W (n := 95) Try.func8 rfl rfl rfl ?_
  refine W_seq ?_
  refine W_reg (by kernel_rfl) ?_
  refine wla rfl rfl (q_assign (v := (.bool false)) rfl rfl) ?_
  refine wl_nil ?_
  refine W_th ?_
  refine W_seq ?_
  refine W_seq ?_
  refine W_reg (by kernel_rfl) ?_
  obtain ⟨r1, hr1, H⟩ := Option.bind_eq_some_iff.1 H
  refine wls rfl rfl (stp_call (vs := []) Try.func24 rfl rfl rfl (ar0 ) (law30_lives_calls   r1 _  hr1) ?_)
  rintro _ w1 ⟨rfl, x1⟩
  refine ⟨_, rfl, ?_⟩
  have e2 := hE.trans x1
  refine wla rfl rfl (q_not rfl rfl) ?_
  refine wlb rfl rfl (q_move (v := (.bool ((!r1)))) rfl rfl) (fun hb3 => ?_) (fun hb3 => ?_)
  · replace H := (if_pos hb3).symm.trans H
    refine wlk rfl rfl ?_
    refine wlk rfl rfl ?_
    refine wlk rfl rfl ?_
    refine wla rfl rfl (q_pick_t (v := (.bool true)) rfl rfl rfl) ?_
    refine wla rfl rfl (q_move (v := (.bool true)) rfl rfl) ?_
    refine wlk rfl rfl ?_
    refine wlk rfl rfl ?_
    refine wlk rfl rfl ?_
    refine wla rfl rfl (q_pick_t (v := (.bool true)) rfl rfl rfl) ?_
    refine wla rfl rfl (q_move (v := (.bool true)) rfl rfl) ?_
    refine wlk rfl rfl ?_
    refine wlk rfl rfl ?_
    refine wlk rfl rfl ?_
    refine wla rfl rfl (q_pick_t (v := (.bool true)) rfl rfl rfl) ?_
    refine wl_nil ?_
    refine W_th ?_
    refine W_cond true rfl rfl (fun _ => ?_) (fun hb => by cases hb)
    refine W_seq ?_
    refine W_reg (by kernel_rfl) ?_
    obtain ⟨r4, hr4, H⟩ := Option.bind_eq_some_iff.1 H
    refine wls rfl rfl (stp_call (vs := []) Try.func24 rfl rfl rfl (ar0 ) (law30_lives_calls   r4 _  hr4) ?_)
    rintro _ w4 ⟨rfl, x4⟩
    refine ⟨_, rfl, ?_⟩
    have e5 := e2.trans x4
    refine wla rfl rfl (q_assign (v := (.bool r4)) rfl rfl) ?_
    refine wl_nil ?_
    refine W_th ?_
    refine W_ret ?_
    refine th_r ?_
    obtain rfl := Option.some.inj H
    refine rt1 (.bool r4) rfl rfl rfl rfl ?_
    exact ⟨rfl, e5⟩
  · replace H := (if_neg (ne_true_of_eq_false hb3)).symm.trans H
    refine wla rfl rfl (q_move (v := p1) rfl rfl) ?_
    refine wla rfl rfl (q_len rfl T22.sl rfl (hp1.lift (Lift.ext e2 _))) ?_
    refine wla rfl rfl (q_gtI rfl rfl rfl) ?_
    refine wla rfl rfl (q_pick_f (v := (.bool ((decide (16 < (a1xs.length : Int)))))) rfl rfl rfl) ?_
    refine wlb rfl rfl (q_move (v := (.bool ((decide (16 < (a1xs.length : Int)))))) rfl rfl) (fun hb6 => ?_) (fun hb6 => ?_)
    · replace H := (if_pos (of_decide_eq_true hb6)).symm.trans H
      refine wlk rfl rfl ?_
      refine wlk rfl rfl ?_
      refine wlk rfl rfl ?_
      refine wla rfl rfl (q_pick_t (v := (.bool true)) rfl rfl rfl) ?_
      refine wla rfl rfl (q_move (v := (.bool true)) rfl rfl) ?_
      refine wlk rfl rfl ?_
      refine wlk rfl rfl ?_
      refine wlk rfl rfl ?_
      refine wla rfl rfl (q_pick_t (v := (.bool true)) rfl rfl rfl) ?_
      refine wl_nil ?_
      refine W_th ?_
      refine W_cond true rfl rfl (fun _ => ?_) (fun hb => by cases hb)
      refine W_seq ?_
      refine W_reg (by kernel_rfl) ?_
      obtain ⟨r7, hr7, H⟩ := Option.bind_eq_some_iff.1 H
      refine wls rfl rfl (stp_call (vs := []) Try.func24 rfl rfl rfl (ar0 ) (law30_lives_calls   r7 _  hr7) ?_)
      rintro _ w7 ⟨rfl, x7⟩
      refine ⟨_, rfl, ?_⟩
      have e8 := e2.trans x7
      refine wla rfl rfl (q_assign (v := (.bool r7)) rfl rfl) ?_
      refine wl_nil ?_
      refine W_th ?_
      refine W_ret ?_
      refine th_r ?_
      obtain rfl := Option.some.inj H
      refine rt1 (.bool r7) rfl rfl rfl rfl ?_
      exact ⟨rfl, e8⟩
    · replace H := (if_neg (of_decide_eq_false hb6)).symm.trans H
      refine wla rfl rfl (q_move (v := p2) rfl rfl) ?_
      refine wla rfl rfl (q_len rfl T22.sl rfl (hp2.lift (Lift.ext e2 _))) ?_
      refine wla rfl rfl (q_gtI rfl rfl rfl) ?_
      refine wla rfl rfl (q_pick_f (v := (.bool ((decide (16 < (a2ys.length : Int)))))) rfl rfl rfl) ?_
      refine wlb rfl rfl (q_move (v := (.bool ((decide (16 < (a2ys.length : Int)))))) rfl rfl) (fun hb9 => ?_) (fun hb9 => ?_)
      · replace H := (if_pos (of_decide_eq_true hb9)).symm.trans H
        refine wlk rfl rfl ?_
        refine wlk rfl rfl ?_
        refine wlk rfl rfl ?_
        refine wla rfl rfl (q_pick_t (v := (.bool true)) rfl rfl rfl) ?_
        refine wl_nil ?_
        refine W_th ?_
        refine W_cond true rfl rfl (fun _ => ?_) (fun hb => by cases hb)
        refine W_seq ?_
        refine W_reg (by kernel_rfl) ?_
        obtain ⟨r10, hr10, H⟩ := Option.bind_eq_some_iff.1 H
        refine wls rfl rfl (stp_call (vs := []) Try.func24 rfl rfl rfl (ar0 ) (law30_lives_calls   r10 _  hr10) ?_)
        rintro _ w10 ⟨rfl, x10⟩
        refine ⟨_, rfl, ?_⟩
        have e11 := e2.trans x10
        refine wla rfl rfl (q_assign (v := (.bool r10)) rfl rfl) ?_
        refine wl_nil ?_
        refine W_th ?_
        refine W_ret ?_
        refine th_r ?_
        obtain rfl := Option.some.inj H
        refine rt1 (.bool r10) rfl rfl rfl rfl ?_
        exact ⟨rfl, e11⟩
      · replace H := (if_neg (of_decide_eq_false hb9)).symm.trans H
        refine wla rfl rfl (q_move (v := p3) rfl rfl) ?_
        refine wla rfl rfl (q_len rfl T22.sl rfl (hp3.lift (Lift.ext e2 _))) ?_
        refine wla rfl rfl (q_gtI rfl rfl rfl) ?_
        refine wla rfl rfl (q_pick_f (v := (.bool ((decide (100 < (a3zs.length : Int)))))) rfl rfl rfl) ?_
        refine wl_nil ?_
        refine W_th ?_
        refine W_cond _ rfl rfl (fun hb12 => ?_) (fun hb12 => ?_)
        · replace H := (if_pos (of_decide_eq_true hb12)).symm.trans H
          refine W_seq ?_
          refine W_reg (by kernel_rfl) ?_
          obtain ⟨r13, hr13, H⟩ := Option.bind_eq_some_iff.1 H
          refine wls rfl rfl (stp_call (vs := []) Try.func24 rfl rfl rfl (ar0 ) (law30_lives_calls   r13 _  hr13) ?_)
          rintro _ w13 ⟨rfl, x13⟩
          refine ⟨_, rfl, ?_⟩
          have e14 := e2.trans x13
          refine wla rfl rfl (q_assign (v := (.bool r13)) rfl rfl) ?_
          refine wl_nil ?_
          refine W_th ?_
          refine W_ret ?_
          refine th_r ?_
          obtain rfl := Option.some.inj H
          refine rt1 (.bool r13) rfl rfl rfl rfl ?_
          exact ⟨rfl, e14⟩
        · replace H := (if_neg (of_decide_eq_false hb12)).symm.trans H
          refine W_skip ?_
          refine W_th ?_
          refine W_seq ?_
          refine W_reg (by kernel_rfl) ?_
          obtain ⟨r15, hr15, H⟩ := Option.bind_eq_some_iff.1 H
          refine wls rfl rfl (stp_call (vs := []) Try.func12 rfl rfl rfl (ar0 ) (field_New_calls   r15 _ [] (Old.nil _)  hr15) ?_)
          rintro _ w15 ⟨v15, rfl, x15, i15_0⟩
          refine ⟨_, rfl, ?_⟩
          have e16 := e2.trans x15
          refine wla rfl rfl (q_assign (v := v15) rfl rfl) ?_
          refine wl_nil ?_
          refine W_th ?_
          refine W_seq ?_
          refine W_reg (by kernel_rfl) ?_
          refine wla rfl rfl (q_move (v := v15) rfl rfl) ?_
          refine wla rfl rfl (q_move (v := (i64 a0t)) rfl rfl) ?_
          refine wla rfl rfl (q_move (v := p1) rfl rfl) ?_
          refine wla rfl rfl (q_move (v := p2) rfl rfl) ?_
          obtain ⟨r17, hr17, H⟩ := Option.bind_eq_some_iff.1 H
          refine wls rfl rfl (stp_call (vs := [v15, (i64 a0t), p1, p2]) Try.func25 rfl rfl rfl (ar4 rfl rfl rfl rfl) (syndrome_Syndromes_calls r15 a0t a1xs a2ys v15 p1 p2 r17 _ (i15_0.lift (Lift.sub (fun _ _ => trivial))) (hp1.lift (Lift.ext e16 _)) (hp2.lift (Lift.ext e16 _)) hr17) ?_)
          rintro _ w17 ⟨v17_0, rfl, x17, n17_0, o17_0⟩
          refine ⟨_, rfl, ?_⟩
          have i17_0 : By w17 [] v17_0 r17.1 := OwK.slk (Sc.stab _) _ (OwK.scal o17_0 (v17_0 :: [])) (fun k hk => (Old.nil _) k (n17_0 k hk)) (fun _ h => h.2)
          replace i15_0 := i15_0.lift (Lift.ext x17 _)
          have e18 := e16.trans x17
          refine wla rfl rfl (q_move (v := (.tuple #[v17_0, (i64 r17.2)])) rfl rfl) ?_
          refine wla rfl rfl (q_extract rfl rfl rfl) ?_
          refine wla rfl rfl (q_extract rfl rfl rfl) ?_
          refine wla rfl rfl (q_assign (v := v17_0) rfl rfl) ?_
          refine wla rfl rfl (q_assign (v := (i64 r17.2)) rfl rfl) ?_
          refine wl_nil ?_
          refine W_th ?_
          refine W_seq ?_
          refine W_seq ?_
          refine W_reg (by kernel_rfl) ?_
          refine wla rfl rfl (q_move (v := (i64 r17.2)) rfl rfl) ?_
          refine wla rfl rfl (q_neI rfl rfl rfl) ?_
          refine wl_nil ?_
          refine W_th ?_
          refine W_cond _ rfl rfl (fun hb19 => ?_) (fun hb19 => ?_)
          · replace H := (if_neg (ndec_t hb19)).symm.trans H
            refine W_seq ?_
            refine W_reg (by kernel_rfl) ?_
            refine wla rfl rfl (q_move (v := v17_0) rfl rfl) ?_
            refine wla rfl rfl (q_len rfl T22.sl rfl i17_0) ?_
            refine wla rfl rfl (q_eqI rfl rfl rfl) ?_
            refine wla rfl rfl (q_assign (v := (.bool ((decide ((r17.1.length : Int) = 0))))) rfl rfl) ?_
            refine wl_nil ?_
            refine W_th ?_
            refine W_ret ?_
            refine th_r ?_
            obtain rfl := Option.some.inj H
            refine rt1 (.bool ((decide ((r17.1.length : Int) = 0)))) rfl rfl rfl rfl ?_
            exact ⟨rfl, e18⟩
          · replace H := (if_pos (ndec_f hb19)).symm.trans H
            refine W_skip ?_
            refine W_th ?_
            refine W_seq ?_
            refine W_reg (by kernel_rfl) ?_
            refine wla rfl rfl (q_move (v := p3) rfl rfl) ?_
            refine wla rfl rfl (q_move (v := p2) rfl rfl) ?_
            refine wla rfl rfl (q_len rfl T22.sl rfl (hp2.lift (Lift.ext e18 _))) ?_
            obtain ⟨r20, hr20, H⟩ := Option.bind_eq_some_iff.1 H
            refine wls rfl rfl (stp_call (vs := [p3, (i64 ((a2ys.length : Int)))]) Try.func32 rfl rfl rfl (ar2 rfl rfl) (law08_Made_calls a3zs (a2ys.length : Int) p3 r20 _ (hp3.lift (Lift.ext e18 _)) hr20) ?_)
            rintro _ w20 ⟨v20, rfl, x20, n20_0, o20_0⟩
            refine ⟨_, rfl, ?_⟩
            have i20_0 : By w20 [] v20 r20 := OwK.slk (Sc.stab _) _ (OwK.scal o20_0 (v20 :: [])) (fun k hk => (Old.nil _) k (n20_0 k hk)) (fun _ h => h.2)
            replace i15_0 := i15_0.lift (Lift.ext x20 _)
            replace i17_0 := i17_0.lift (Lift.ext x20 _)
            have e21 := e18.trans x20
            refine wla rfl rfl (q_assign (v := v20) rfl rfl) ?_
            refine wl_nil ?_
            refine W_th ?_
            refine W_seq ?_
            refine W_reg (by kernel_rfl) ?_
            refine wla rfl rfl (q_move (v := v15) rfl rfl) ?_
            refine wla rfl rfl (q_move (v := (i64 a0t)) rfl rfl) ?_
            refine wla rfl rfl (q_move (v := p1) rfl rfl) ?_
            refine wla rfl rfl (q_move (v := v20) rfl rfl) ?_
            obtain ⟨r22, hr22, H⟩ := Option.bind_eq_some_iff.1 H
            refine wls rfl rfl (stp_call (vs := [v15, (i64 a0t), p1, v20]) Try.func25 rfl rfl rfl (ar4 rfl rfl rfl rfl) (syndrome_Syndromes_calls r15 a0t a1xs r20 v15 p1 v20 r22 _ (i15_0.lift (Lift.sub (fun _ _ => trivial))) (hp1.lift (Lift.ext e21 _)) (i20_0.lift (Lift.sub (fun _ _ => trivial))) hr22) ?_)
            rintro _ w22 ⟨v22_0, rfl, x22, n22_0, o22_0⟩
            refine ⟨_, rfl, ?_⟩
            have i22_0 : By w22 [] v22_0 r22.1 := OwK.slk (Sc.stab _) _ (OwK.scal o22_0 (v22_0 :: [])) (fun k hk => (Old.nil _) k (n22_0 k hk)) (fun _ h => h.2)
            replace i15_0 := i15_0.lift (Lift.ext x22 _)
            replace i17_0 := i17_0.lift (Lift.ext x22 _)
            replace i20_0 := i20_0.lift (Lift.ext x22 _)
            have e23 := e21.trans x22
            refine wla rfl rfl (q_move (v := (.tuple #[v22_0, (i64 r22.2)])) rfl rfl) ?_
            refine wla rfl rfl (q_extract rfl rfl rfl) ?_
            refine wla rfl rfl (q_extract rfl rfl rfl) ?_
            refine wla rfl rfl (q_assign (v := v22_0) rfl rfl) ?_
            refine wla rfl rfl (q_assign (v := (i64 r22.2)) rfl rfl) ?_
            refine wl_nil ?_
            refine W_th ?_
            refine W_seq ?_
            refine W_reg (by kernel_rfl) ?_
            refine wla rfl rfl (q_move (v := v15) rfl rfl) ?_
            refine wla rfl rfl (q_move (v := (i64 a0t)) rfl rfl) ?_
            refine wla rfl rfl (q_move (v := p1) rfl rfl) ?_
            refine wla rfl rfl (q_move (v := p2) rfl rfl) ?_
            refine wla rfl rfl (q_move (v := v20) rfl rfl) ?_
            obtain ⟨r24, hr24, H⟩ := Option.bind_eq_some_iff.1 H
            refine wls rfl rfl (stp_call (vs := [p2, v20]) Try.func33 rfl rfl rfl (ar2 rfl rfl) (word_Xor_calls a2ys r20 p2 v20 r24 _ (hp2.lift (Lift.ext e23 _)) (i20_0.lift (Lift.sub (fun _ _ => trivial))) hr24) ?_)
            rintro _ w24 ⟨v24, rfl, x24, n24_0, o24_0⟩
            refine ⟨_, rfl, ?_⟩
            have i24_0 : By w24 [] v24 r24 := OwK.slk (Sc.stab _) _ (OwK.scal o24_0 (v24 :: [])) (fun k hk => (Old.nil _) k (n24_0 k hk)) (fun _ h => h.2)
            replace i15_0 := i15_0.lift (Lift.ext x24 _)
            replace i17_0 := i17_0.lift (Lift.ext x24 _)
            replace i20_0 := i20_0.lift (Lift.ext x24 _)
            replace i22_0 := i22_0.lift (Lift.ext x24 _)
            have e25 := e23.trans x24
            obtain ⟨r26, hr26, H⟩ := Option.bind_eq_some_iff.1 H
            refine wls rfl rfl (stp_call (vs := [v15, (i64 a0t), p1, v24]) Try.func25 rfl rfl rfl (ar4 rfl rfl rfl rfl) (syndrome_Syndromes_calls r15 a0t a1xs r24 v15 p1 v24 r26 _ (i15_0.lift (Lift.sub (fun _ _ => trivial))) (hp1.lift (Lift.ext e25 _)) (i24_0.lift (Lift.sub (fun _ _ => trivial))) hr26) ?_)
            rintro _ w26 ⟨v26_0, rfl, x26, n26_0, o26_0⟩
            refine ⟨_, rfl, ?_⟩
            have i26_0 : By w26 [] v26_0 r26.1 := OwK.slk (Sc.stab _) _ (OwK.scal o26_0 (v26_0 :: [])) (fun k hk => (Old.nil _) k (n26_0 k hk)) (fun _ h => h.2)
            replace i15_0 := i15_0.lift (Lift.ext x26 _)
            replace i17_0 := i17_0.lift (Lift.ext x26 _)
            replace i20_0 := i20_0.lift (Lift.ext x26 _)
            replace i22_0 := i22_0.lift (Lift.ext x26 _)
            replace i24_0 := i24_0.lift (Lift.ext x26 _)
            have e27 := e25.trans x26
            refine wla rfl rfl (q_move (v := (.tuple #[v26_0, (i64 r26.2)])) rfl rfl) ?_
            refine wla rfl rfl (q_extract rfl rfl rfl) ?_
            refine wla rfl rfl (q_extract rfl rfl rfl) ?_
            refine wla rfl rfl (q_assign (v := v26_0) rfl rfl) ?_
            refine wla rfl rfl (q_assign (v := (i64 r26.2)) rfl rfl) ?_
            refine wl_nil ?_
            refine W_th ?_
            refine W_seq ?_
            refine W_draw [8, 12] [(0, 0), (1, 0), (2, 0), (3, 0), (4, 0), (5, 0), (6, 0), (7, 0), (8, 1), (9, 0), (10, 0), (11, 2), (12, 1), (13, 0), (14, 0), (15, 0), (16, 0), (17, 0), (18, 0), (19, 0), (20, 0), (21, 0), (22, 0), (23, 0), (24, 0)] mixed (by kernel_rfl) (by kernel_rfl) (by kernel_rfl) (by kernel_rfl) ?_
            have x28 := Ext.drew w26
            replace i15_0 := i15_0.lift (Lift.ext x28 _)
            replace i17_0 := i17_0.lift (Lift.ext x28 _)
            replace i20_0 := i20_0.lift (Lift.ext x28 _)
            replace i22_0 := i22_0.lift (Lift.ext x28 _)
            replace i24_0 := i24_0.lift (Lift.ext x28 _)
            replace i26_0 := i26_0.lift (Lift.ext x28 _)
            have e29 := e27.trans x28
            refine wsa rfl rfl rfl (q_move (v := (i64 r22.2)) rfl rfl) ?_
            refine wsa rfl rfl rfl (q_eqI rfl rfl rfl) ?_
            refine wsb rfl rfl rfl (q_move (v := (.bool ((decide (r22.2 = 0))))) rfl rfl) (fun hb30 => ?_) (fun hb30 => ?_)
            · replace H := (if_pos (of_decide_eq_true hb30)).symm.trans H
              refine wsa rfl rfl rfl (q_move (v := (i64 r26.2)) rfl rfl) ?_
              refine wsa rfl rfl rfl (q_eqI rfl rfl rfl) ?_
              refine wsa rfl rfl rfl (q_pick_t (v := (.bool ((decide (r26.2 = 0))))) rfl rfl rfl) ?_
              refine wsb rfl rfl rfl (q_move (v := (.bool ((decide (r26.2 = 0))))) rfl rfl) (fun hb31 => ?_) (fun hb31 => ?_)
              · replace H := (if_pos (of_decide_eq_true hb31)).symm.trans H
                refine wsa rfl rfl rfl (q_move (v := v26_0) rfl rfl) ?_
                refine wsq rfl rfl rfl (q_str rfl T22 rfl rfl rfl i26_0) ?_
                refine wsa rfl rfl rfl (q_move (v := v17_0) rfl rfl) ?_
                refine wsa rfl rfl rfl (q_move (v := v22_0) rfl rfl) ?_
                obtain ⟨r32, hr32, H⟩ := Option.bind_eq_some_iff.1 H
                refine wss rfl rfl rfl (stp_call (vs := [v17_0, v22_0]) Try.func33 rfl rfl rfl (ar2 rfl rfl) (word_Xor_calls r17.1 r22.1 v17_0 v22_0 r32 _ (i17_0.lift (Lift.sub (fun _ _ => trivial))) (i22_0.lift (Lift.sub (fun _ _ => trivial))) hr32) ?_)
                rintro _ w32 ⟨v32, rfl, x32, n32_0, o32_0⟩
                refine ⟨_, rfl, x32, ?_⟩
                have i32_0 : By w32 [] v32 r32 := OwK.slk (Sc.stab _) _ (OwK.scal o32_0 (v32 :: [])) (fun k hk => (Old.nil _) k (n32_0 k hk)) (fun _ h => h.2)
                replace i15_0 := i15_0.lift (Lift.ext x32 _)
                replace i17_0 := i17_0.lift (Lift.ext x32 _)
                replace i20_0 := i20_0.lift (Lift.ext x32 _)
                replace i22_0 := i22_0.lift (Lift.ext x32 _)
                replace i24_0 := i24_0.lift (Lift.ext x32 _)
                replace i26_0 := i26_0.lift (Lift.ext x32 _)
                have e33 := e29.trans x32
                refine wsq rfl rfl rfl (q_str rfl T22 rfl rfl rfl i32_0) ?_
                refine wsa rfl rfl rfl (q_eqS rfl rfl rfl) ?_
                refine wsa rfl rfl rfl (q_pick_t (v := (.bool ((decide (r26.1 = r32))))) rfl rfl rfl) ?_
                refine wsb rfl rfl rfl (q_move (v := (.bool ((decide (r26.1 = r32))))) rfl rfl) (fun hb34 => ?_) (fun hb34 => ?_)
                · replace H := (if_pos (of_decide_eq_true hb34)).symm.trans H
                  refine wsa rfl rfl rfl (q_move (v := v17_0) rfl rfl) ?_
                  refine wsa rfl rfl rfl (q_len rfl T22.sl rfl i17_0) ?_
                  refine wsa rfl rfl rfl (q_move (v := p1) rfl rfl) ?_
                  refine wsa rfl rfl rfl (q_len rfl T22.sl rfl (hp1.lift (Lift.ext e33 _))) ?_
                  refine wsa rfl rfl rfl (q_move (v := (i64 a0t)) rfl rfl) ?_
                  refine wsa rfl rfl rfl (q_subI rfl rfl rfl) ?_
                  refine wsa rfl rfl rfl (q_eqI rfl rfl rfl) ?_
                  refine wsa rfl rfl rfl (q_pick_t (v := (.bool ((decide ((r17.1.length : Int) = (wI ((a1xs.length : Int) - a0t))))))) rfl rfl rfl) ?_
                  refine wsa rfl rfl rfl (q_assign (v := (.bool ((decide ((r17.1.length : Int) = (wI ((a1xs.length : Int) - a0t))))))) rfl rfl) ?_
                  refine ws_nil ?_
                  refine W_th ?_
                  refine W_ret ?_
                  obtain rfl := Option.some.inj H
                  refine rt1 (.bool ((decide ((r17.1.length : Int) = (wI ((a1xs.length : Int) - a0t)))))) rfl rfl rfl rfl ?_
                  exact ⟨rfl, e33⟩
                · replace H := (if_neg (of_decide_eq_false hb34)).symm.trans H
                  refine wsk rfl rfl rfl ?_
                  refine wsk rfl rfl rfl ?_
                  refine wsk rfl rfl rfl ?_
                  refine wsk rfl rfl rfl ?_
                  refine wsk rfl rfl rfl ?_
                  refine wsk rfl rfl rfl ?_
                  refine wsk rfl rfl rfl ?_
                  refine wsa rfl rfl rfl (q_pick_f (v := (.bool false)) rfl rfl rfl) ?_
                  refine wsa rfl rfl rfl (q_assign (v := (.bool false)) rfl rfl) ?_
                  refine ws_nil ?_
                  refine W_th ?_
                  refine W_ret ?_
                  obtain rfl := Option.some.inj H
                  refine rt1 (.bool false) rfl rfl rfl rfl ?_
                  exact ⟨rfl, e33⟩
              · replace H := (if_neg (of_decide_eq_false hb31)).symm.trans H
                refine wsk rfl rfl rfl ?_
                refine wsk rfl rfl rfl ?_
                refine wsk rfl rfl rfl ?_
                refine wsk rfl rfl rfl ?_
                refine wsk rfl rfl rfl ?_
                refine wsk rfl rfl rfl ?_
                refine wsk rfl rfl rfl ?_
                refine wsa rfl rfl rfl (q_pick_f (v := (.bool false)) rfl rfl rfl) ?_
                refine wsa rfl rfl rfl (q_move (v := (.bool false)) rfl rfl) ?_
                refine wsk rfl rfl rfl ?_
                refine wsk rfl rfl rfl ?_
                refine wsk rfl rfl rfl ?_
                refine wsk rfl rfl rfl ?_
                refine wsk rfl rfl rfl ?_
                refine wsk rfl rfl rfl ?_
                refine wsk rfl rfl rfl ?_
                refine wsa rfl rfl rfl (q_pick_f (v := (.bool false)) rfl rfl rfl) ?_
                refine wsa rfl rfl rfl (q_assign (v := (.bool false)) rfl rfl) ?_
                refine ws_nil ?_
                refine W_th ?_
                refine W_ret ?_
                obtain rfl := Option.some.inj H
                refine rt1 (.bool false) rfl rfl rfl rfl ?_
                exact ⟨rfl, e29⟩
            · replace H := (if_neg (of_decide_eq_false hb30)).symm.trans H
              refine wsk rfl rfl rfl ?_
              refine wsk rfl rfl rfl ?_
              refine wsa rfl rfl rfl (q_pick_f (v := (.bool false)) rfl rfl rfl) ?_
              refine wsa rfl rfl rfl (q_move (v := (.bool false)) rfl rfl) ?_
              refine wsk rfl rfl rfl ?_
              refine wsk rfl rfl rfl ?_
              refine wsk rfl rfl rfl ?_
              refine wsk rfl rfl rfl ?_
              refine wsk rfl rfl rfl ?_
              refine wsk rfl rfl rfl ?_
              refine wsk rfl rfl rfl ?_
              refine wsa rfl rfl rfl (q_pick_f (v := (.bool false)) rfl rfl rfl) ?_
              refine wsa rfl rfl rfl (q_move (v := (.bool false)) rfl rfl) ?_
              refine wsk rfl rfl rfl ?_
              refine wsk rfl rfl rfl ?_
              refine wsk rfl rfl rfl ?_
              refine wsk rfl rfl rfl ?_
              refine wsk rfl rfl rfl ?_
              refine wsk rfl rfl rfl ?_
              refine wsk rfl rfl rfl ?_
              refine wsa rfl rfl rfl (q_pick_f (v := (.bool false)) rfl rfl rfl) ?_
              refine wsa rfl rfl rfl (q_assign (v := (.bool false)) rfl rfl) ?_
              refine ws_nil ?_
              refine W_th ?_
              refine W_ret ?_
              obtain rfl := Option.some.inj H
              refine rt1 (.bool false) rfl rfl rfl rfl ?_
              exact ⟨rfl, e29⟩

end Gk

/- What the field's functions come to, in plain Lean. No condition but lengths. -/



set_option linter.unusedSimpArgs false
namespace Gk
open Gf
theorem idx_nat {α : Type} (l : List α) (n : Nat) : idx l (n : Int) = l[n]? := by simp [idx]
theorem idx_lg (a : UInt8) : idx lgT (a.toNat : Int) = some (lg a : Int) := by rw [idx_nat, lgT_get]
theorem idx_pw (n : Nat) (h : n < 510) : idx pwT (n : Int) = some (pw n) := by rw [idx_nat, pwT_get n h]
theorem Mul_eq (a b : UInt8) : field_Mul true a b = some (mul a b) := by
  unfold field_Mul
  rw [if_neg (by simp)]
  by_cases ha : a = 0
  · rw [if_pos ha, ha, zero_mul]
  · by_cases hb : b = 0
    · rw [if_neg ha, if_pos hb, hb, mul_zero]
    · have h1 := lg_lt a
      have h2 := lg_lt b
      have e : wI ((lg a : Int) + (lg b : Int)) = ((lg a + lg b : Nat) : Int) := by rw [wI_of (by omega) (by omega)]; omega
      rw [if_neg ha, if_neg hb]
      simp only [grd, idx_lg, Option.bind_some, e, idx_pw _ (show lg a + lg b < 510 by omega), mul_pw ha hb, if_true]
theorem Inv_eq (a : UInt8) : field_Inv true a = some (if a = 0 then (0, 7) else (inv a, 0)) := by
  unfold field_Inv
  rw [if_neg (by simp)]
  by_cases ha : a = 0
  · rw [if_pos ha, if_pos ha]
  · have h1 := lg_lt a
    have e : wI (255 - (lg a : Int)) = ((255 - lg a : Nat) : Int) := by rw [wI_of (by omega) (by omega)]; omega
    rw [if_neg ha, if_neg ha]
    simp only [grd, idx_lg, Option.bind_some, e, idx_pw _ (show 255 - lg a < 510 by omega), if_true, inv, if_neg ha]
theorem Div_eq (a b : UInt8) : field_Div true a b = some (if b = 0 then (0, 7) else (mul a (inv b), 0)) := by
  unfold field_Div
  simp only [Inv_eq, Option.bind_some, Mul_eq]
  by_cases hb : b = 0
  · simp [hb]
  · simp [hb]
/-- A power, of whatever whole number. -/
def powZ (a : UInt8) (n : Int) : UInt8 := if n = 0 then 1 else if a = 0 then 0 else pw (lg a * (n % 255).toNat)
end Gk

/- Rows of bytes, sums of rows, the document's inverses and powers, in plain Lean. No condition. -/

set_option linter.unusedSimpArgs false
set_option linter.unusedVariables false
namespace Gk
open Gf
theorem makeL_nat {α : Type} (n : Nat) (z : α) (h : n ≤ most) : makeL (n : Int) z = some (List.replicate n z) := by
  unfold makeL; rw [if_pos ⟨by omega, by omega⟩]; simp
theorem copyL_all {α : Type} (z : α) (a : List α) : copyL (List.replicate a.length z) 0 a = a := by
  unfold copyL; simp
/-- A row, and a number times another one added. -/
def sumL (a : List UInt8) (c : UInt8) (b : List UInt8) : List UInt8 := a.mapIdx fun j x => x ^^^ mul c (b.getD j 0)
def sumTo (a : List UInt8) (c : UInt8) (b : List UInt8) (i : Nat) : List UInt8 := a.mapIdx fun j x => if j < i then x ^^^ mul c (b.getD j 0) else x
theorem sumL_len (a : List UInt8) (c : UInt8) (b : List UInt8) : (sumL a c b).length = a.length := by simp [sumL]
theorem sumTo_len (a : List UInt8) (c : UInt8) (b : List UInt8) (i : Nat) : (sumTo a c b i).length = a.length := by simp [sumTo]
theorem sumTo_set (a : List UInt8) (c : UInt8) (b : List UInt8) (i : Nat) (x : UInt8) (h : a[i]? = some x) (y : UInt8) (hb : b[i]? = some y) : (sumTo a c b i).set i (x ^^^ mul c y) = sumTo a c b (i + 1) := by
  apply List.ext_getElem?
  intro j
  simp only [sumTo, List.getElem?_set, List.getElem?_mapIdx, List.length_mapIdx]
  have hi := (List.getElem?_eq_some_iff.1 h).1
  by_cases hj : i = j
  · subst hj
    simp [hi, List.getD, hb]
    rw [(List.getElem?_eq_some_iff.1 h).2]
  · rw [if_neg hj]
    have : j < i + 1 ↔ j < i := by omega
    simp [this]
theorem sumTo_get (a : List UInt8) (c : UInt8) (b : List UInt8) (i : Nat) (x : UInt8) (h : a[i]? = some x) : (sumTo a c b i)[i]? = some x := by
  simp [sumTo, List.getElem?_mapIdx, h]
theorem sumTo_end (a : List UInt8) (c : UInt8) (b : List UInt8) (i : Nat) (h : b.length ≤ i ∨ a.length ≤ i) : sumTo a c b i = sumL a c b := by
  apply List.ext_getElem?
  intro j
  simp only [sumTo, sumL, List.getElem?_mapIdx]
  by_cases hj : j < i
  · simp [hj]
  · rcases h with h | h
    · have : b.getD j 0 = 0 := by simp [List.getD, List.getElem?_eq_none (show b.length ≤ j by omega)]
      simp only [hj, this, mul_zero, xor_zero, if_false]
    · simp [List.getElem?_eq_none (show a.length ≤ j by omega)]
theorem minI (a b : Nat) : (if (b : Int) < (a : Int) then (b : Int) else (a : Int)) = ((min a b : Nat) : Int) := by split <;> omega
theorem wI_succ (i : Nat) (h : i < 9223372036854775807) : wI ((i : Int) + 1) = ((i + 1 : Nat) : Int) := by rw [wI_of (by omega) (by omega)]; omega
theorem most_lt : most < 9223372036854775807 := by decide
theorem Sum_eq (a : List UInt8) (c : UInt8) (b : List UInt8) (h : a.length ≤ most) : field_Sum true a c b = some (sumL a c b) := by
  unfold field_Sum
  rw [if_neg (by simp), makeL_nat _ _ h]
  simp only [Option.bind_some, minI, copyL_all]
  have hm := most_lt
  refine bind_of (x := sumL a c b) (iterC_count (fun i => (sumTo a c b i, (i : Int))) (min a.length b.length) (sumL a c b) ?_ ?_ ?_) rfl
  · refine Prod.ext ?_ rfl
    apply List.ext_getElem?
    intro j
    simp [sumTo, List.getElem?_mapIdx]
  · intro i hi
    have h1 : i < a.length := by omega
    have h2 : i < b.length := by omega
    have e1 : a[i]? = some a[i] := by simp [h1]
    have e2 : b[i]? = some b[i] := by simp [h2]
    rw [if_pos (by omega)]
    simp only [idx_nat, sumTo_get a c b i _ e1, e2, Option.bind_some, Mul_eq, wI_succ i (by omega), Int.toNat_natCast]
    rw [sumTo_set a c b i _ e1 _ e2]
  · rw [if_neg (by omega)]
    simp only [sumTo_end a c b _ (show b.length ≤ min a.length b.length ∨ a.length ≤ min a.length b.length by omega)]
theorem Scale_eq (c : UInt8) (b : List UInt8) (h : b.length ≤ most) : field_Scale true c b = some (b.map (mul c)) := by
  unfold field_Scale
  rw [if_neg (by simp), makeL_nat _ _ h]
  simp only [Option.bind_some]
  rw [Sum_eq _ _ _ (by simpa using h)]
  simp only [Option.bind_some, Option.some.injEq]
  apply List.ext_getElem?
  intro j
  simp only [sumL, List.getElem?_mapIdx, List.getElem?_map, List.getElem?_replicate]
  by_cases hj : j < b.length
  · simp [hj, zero_xor]
  · simp [hj, List.getElem?_eq_none (show b.length ≤ j by omega)]

theorem Add_eq (a b : UInt8) : field_Add a b = some (a ^^^ b) := rfl
theorem refInv_eq (a : UInt8) : ref02_Inv a = some (inv a) := by
  unfold ref02_Inv
  simp only [refMul_eq, Option.bind_some]
  have e : ∀ k : Nat, k < 256 → UInt8.ofInt (k : Int) = UInt8.ofNat k := by
    intro k hk
    have : (UInt8.ofNat k).toNat = k := by simp; omega
    rw [← this, ofInt_nat, this]
  by_cases ha : a = 0
  · refine bind_of (x := (Sum.inl () : Unit ⊕ UInt8)) (iterC_count (fun i => (1 + (i : Int))) 255 (Sum.inl ()) (by simp) ?_ ?_) ?_
    · intro i hi
      rw [if_pos (by omega)]
      rw [ha]
      simp only [zero_mul]
      rw [if_neg (by decide)]
      have : wI (1 + (i : Int) + 1) = 1 + ((i + 1 : Nat) : Int) := by rw [wI_of (by omega) (by omega)]; omega
      rw [this]
    · rw [if_neg (by omega)]
    · simp [ha, inv_zero]
  · have hn := inv_ne ha
    have hlt := (inv a).toNat_lt
    have hpos : 0 < (inv a).toNat := Nat.pos_of_ne_zero (fun e => hn (UInt8.toNat_inj.1 (by simpa using e)))
    refine bind_of (x := (Sum.inr (inv a) : Unit ⊕ UInt8)) (iterC_count (fun i => (1 + (i : Int))) ((inv a).toNat - 1) (Sum.inr (inv a)) (by simp) ?_ ?_) rfl
    · intro i hi
      rw [if_pos (by omega)]
      have e1 : (1 + (i : Int)) = ((i + 1 : Nat) : Int) := by omega
      have hne : mul a (UInt8.ofInt (1 + (i : Int))) ≠ 1 := by
        intro h
        have h2 := inv_uniq h
        rw [e1, e _ (by omega)] at h2
        have h3 := congrArg UInt8.toNat h2
        simp at h3
        omega
      rw [if_neg hne]
      have : wI (1 + (i : Int) + 1) = 1 + ((i + 1 : Nat) : Int) := by rw [wI_of (by omega) (by omega)]; omega
      rw [this]
    · rw [if_pos (by omega)]
      have e1 : (1 + (((inv a).toNat - 1 : Nat) : Int)) = ((inv a).toNat : Int) := by omega
      rw [e1, ofInt_nat, mul_inv ha, if_pos rfl]
theorem refPow_loop (a : UInt8) (n : Int) (m : Nat) (h : remI n 255 = some (m : Int)) (hm : m < 255) :
    iterC (fun s9 : UInt8 × Int => ((remI n 255).bind fun c11 => (if s9.2 < c11 then ((ref02_Mul s9.1 a).bind fun r13 => some (.inl (r13, (wI (s9.2 + 1))))) else some (.inr s9.1)))) ((1 : UInt8), 0) = some (pow a m) := by
  simp only [h, Option.bind_some, refMul_eq]
  refine iterC_count (fun i => (pow a i, (i : Int))) m _ rfl ?_ ?_
  · intro i hi
    rw [if_pos (by omega), wI_succ i (by omega)]
    rfl
  · rw [if_neg (by omega)]
theorem pow_inv {a : UInt8} (ha : a ≠ 0) (m : Nat) (hm : m < 255) : pow (inv a) m = pw (lg a * ((255 - m) % 255)) := by
  have h1 := lg_lt a
  have e : inv a = pw (255 - lg a) := by simp [inv, ha]
  rw [e, pow_pw]
  have hz : mul (pw (lg a * m)) (pw ((255 - lg a) * m)) = 1 := by
    rw [← pw_add, ← Nat.add_mul, show lg a + (255 - lg a) = 255 by omega, ← pw_mod, Nat.mul_mod_right]; rfl
  have hz2 : mul (pw (lg a * m)) (pw (lg a * ((255 - m) % 255))) = 1 := by
    rw [← pw_add, ← Nat.mul_add, ← pw_mod, Nat.mul_mod]
    have : (m + (255 - m) % 255) % 255 = 0 := by omega
    rw [this]; simp [pw]
  exact mul_cancel (pw_ne _) (hz.trans hz2.symm)
theorem refPow_eq (a : UInt8) (n : Int) : ref02_Pow a n = some (powZ a n) := by
  unfold ref02_Pow powZ
  by_cases hn : n = 0
  · simp [hn]
  · by_cases ha : a = 0
    · simp [hn, ha]
    · rw [if_neg hn, if_neg ha, if_neg hn, if_neg ha]
      have hq := Int.mul_tdiv_add_tmod n 255
      have b1 : -255 < n.tmod 255 := by have := Int.lt_tmod_of_pos n (b := 255) (by decide); omega
      have b2 : n.tmod 255 < 255 := Int.tmod_lt_of_pos n (by decide)
      by_cases h0 : n < 0
      · have hs : n.tmod 255 ≤ 0 := by
          have h := Int.neg_tmod (-n) 255
          rw [Int.neg_neg] at h
          have := Int.tmod_nonneg 255 (show 0 ≤ -n by omega)
          omega
        obtain ⟨m, hm⟩ : ∃ m : Nat, n.tmod 255 = -(m : Int) := ⟨(-(n.tmod 255)).toNat, by omega⟩
        have e2 : wI (0 - n.tmod 255) = (m : Int) := by rw [wI_of (by omega) (by omega)]; omega
        have e3 : remI n 255 = some (n.tmod 255) := by simp [remI]
        rw [if_pos h0]
        simp only [refInv_eq, Option.bind_some, e3, e2]
        have e4 := remI_nat m 255 (by decide)
        rw [Nat.mod_eq_of_lt (by omega)] at e4
        rw [refPow_loop (inv a) m m e4 (by omega)]
        simp only [Option.bind_some, Option.some.injEq]
        rw [pow_inv ha m (by omega)]
        congr 2
        omega
      · obtain ⟨k, rfl⟩ := Int.eq_ofNat_of_zero_le (show 0 ≤ n by omega)
        rw [if_neg h0]
        simp only [Option.bind_some]
        rw [refPow_loop a _ (k % 255) (remI_nat k 255 (by decide)) (by omega)]
        simp only [Option.bind_some, Option.some.injEq]
        have : pow a (k % 255) = pw (lg a * (k % 255)) := by rw [← pow_pw, pw_lg ha]
        rw [this]
        congr 2

theorem lg_mul {a b : UInt8} (ha : a ≠ 0) (hb : b ≠ 0) : lg (mul a b) = (lg a + lg b) % 255 := by rw [← mul_pw ha hb, lg_pw]
theorem appL_nil {α : Type} (a : List α) (h : a.length ≤ most) : appL [] a = some a := by
  unfold appL; rw [if_pos (by simpa using h)]; simp
end Gk

/- Polynomials over GF(256), as lists of numbers, the lowest first. Plain. No condition. -/

set_option linter.unusedSimpArgs false
namespace Gf

/-- The number at a place. -/
def co (p : List UInt8) (i : Nat) : UInt8 := p.getD i 0
theorem co_nil (i : Nat) : co [] i = 0 := by simp [co]
theorem co_zero (c : UInt8) (p : List UInt8) : co (c :: p) 0 = c := rfl
theorem co_succ (c : UInt8) (p : List UInt8) (i : Nat) : co (c :: p) (i + 1) = co p i := by simp [co]
theorem co_ge {p : List UInt8} {i : Nat} (h : p.length ≤ i) : co p i = 0 := by simp [co, List.getD_eq_getElem?_getD, List.getElem?_eq_none h]
theorem co_lt {p : List UInt8} {i : Nat} (h : i < p.length) : co p i = p[i] := by simp [co, List.getD_eq_getElem?_getD, h]
theorem co_get {p : List UInt8} {i : Nat} (h : i < p.length) : p[i]? = some (co p i) := by rw [co_lt h]; simp [h]
theorem co_rep (n i : Nat) : co (List.replicate n 0) i = 0 := by
  simp only [co, List.getD_eq_getElem?_getD, List.getElem?_replicate]; split <;> rfl
theorem co_map (c : UInt8) (p : List UInt8) (i : Nat) : co (p.map (mul c)) i = mul c (co p i) := by
  simp only [co, List.getD_eq_getElem?_getD, List.getElem?_map]
  cases p[i]? <;> simp [mul_zero]
theorem co_set {p : List UInt8} {j : Nat} (h : j < p.length) (c : UInt8) (i : Nat) : co (p.set j c) i = if i = j then c else co p i := by
  simp only [co, List.getD_eq_getElem?_getD, List.getElem?_set]
  by_cases hij : j = i
  · subst hij; simp [h]
  · simp [hij, Ne.symm hij]
/-- The same numbers everywhere. -/
def Sim (p q : List UInt8) : Prop := ∀ i, co p i = co q i
theorem Sim.refl (p : List UInt8) : Sim p p := fun _ => rfl
theorem Sim.symm {p q : List UInt8} (h : Sim p q) : Sim q p := fun i => (h i).symm
theorem Sim.trans {p q r : List UInt8} (h : Sim p q) (k : Sim q r) : Sim p r := fun i => (h i).trans (k i)

/-! ### Without noughts at the end -/
def trim : List UInt8 → List UInt8
  | [] => []
  | c :: p => if trim p = [] ∧ c = 0 then [] else c :: trim p
theorem co_trim : ∀ (p : List UInt8) (i : Nat), co (trim p) i = co p i
  | [], i => rfl
  | c :: p, i => by
    unfold trim
    split
    · rename_i h
      rw [co_nil]
      cases i with
      | zero => rw [co_zero, h.2]
      | succ i => rw [co_succ, ← co_trim p i, h.1, co_nil]
    · cases i with
      | zero => rfl
      | succ i => rw [co_succ, co_succ, co_trim p i]
theorem trim_sim (p : List UInt8) : Sim (trim p) p := co_trim p
theorem trim_zero : ∀ (p : List UInt8), (∀ i, co p i = 0) → trim p = []
  | [], _ => rfl
  | c :: p, h => by
    unfold trim
    rw [if_pos ⟨trim_zero p (fun i => by rw [← co_succ c p i]; exact h (i + 1)), by rw [← co_zero c p]; exact h 0⟩]
theorem trim_ext : ∀ (p q : List UInt8), Sim p q → trim p = trim q
  | [], q, h => (trim_zero q (fun i => by rw [← h i, co_nil])).symm
  | c :: p, [], h => trim_zero (c :: p) (fun i => by rw [h i, co_nil])
  | c :: p, d :: q, h => by
    have h0 : c = d := by have := h 0; rwa [co_zero, co_zero] at this
    have h1 : trim p = trim q := trim_ext p q (fun i => by have := h (i + 1); rwa [co_succ, co_succ] at this)
    unfold trim
    rw [h0, h1]
theorem trim_trim (p : List UInt8) : trim (trim p) = trim p := trim_ext _ _ (trim_sim p)
theorem trim_le : ∀ (p : List UInt8), (trim p).length ≤ p.length
  | [] => Nat.le_refl _
  | c :: p => by
    unfold trim
    split
    · exact Nat.zero_le _
    · have := trim_le p; simp only [List.length_cons]; omega
theorem trim_last : ∀ (p : List UInt8), trim p ≠ [] → co p ((trim p).length - 1) ≠ 0
  | [], h => absurd rfl h
  | c :: p, h => by
    unfold trim at h ⊢
    split
    · rename_i h'; rw [if_pos h'] at h; exact absurd rfl h
    · rename_i h'
      simp only [List.length_cons, Nat.add_sub_cancel]
      cases ht : trim p with
      | nil =>
        rw [List.length_nil, co_zero]
        exact fun e => h' ⟨ht, e⟩
      | cons d q =>
        have := trim_last p (by rw [ht]; simp)
        rw [ht] at this
        simp only [List.length_cons, Nat.add_sub_cancel] at this ⊢
        rwa [co_succ]
theorem trim_nil {p : List UInt8} (h : trim p = []) (i : Nat) : co p i = 0 := by rw [← co_trim, h, co_nil]
/-- What is above the degree is 0. -/
theorem trim_bound (p : List UInt8) (n : Nat) : (trim p).length ≤ n ↔ ∀ i, n ≤ i → co p i = 0 := by
  constructor
  · intro h i hi
    rw [← co_trim]; exact co_ge (Nat.le_trans h hi)
  · intro h
    refine Nat.le_of_not_lt fun hlt => ?_
    have hne : trim p ≠ [] := fun e => by rw [e] at hlt; simp at hlt
    exact trim_last p hne (h _ (by omega))
theorem trim_take : ∀ (p : List UInt8), trim p = p.take (trim p).length
  | [] => rfl
  | c :: p => by
    unfold trim
    split
    · rfl
    · simp only [List.length_cons, List.take_succ_cons]
      rw [← trim_take p]
theorem trim_id {p : List UInt8} (h : p ≠ [] → co p (p.length - 1) ≠ 0) : trim p = p := by
  by_cases hp : p = []
  · rw [hp]; rfl
  · have h1 : p.length ≤ (trim p).length := Nat.le_of_not_lt fun hlt => by
      have hpos := List.length_pos_iff.2 hp
      exact h hp ((trim_bound p (p.length - 1)).1 (by omega) _ (Nat.le_refl _))
    rw [trim_take p, List.take_of_length_le h1]
theorem sim_of_trim {p q : List UInt8} (h : trim p = trim q) : Sim p q := (trim_sim p).symm.trans (h ▸ trim_sim q)

/-! ### Values -/
def evp : List UInt8 → UInt8 → UInt8
  | [], _ => 0
  | c :: p, x => c ^^^ mul (evp p x) x
theorem ev_zero : ∀ (p : List UInt8) (x : UInt8), (∀ i, co p i = 0) → evp p x = 0
  | [], _, _ => rfl
  | c :: p, x, h => by
    have h0 : c = 0 := by rw [← co_zero c p]; exact h 0
    unfold evp
    rw [h0, ev_zero p x (fun i => by rw [← co_succ c p i]; exact h (i + 1)), zero_mul, zero_xor]
theorem ev_sim : ∀ (p q : List UInt8) (x : UInt8), Sim p q → evp p x = evp q x
  | [], q, x, h => (ev_zero q x (fun i => by rw [← h i, co_nil])).symm
  | c :: p, [], x, h => ev_zero (c :: p) x (fun i => by rw [h i, co_nil])
  | c :: p, d :: q, x, h => by
    have h0 : c = d := by have := h 0; rwa [co_zero, co_zero] at this
    unfold evp
    rw [h0, ev_sim p q x (fun i => by have := h (i + 1); rwa [co_succ, co_succ] at this)]
theorem ev_trim (p : List UInt8) (x : UInt8) : evp (trim p) x = evp p x := ev_sim _ _ x (trim_sim p)

/-! ### Sums and products -/
def pplus : List UInt8 → List UInt8 → List UInt8
  | [], q => q
  | p, [] => p
  | a :: p, b :: q => (a ^^^ b) :: pplus p q
theorem pplus_nil (p : List UInt8) : pplus p [] = p := by cases p <;> rfl
theorem co_pplus : ∀ (p q : List UInt8) (i : Nat), co (pplus p q) i = co p i ^^^ co q i
  | [], q, i => by rw [co_nil, zero_xor]; rfl
  | a :: p, [], i => by rw [co_nil, xor_zero]; rfl
  | a :: p, b :: q, 0 => rfl
  | a :: p, b :: q, i + 1 => by
    show co ((a ^^^ b) :: pplus p q) (i + 1) = _
    rw [co_succ, co_succ, co_succ]; exact co_pplus p q i
theorem pplus_len : ∀ (p q : List UInt8), (pplus p q).length = max p.length q.length
  | [], q => by simp [pplus]
  | a :: p, [] => by simp [pplus]
  | a :: p, b :: q => by simp only [pplus, List.length_cons, pplus_len p q]; omega
theorem ev_pplus : ∀ (p q : List UInt8) (x : UInt8), evp (pplus p q) x = evp p x ^^^ evp q x
  | [], q, x => by show evp q x = 0 ^^^ evp q x; rw [zero_xor]
  | a :: p, [], x => by show evp (a :: p) x = evp (a :: p) x ^^^ 0; rw [xor_zero]
  | a :: p, b :: q, x => by
    show (a ^^^ b) ^^^ mul (evp (pplus p q) x) x = (a ^^^ mul (evp p x) x) ^^^ (b ^^^ mul (evp q x) x)
    rw [ev_pplus p q x, add_mul, xor_xor_swap]
theorem ev_map (c : UInt8) : ∀ (p : List UInt8) (x : UInt8), evp (p.map (mul c)) x = mul c (evp p x)
  | [], x => (mul_zero c).symm
  | a :: p, x => by
    show mul c a ^^^ mul (evp (p.map (mul c)) x) x = mul c (a ^^^ mul (evp p x) x)
    rw [ev_map c p x, mul_add, mul_assoc]
def pmul : List UInt8 → List UInt8 → List UInt8
  | [], _ => []
  | c :: p, q => pplus (q.map (mul c)) (0 :: pmul p q)
theorem co_pmul_zero (c : UInt8) (p q : List UInt8) : co (pmul (c :: p) q) 0 = mul c (co q 0) := by
  unfold pmul; rw [co_pplus, co_map, co_zero, xor_zero]
theorem co_pmul_succ (c : UInt8) (p q : List UInt8) (i : Nat) : co (pmul (c :: p) q) (i + 1) = mul c (co q (i + 1)) ^^^ co (pmul p q) i := by
  show co (pplus (q.map (mul c)) (0 :: pmul p q)) (i + 1) = _
  rw [co_pplus, co_map, co_succ]
theorem pmul_len : ∀ (p q : List UInt8), (pmul p q).length ≤ p.length + q.length
  | [], q => by simp [pmul]
  | c :: p, q => by
    have := pmul_len p q
    simp only [pmul, pplus_len, List.length_map, List.length_cons]; omega
theorem ev_pmul : ∀ (p q : List UInt8) (x : UInt8), evp (pmul p q) x = mul (evp p x) (evp q x)
  | [], q, x => (zero_mul _).symm
  | c :: p, q, x => by
    show evp (pplus (q.map (mul c)) (0 :: pmul p q)) x = mul (c ^^^ mul (evp p x) x) (evp q x)
    rw [ev_pplus, ev_map, add_mul]
    show mul c (evp q x) ^^^ (0 ^^^ mul (evp (pmul p q) x) x) = _
    rw [zero_xor, ev_pmul p q x, mul_assoc, mul_assoc, mul_comm (evp q x) x]
/-- One number more on top. -/
theorem co_pmul_snoc : ∀ (p : List UInt8) (c : UInt8) (q : List UInt8) (i : Nat), co (pmul (p ++ [c]) q) i = co (pmul p q) i ^^^ (if i < p.length then 0 else mul c (co q (i - p.length)))
  | [], c, q, i => by
    cases i with
    | zero => rw [List.nil_append, co_pmul_zero]; simp [pmul, co_nil, zero_xor]
    | succ i => rw [List.nil_append, co_pmul_succ]; simp [pmul, co_nil, zero_xor, xor_zero]
  | a :: p, c, q, i => by
    cases i with
    | zero => rw [List.cons_append, co_pmul_zero, co_pmul_zero]; simp [xor_zero]
    | succ i =>
      rw [List.cons_append, co_pmul_succ, co_pmul_succ, co_pmul_snoc p c q i, xor_assoc]
      simp only [List.length_cons, Nat.add_lt_add_iff_right, Nat.add_sub_add_right]
/-- A number is set where there was 0. -/
theorem co_pmul_set : ∀ (p : List UInt8) (j : Nat) (c : UInt8) (q : List UInt8) (i : Nat), j < p.length → co p j = 0 → co (pmul (p.set j c) q) i = co (pmul p q) i ^^^ (if i < j then 0 else mul c (co q (i - j)))
  | [], j, c, q, i, h, _ => by simp at h
  | a :: p, 0, c, q, i, _, h0 => by
    rw [co_zero] at h0; subst h0
    rw [List.set_cons_zero]
    cases i with
    | zero => rw [co_pmul_zero, co_pmul_zero, zero_mul, zero_xor]; simp
    | succ i => rw [co_pmul_succ, co_pmul_succ, zero_mul, zero_xor, xor_comm]; simp
  | a :: p, j + 1, c, q, i, h, h0 => by
    rw [co_succ] at h0
    rw [List.set_cons_succ]
    cases i with
    | zero => rw [co_pmul_zero, co_pmul_zero]; simp [xor_zero]
    | succ i =>
      rw [co_pmul_succ, co_pmul_succ, co_pmul_set p j c q i (by simpa using h) h0, xor_assoc]
      simp only [Nat.add_lt_add_iff_right, Nat.add_sub_add_right]
theorem pmul_simL : ∀ (p p' q : List UInt8), Sim p p' → Sim (pmul p q) (pmul p' q)
  | [], [], q, _ => Sim.refl _
  | [], d :: p', q, h => by
    have h0 : d = 0 := by have := h 0; rw [co_nil, co_zero] at this; exact this.symm
    have h1 := pmul_simL [] p' q (fun i => by have := h (i + 1); rwa [co_nil, co_succ] at this)
    intro i
    cases i with
    | zero => rw [co_pmul_zero, h0, zero_mul]; rfl
    | succ i => rw [co_pmul_succ, h0, zero_mul, zero_xor, ← h1 i]; rfl
  | c :: p, [], q, h => by
    have h0 : c = 0 := by have := h 0; rwa [co_nil, co_zero] at this
    have h1 := pmul_simL p [] q (fun i => by have := h (i + 1); rwa [co_nil, co_succ] at this)
    intro i
    cases i with
    | zero => rw [co_pmul_zero, h0, zero_mul]; rfl
    | succ i => rw [co_pmul_succ, h0, zero_mul, zero_xor, h1 i]; rfl
  | c :: p, d :: p', q, h => by
    have h0 : c = d := by have := h 0; rwa [co_zero, co_zero] at this
    have h1 := pmul_simL p p' q (fun i => by have := h (i + 1); rwa [co_succ, co_succ] at this)
    intro i
    cases i with
    | zero => rw [co_pmul_zero, co_pmul_zero, h0]
    | succ i => rw [co_pmul_succ, co_pmul_succ, h0, h1 i]
theorem pmul_simR : ∀ (p q q' : List UInt8), Sim q q' → Sim (pmul p q) (pmul p q')
  | [], q, q', _ => Sim.refl _
  | c :: p, q, q', h => by
    have h1 := pmul_simR p q q' h
    intro i
    cases i with
    | zero => rw [co_pmul_zero, co_pmul_zero, h 0]
    | succ i => rw [co_pmul_succ, co_pmul_succ, h (i + 1), h1 i]
theorem pmul_sim {p p' q q' : List UInt8} (h : Sim p p') (k : Sim q q') : Sim (pmul p q) (pmul p' q') := (pmul_simL p p' q h).trans (pmul_simR p' q q' k)
theorem pplus_sim {p p' q q' : List UInt8} (h : Sim p p') (k : Sim q q') : Sim (pplus p q) (pplus p' q') := fun i => by rw [co_pplus, co_pplus, h i, k i]
theorem pplus_comm (p q : List UInt8) : Sim (pplus p q) (pplus q p) := fun i => by rw [co_pplus, co_pplus, xor_comm]
/-- Products go through sums. -/
theorem pmul_addL : ∀ (p q o : List UInt8), Sim (pmul (pplus p q) o) (pplus (pmul p o) (pmul q o))
  | [], q, o => by
    intro i; rw [co_pplus]
    show co (pmul q o) i = co [] i ^^^ co (pmul q o) i
    rw [co_nil, zero_xor]
  | a :: p, [], o => by
    intro i; rw [co_pplus]
    show co (pmul (a :: p) o) i = co (pmul (a :: p) o) i ^^^ co [] i
    rw [co_nil, xor_zero]
  | a :: p, b :: q, o => by
    have h1 := pmul_addL p q o
    intro i
    rw [co_pplus]
    show co (pmul ((a ^^^ b) :: pplus p q) o) i = _
    cases i with
    | zero => rw [co_pmul_zero, co_pmul_zero, co_pmul_zero, add_mul]
    | succ i => rw [co_pmul_succ, co_pmul_succ, co_pmul_succ, h1 i, co_pplus, add_mul, xor_xor_swap]
/-- The number on top of a product. -/
theorem co_pmul_top : ∀ (p q : List UInt8) (m : Nat), p ≠ [] → (∀ i, m < i → co q i = 0) → co (pmul p q) (p.length - 1 + m) = mul (co p (p.length - 1)) (co q m)
  | [], q, m, h, _ => absurd rfl h
  | [c], q, m, _, hq => by
    simp only [List.length_cons, List.length_nil, Nat.zero_add, Nat.sub_self, co_zero]
    cases m with
    | zero => rw [co_pmul_zero]
    | succ m => rw [co_pmul_succ]; simp [pmul, co_nil, xor_zero]
  | c :: d :: p, q, m, _, hq => by
    have h1 := co_pmul_top (d :: p) q m (by simp) hq
    simp only [List.length_cons, Nat.add_sub_cancel] at h1 ⊢
    rw [show p.length + 1 + m = (p.length + m) + 1 by omega, co_pmul_succ, hq (p.length + m + 1) (by omega), mul_zero, zero_xor, co_succ]
    exact h1
/-- A product of what has no noughts at its end has none either. -/
theorem pmul_trim_len {p q : List UInt8} (hp : trim p = p) (hq : trim q = q) (hp0 : p ≠ []) (hq0 : q ≠ []) : (trim (pmul p q)).length = p.length + q.length - 1 := by
  have lp := List.length_pos_iff.2 hp0
  have lq := List.length_pos_iff.2 hq0
  have t1 : co p (p.length - 1) ≠ 0 := by have := trim_last p (by rw [hp]; exact hp0); rwa [hp] at this
  have t2 : co q (q.length - 1) ≠ 0 := by have := trim_last q (by rw [hq]; exact hq0); rwa [hq] at this
  have top := co_pmul_top p q (q.length - 1) hp0 (fun i hi => co_ge (by omega))
  have hle : (trim (pmul p q)).length ≤ p.length + q.length - 1 := by
    refine (trim_bound _ _).2 fun i hi => ?_
    exact go p q i (by omega)
  refine Nat.le_antisymm hle (Nat.le_of_not_lt fun hlt => ?_)
  have := (trim_bound (pmul p q) (p.length + q.length - 2)).1 (by omega) (p.length - 1 + (q.length - 1)) (by omega)
  rw [top] at this
  exact mul_ne t1 t2 this
where
  go : ∀ (p q : List UInt8) (i : Nat), p.length + q.length ≤ i + 1 → co (pmul p q) i = 0
  | [], q, i, _ => co_nil i
  | c :: p, q, i, h => by
    simp only [List.length_cons] at h
    cases i with
    | zero => rw [co_pmul_zero, co_ge (by omega), mul_zero]
    | succ i => rw [co_pmul_succ, co_ge (by omega), mul_zero, zero_xor]; exact go p q i (by omega)
theorem co_pmul_ge {p q : List UInt8} {i : Nat} (h : p.length + q.length ≤ i + 1) : co (pmul p q) i = 0 := pmul_trim_len.go p q i h
theorem pmul_nilR (p : List UInt8) : Sim (pmul p []) [] := by
  intro i
  induction p generalizing i with
  | nil => rfl
  | cons c p ih =>
    rw [co_nil]
    cases i with
    | zero => rw [co_pmul_zero, co_nil, mul_zero]
    | succ i => rw [co_pmul_succ, co_nil, mul_zero, zero_xor, ih i, co_nil]
end Gf

/- Interpolation over GF(256): roots, Lagrange's and Newton's way. Plain. No condition. -/

set_option linter.unusedSimpArgs false
set_option linter.unusedVariables false
namespace Gf

/-! ### Degrees -/
/-- How many numbers a polynomial has, without noughts at the end. -/
def dg (p : List UInt8) : Nat := (trim p).length
theorem dg_le {p : List UInt8} {n : Nat} : dg p ≤ n ↔ ∀ i, n ≤ i → co p i = 0 := trim_bound p n
theorem dg_len (p : List UInt8) : dg p ≤ p.length := trim_le p
theorem dg_sim {p q : List UInt8} (h : Sim p q) : dg p = dg q := congrArg List.length (trim_ext _ _ h)
theorem dg_pplus {p q : List UInt8} {n : Nat} (hp : dg p ≤ n) (hq : dg q ≤ n) : dg (pplus p q) ≤ n :=
  dg_le.2 fun i hi => by rw [co_pplus, dg_le.1 hp i hi, dg_le.1 hq i hi, xor_zero]
theorem dg_map {p : List UInt8} {n : Nat} (c : UInt8) (hp : dg p ≤ n) : dg (p.map (mul c)) ≤ n :=
  dg_le.2 fun i hi => by rw [co_map, dg_le.1 hp i hi, mul_zero]
theorem dg_pmul {p q : List UInt8} {a b : Nat} (hp : dg p ≤ a) (hq : dg q ≤ b) : dg (pmul p q) ≤ a + b - 1 :=
  dg_le.2 fun i hi => by
    rw [← pmul_sim (trim_sim p) (trim_sim q) i]
    exact co_pmul_ge (by unfold dg at hp hq; omega)
theorem dg_lin (a : UInt8) : dg [a, 1] ≤ 2 := dg_len _
theorem ev_lin (a x : UInt8) : evp [a, 1] x = x ^^^ a := by
  show a ^^^ mul (1 ^^^ mul 0 x) x = x ^^^ a
  rw [zero_mul, xor_zero, one_mul, xor_comm]

/-! ### A polynomial with as many roots as numbers is nothing -/
def syn : List UInt8 → UInt8 → List UInt8
  | [], _ => []
  | _ :: p, a => evp p a :: syn p a
theorem co_syn : ∀ (p : List UInt8) (a : UInt8) (i : Nat), co (syn p a) i = evp (p.drop (i + 1)) a
  | [], a, i => by simp [syn, co_nil, evp]
  | c :: p, a, 0 => by simp [syn, co_zero]
  | c :: p, a, i + 1 => by
    show co (evp p a :: syn p a) (i + 1) = _
    rw [co_succ, co_syn p a i]; rfl
theorem ev_drop : ∀ (p : List UInt8) (a : UInt8) (i : Nat), evp (p.drop i) a = co p i ^^^ mul (evp (p.drop (i + 1)) a) a
  | [], a, i => by simp [co_nil, evp, zero_mul]
  | c :: p, a, 0 => by simp [co_zero, evp]
  | c :: p, a, i + 1 => by rw [List.drop_succ_cons, List.drop_succ_cons, co_succ]; exact ev_drop p a i
theorem ev_syn : ∀ (p : List UInt8) (a x : UInt8), evp p x = mul (x ^^^ a) (evp (syn p a) x) ^^^ evp p a
  | [], a, x => by simp [syn, evp, mul_zero]
  | c :: p, a, x => by
    show c ^^^ mul (evp p x) x = mul (x ^^^ a) (evp p a ^^^ mul (evp (syn p a) x) x) ^^^ (c ^^^ mul (evp p a) a)
    rw [ev_syn p a x, mul_add, add_mul, add_mul x a (evp p a), mul_assoc, mul_comm x (evp p a), mul_comm a (evp p a)]
    generalize mul (x ^^^ a) (mul (evp (syn p a) x) x) = A
    generalize mul (evp p a) x = B
    generalize mul (evp p a) a = C
    simp only [xor_comm, xor_left_comm, xor_assoc]
    rw [xor_self, xor_zero]
theorem roots : ∀ (xs : List UInt8), xs.Nodup → ∀ p : List UInt8, dg p ≤ xs.length → (∀ a ∈ xs, evp p a = 0) → ∀ i, co p i = 0
  | [], _, p, hd, _, i => dg_le.1 hd i (Nat.zero_le _)
  | a :: xs, hn, p, hd, hz, i => by
    rw [List.nodup_cons] at hn
    have ha := hz a (by simp)
    have hs : ∀ i, co (syn p a) i = 0 := by
      refine roots xs hn.2 (syn p a) (dg_le.2 fun i hi => ?_) (fun b hb => ?_)
      · rw [co_syn]
        refine ev_zero _ a fun j => ?_
        have : co (p.drop (i + 1)) j = co p (i + 1 + j) := by simp [co, List.getD_eq_getElem?_getD]
        rw [this]
        exact dg_le.1 hd _ (by simp only [List.length_cons]; omega)
      · have h1 := ev_syn p a b
        rw [hz b (by simp [hb]), ha, xor_zero] at h1
        rcases mul_eq_zero h1.symm with h | h
        · exact absurd (xor_eq_zero h) (fun e => hn.1 (e ▸ hb))
        · exact h
    have h2 := ev_drop p a i
    rw [← co_syn, hs i, zero_mul, xor_zero] at h2
    rw [← h2]
    cases i with
    | zero => rw [List.drop_zero]; exact ha
    | succ i => rw [← co_syn]; exact hs i
/-- Two polynomials of few enough numbers that agree at as many places are one. -/
theorem agree {xs : List UInt8} (hn : xs.Nodup) {p q : List UInt8} (hp : dg p ≤ xs.length) (hq : dg q ≤ xs.length) (h : ∀ a ∈ xs, evp p a = evp q a) : Sim p q := by
  intro i
  have := roots xs hn (pplus p q) (dg_pplus hp hq) (fun a ha => by rw [ev_pplus, h a ha, xor_self]) i
  rw [co_pplus] at this
  exact xor_eq_zero this

/-! ### Products over all places but one -/
def pe (xs : List UInt8) (i : Nat) (x : UInt8) : Nat → UInt8
  | 0 => 1
  | n + 1 => if n = i then pe xs i x n else mul (pe xs i x n) (x ^^^ co xs n)
def pep (xs : List UInt8) (i : Nat) : Nat → List UInt8
  | 0 => [1]
  | n + 1 => if n = i then pep xs i n else pmul (pep xs i n) [co xs n, 1]
theorem ev_pep (xs : List UInt8) (i : Nat) (x : UInt8) : ∀ n, evp (pep xs i n) x = pe xs i x n
  | 0 => by show 1 ^^^ mul 0 x = 1; rw [zero_mul, xor_zero]
  | n + 1 => by
    unfold pep pe
    split
    · exact ev_pep xs i x n
    · rw [ev_pmul, ev_pep xs i x n, ev_lin]
theorem dg_pep (xs : List UInt8) (i : Nat) : ∀ n, dg (pep xs i n) ≤ n + 1 ∧ (i < n → dg (pep xs i n) ≤ n)
  | 0 => ⟨dg_len _, fun h => by omega⟩
  | n + 1 => by
    obtain ⟨h1, h2⟩ := dg_pep xs i n
    unfold pep
    split
    · rename_i h; exact ⟨by omega, fun _ => h1⟩
    · rename_i h
      refine ⟨?_, fun hi => ?_⟩
      · have := dg_pmul h1 (dg_lin (co xs n)); omega
      · have := dg_pmul (h2 (by omega)) (dg_lin (co xs n)); omega
theorem pe_zero (xs : List UInt8) (i j : Nat) (hij : j ≠ i) : ∀ n, j < n → pe xs i (co xs j) n = 0
  | n + 1, h => by
    unfold pe
    by_cases hj : j = n
    · subst hj; rw [if_neg hij, xor_self, mul_zero]
    · have := pe_zero xs i j hij n (by omega)
      split
      · exact this
      · rw [this, zero_mul]
theorem co_inj {xs : List UInt8} (hn : xs.Nodup) {i j : Nat} (hi : i < xs.length) (hj : j < xs.length) (h : co xs i = co xs j) : i = j := by
  rw [co_lt hi, co_lt hj] at h
  rcases Nat.lt_trichotomy i j with h1 | h1 | h1
  · exact absurd h (List.pairwise_iff_getElem.1 hn i j hi hj h1)
  · exact h1
  · exact absurd h.symm (List.pairwise_iff_getElem.1 hn j i hj hi h1)
theorem pe_ne {xs : List UInt8} (hn : xs.Nodup) {i : Nat} (hi : i < xs.length) : ∀ n, n ≤ xs.length → pe xs i (co xs i) n ≠ 0
  | 0, _ => by show (1 : UInt8) ≠ 0; decide
  | n + 1, h => by
    unfold pe
    have := pe_ne hn hi n (by omega)
    split
    · exact this
    · rename_i hne
      exact mul_ne this (fun e => hne (co_inj hn (by omega) hi (xor_eq_zero e).symm))
/-- What the value at the i-th place counts for that at x. -/
def wt (xs : List UInt8) (i : Nat) (x : UInt8) : UInt8 := mul (pe xs i x xs.length) (inv (pe xs i (co xs i) xs.length))
/-- Sums. -/
def sm (f : Nat → UInt8) : Nat → UInt8
  | 0 => 0
  | n + 1 => sm f n ^^^ f n
theorem sm_one (f : Nat → UInt8) (j : Nat) : ∀ n, (∀ i, i < n → i ≠ j → f i = 0) → sm f n = if j < n then f j else 0
  | 0, _ => rfl
  | n + 1, h => by
    unfold sm
    rw [sm_one f j n (fun i hi => h i (by omega))]
    by_cases hj : j < n
    · rw [if_pos hj, if_pos (by omega), h n (by omega) (by omega), xor_zero]
    · rw [if_neg hj, zero_xor]
      by_cases hn : n = j
      · subst hn; rw [if_pos (by omega)]
      · rw [if_neg (by omega)]; exact h n (by omega) hn
theorem sm_congr {f g : Nat → UInt8} : ∀ n, (∀ i, i < n → f i = g i) → sm f n = sm g n
  | 0, _ => rfl
  | n + 1, h => by unfold sm; rw [sm_congr n (fun i hi => h i (by omega)), h n (by omega)]
/-- Lagrange's polynomial of these factors. -/
def lag (xs : List UInt8) (f : Nat → UInt8) : Nat → List UInt8
  | 0 => []
  | m + 1 => pplus (lag xs f m) ((pep xs m xs.length).map (mul (f m)))
theorem ev_lag (xs : List UInt8) (f : Nat → UInt8) (x : UInt8) : ∀ m, evp (lag xs f m) x = sm (fun i => mul (f i) (pe xs i x xs.length)) m
  | 0 => rfl
  | m + 1 => by
    unfold lag sm
    rw [ev_pplus, ev_lag xs f x m, ev_map, ev_pep]
theorem dg_lag (xs : List UInt8) (f : Nat → UInt8) : ∀ m, m ≤ xs.length → dg (lag xs f m) ≤ xs.length
  | 0, _ => Nat.zero_le _
  | m + 1, h => dg_pplus (dg_lag xs f m (by omega)) (dg_map _ ((dg_pep xs m xs.length).2 (by omega)))
/-- The values that Lagrange's polynomial has at the places. -/
theorem lag_at {xs : List UInt8} (hn : xs.Nodup) (ys : Nat → UInt8) {j : Nat} (hj : j < xs.length) : evp (lag xs (fun i => mul (ys i) (inv (pe xs i (co xs i) xs.length))) xs.length) (co xs j) = ys j := by
  rw [ev_lag, sm_one _ j _ (fun i hi hne => by rw [pe_zero xs i j (Ne.symm hne) _ hj, mul_zero]), if_pos hj, mul_assoc, inv_mul (pe_ne hn hj _ (Nat.le_refl _)), mul_one]
theorem mem_co {xs : List UInt8} {a : UInt8} (h : a ∈ xs) : ∃ j, j < xs.length ∧ a = co xs j := by
  obtain ⟨j, hj, rfl⟩ := List.getElem_of_mem h
  exact ⟨j, hj, (co_lt hj).symm⟩
theorem co_mem {xs : List UInt8} {j : Nat} (h : j < xs.length) : co xs j ∈ xs := by rw [co_lt h]; exact List.getElem_mem h
/-- The value anywhere, by the values at the places. -/
theorem lagrange {xs : List UInt8} (hn : xs.Nodup) {p : List UInt8} (hp : dg p ≤ xs.length) (x : UInt8) : evp p x = sm (fun i => mul (wt xs i x) (evp p (co xs i))) xs.length := by
  have h1 : Sim p (lag xs (fun i => mul (evp p (co xs i)) (inv (pe xs i (co xs i) xs.length))) xs.length) :=
    agree hn hp (dg_lag _ _ _ (Nat.le_refl _)) (fun a ha => by
      obtain ⟨j, hj, rfl⟩ := mem_co ha
      rw [lag_at hn (fun i => evp p (co xs i)) hj])
  rw [ev_sim _ _ x h1, ev_lag]
  refine sm_congr _ fun i _ => ?_
  unfold wt
  rw [mul_assoc, mul_comm (inv _) (pe xs i x xs.length), mul_comm (evp p (co xs i))]
end Gf

/- Small laws of lists, rows and numbers. No condition but lengths. -/




set_option linter.unusedSimpArgs false
set_option linter.unusedVariables false
namespace Gk
open Gf

/-! ### Small laws -/
theorem idx_co {p : List UInt8} {i : Nat} (h : i < p.length) : idx p (i : Int) = some (co p i) := by rw [idx_nat, co_get h]
theorem subL_nat {α : Type} (l : List α) (a b : Nat) (h1 : a ≤ b) (h2 : b ≤ l.length) : subL l (a : Int) (b : Int) = some ((l.take b).drop a) := by
  unfold subL; rw [if_pos ⟨by omega, by omega, by omega⟩]; simp
theorem wI_add (a b : Nat) (h : a + b < 9223372036854775808) : wI ((a : Int) + (b : Int)) = ((a + b : Nat) : Int) := by rw [wI_of (by omega) (by omega)]; omega
theorem wI_sub (a b : Nat) (h : b ≤ a) (h2 : a < 9223372036854775808) : wI ((a : Int) - (b : Int)) = ((a - b : Nat) : Int) := by rw [wI_of (by omega) (by omega)]; omega
theorem wI_pred (a : Nat) (h : 1 ≤ a) (h2 : a < 9223372036854775808) : wI ((a : Int) - 1) = ((a - 1 : Nat) : Int) := by rw [wI_of (by omega) (by omega)]; omega
theorem h257 : (257 : Nat) ≤ most := by decide
theorem most_lt' : most < 9223372036854775000 := by decide
theorem eq_of_co {p q : List UInt8} (hl : p.length = q.length) (h : ∀ i, co p i = co q i) : p = q := by
  apply List.ext_getElem hl
  intro i h1 h2
  have := h i
  rwa [co_lt h1, co_lt h2] at this
theorem co_sumL (a : List UInt8) (c : UInt8) (b : List UInt8) (i : Nat) : co (sumL a c b) i = if i < a.length then co a i ^^^ mul c (co b i) else 0 := by
  simp only [co, sumL, List.getD_eq_getElem?_getD, List.getElem?_mapIdx]
  by_cases h : i < a.length
  · simp [h]
  · simp [h, List.getElem?_eq_none (show a.length ≤ i by omega)]
theorem copyL_len {α : Type} (l : List α) (off : Nat) (m : List α) (h : off ≤ l.length) : (copyL l (off : Int) m).length = l.length := by
  simp only [copyL, Int.toNat_natCast, List.length_append, List.length_take, List.length_drop]; omega
theorem co_copyL (l : List UInt8) (off : Nat) (m : List UInt8) (h : off + m.length ≤ l.length) (j : Nat) : co (copyL l (off : Int) m) j = if off ≤ j ∧ j < off + m.length then co m (j - off) else co l j := by
  have e1 : m.take (l.length - off) = m := List.take_of_length_le (by omega)
  have e2 : min m.length (l.length - off) = m.length := by omega
  simp only [copyL, Int.toNat_natCast, e1, e2, co, List.getD_eq_getElem?_getD, List.getElem?_append, List.length_take, List.getElem?_take, List.getElem?_drop]
  by_cases h1 : j < off
  · rw [if_pos (by omega), if_pos (by omega), if_neg (by omega)]
  · rw [if_neg (by omega), show j - min off l.length = j - off by omega]
    by_cases h2 : j < off + m.length
    · rw [if_pos (by omega), if_pos ⟨by omega, h2⟩]
    · rw [if_neg (by omega), if_neg (by omega)]
      congr 2; omega
theorem co_take (p : List UInt8) (n i : Nat) : co (p.take n) i = if i < n then co p i else 0 := by
  simp only [co, List.getD_eq_getElem?_getD, List.getElem?_take]; split <;> simp
theorem co_drop (p : List UInt8) (n i : Nat) : co (p.drop n) i = co p (n + i) := by
  simp only [co, List.getD_eq_getElem?_getD, List.getElem?_drop]
theorem take_snoc {p : List UInt8} {i : Nat} (h : i < p.length) : p.take (i + 1) = p.take i ++ [co p i] := by
  rw [List.take_add_one, co_get h]; rfl

theorem co_tab (n : Nat) (f : Nat → UInt8) (i : Nat) : co ((List.range n).map f) i = if i < n then f i else 0 := by
  simp only [co, List.getD_eq_getElem?_getD, List.getElem?_map]
  by_cases h : i < n
  · simp [h]
  · rw [List.getElem?_eq_none (by simpa using h), if_neg h]; rfl
theorem anyO_all {α : Type} (t : α → Option Bool) (b : α → Bool) : ∀ l : List α, (∀ x ∈ l, t x = some (b x)) → anyO t l = some (l.any b)
  | [], _ => rfl
  | x :: l, h => by
    unfold anyO
    rw [h x (by simp), Option.bind_some, anyO_all t b l (fun y hy => h y (by simp [hy])), List.any_cons]
    cases b x <;> rfl
theorem getD_get {l : List (List UInt8)} {k : Nat} (h : k < l.length) : l[k]? = some (l.getD k []) := by simp [List.getD_eq_getElem?_getD, h]
theorem getD_mem {l : List (List UInt8)} {k : Nat} (h : k < l.length) : l.getD k [] ∈ l := List.mem_of_getElem? (getD_get h)
theorem idx_getD {l : List (List UInt8)} {k : Nat} (h : k < l.length) : idx l (k : Int) = some (l.getD k []) := by rw [idx_nat, getD_get h]
theorem getD_set {l : List (List UInt8)} {j : Nat} (h : j < l.length) (r : List UInt8) (i : Nat) : (l.set j r).getD i [] = if i = j then r else l.getD i [] := by
  simp only [List.getD_eq_getElem?_getD, List.getElem?_set]
  by_cases hij : j = i
  · subst hij; simp [h]
  · simp [hij, Ne.symm hij]
theorem getD_ge {l : List (List UInt8)} {i : Nat} (h : l.length ≤ i) : l.getD i [] = [] := by simp [List.getD_eq_getElem?_getD, List.getElem?_eq_none h]
theorem getD_rep {n i : Nat} (r : List UInt8) (h : i < n) : (List.replicate n r).getD i [] = r := by simp [List.getD_eq_getElem?_getD, h]
theorem getD_tab (n : Nat) (f : Nat → List UInt8) (i : Nat) (h : i < n) : ((List.range n).map f).getD i [] = f i := by simp [List.getD_eq_getElem?_getD, h]
theorem getD_map (f : List UInt8 → List UInt8) {l : List (List UInt8)} {i : Nat} (h : i < l.length) : (l.map f).getD i [] = f (l.getD i []) := by simp [List.getD_eq_getElem?_getD, h]
theorem rows_ext {a b : List (List UInt8)} (hl : a.length = b.length) (h : ∀ i, i < a.length → a.getD i [] = b.getD i []) : a = b := by
  apply List.ext_getElem hl
  intro i h1 h2
  have := h i h1
  simpa [List.getD_eq_getElem?_getD, h1, h2] using this
theorem idx_0 {l : List (List UInt8)} (h : 0 < l.length) : idx l 0 = some (l.getD 0 []) := by
  have := idx_getD (l := l) (k := 0) h
  rwa [show ((0 : Nat) : Int) = 0 from rfl] at this
theorem rows_snoc {l : List (List UInt8)} {i : Nat} (h : i < l.length) : l.take (i + 1) = l.take i ++ [l.getD i []] := by
  rw [List.take_add_one, getD_get h]; rfl
theorem appL_ok {α : Type} (a b : List α) (h : a.length + b.length ≤ most) (hb : b.length = 1) : appL a b = some (a ++ b) := by
  unfold appL; rw [if_pos (by omega)]
theorem mem_getD {l : List (List UInt8)} {r : List UInt8} (h : r ∈ l) : ∃ i, i < l.length ∧ l.getD i [] = r := by
  obtain ⟨i, hi, rfl⟩ := List.getElem_of_mem h
  exact ⟨i, hi, by simp [List.getD_eq_getElem?_getD, hi]⟩
/-! ### Rows that are written place by place -/
/-- The first k numbers are told by f. -/
def updB (row : List UInt8) (f : Nat → UInt8) (k : Nat) : List UInt8 := (List.range row.length).map fun j => if j < k then f j else co row j
theorem updB_len (row : List UInt8) (f : Nat → UInt8) (k : Nat) : (updB row f k).length = row.length := by simp [updB]
theorem co_updB (row : List UInt8) (f : Nat → UInt8) (k i : Nat) (h : i < row.length) : co (updB row f k) i = if i < k then f i else co row i := by
  unfold updB; rw [co_tab, if_pos h]
theorem updB_zero (row : List UInt8) (f : Nat → UInt8) : updB row f 0 = row := eq_of_co (updB_len _ _ _) fun i => by
  by_cases h : i < row.length
  · rw [co_updB _ _ _ _ h, if_neg (by omega)]
  · rw [co_ge (by rw [updB_len]; omega), co_ge (by omega)]
theorem updB_succ (row : List UInt8) (f : Nat → UInt8) (k : Nat) (h : k < row.length) : (updB row f k).set k (f k) = updB row f (k + 1) := eq_of_co (by simp [updB_len]) fun i => by
  rw [co_set (by rw [updB_len]; omega)]
  by_cases hi : i < row.length
  · rw [co_updB _ _ _ _ hi, co_updB _ _ _ _ hi]
    by_cases hik : i = k
    · rw [if_pos hik, if_pos (by omega), hik]
    · rw [if_neg hik]
      by_cases h2 : i < k
      · rw [if_pos h2, if_pos (by omega)]
      · rw [if_neg h2, if_neg (by omega)]
  · rw [if_neg (by omega), co_ge (by rw [updB_len]; omega), co_ge (by rw [updB_len]; omega)]
theorem updB_end (row : List UInt8) (f : Nat → UInt8) : updB row f row.length = (List.range row.length).map f := by
  unfold updB; exact List.map_congr_left fun j hj => by rw [if_pos (List.mem_range.1 hj)]
theorem idx_updB (row : List UInt8) (f : Nat → UInt8) (k i : Nat) (h : i < row.length) : idx (updB row f k) (i : Int) = some (if i < k then f i else co row i) := by
  rw [idx_co (by rw [updB_len]; exact h), co_updB _ _ _ _ h]
/-- The first i rows are told by F. -/
def updR (l : List (List UInt8)) (F : Nat → List UInt8) (i : Nat) : List (List UInt8) := (List.range l.length).map fun j => if j < i then F j else l.getD j []
theorem updR_len (l : List (List UInt8)) (F : Nat → List UInt8) (i : Nat) : (updR l F i).length = l.length := by simp [updR]
theorem getD_updR (l : List (List UInt8)) (F : Nat → List UInt8) (i j : Nat) (h : j < l.length) : (updR l F i).getD j [] = if j < i then F j else l.getD j [] := by
  unfold updR; rw [getD_tab _ _ _ h]
theorem updR_zero (l : List (List UInt8)) (F : Nat → List UInt8) : updR l F 0 = l := rows_ext (updR_len _ _ _) fun i h => by
  rw [updR_len] at h
  rw [getD_updR _ _ _ _ h, if_neg (by omega)]
theorem updR_succ (l : List (List UInt8)) (F : Nat → List UInt8) (k : Nat) (h : k < l.length) : (updR l F k).set k (F k) = updR l F (k + 1) := rows_ext (by simp [updR_len]) fun i hi => by
  rw [List.length_set, updR_len] at hi
  rw [getD_set (by rw [updR_len]; omega), getD_updR _ _ _ _ hi, getD_updR _ _ _ _ hi]
  by_cases hik : i = k
  · rw [if_pos hik, if_pos (by omega), hik]
  · rw [if_neg hik]
    by_cases h2 : i < k
    · rw [if_pos h2, if_pos (by omega)]
    · rw [if_neg h2, if_neg (by omega)]
theorem updR_end (l : List (List UInt8)) (F : Nat → List UInt8) : updR l F l.length = (List.range l.length).map F := by
  unfold updR; exact List.map_congr_left fun j hj => by rw [if_pos (List.mem_range.1 hj)]
theorem idx_updR (l : List (List UInt8)) (F : Nat → List UInt8) (k : Nat) (h : k < l.length) : idx (updR l F k) (k : Int) = some (l.getD k []) := by
  rw [idx_getD (by rw [updR_len]; exact h), getD_updR _ _ _ _ h, if_neg (by omega)]
theorem set_getD (l : List (List UInt8)) (i : Nat) : l.set i (l.getD i []) = l := by
  by_cases h : i < l.length
  · refine rows_ext (by simp) fun j hj => ?_
    rw [getD_set h]
    by_cases e : j = i
    · rw [if_pos e, e]
    · rw [if_neg e]
  · exact List.set_eq_of_length_le (by omega)
theorem idx_set {l : List (List UInt8)} {i : Nat} (h : i < l.length) (r : List UInt8) : idx (l.set i r) (i : Int) = some r := by
  rw [idx_getD (by simpa using h), getD_set h, if_pos rfl]
/-- A loop that writes a row's numbers one by one. -/
theorem row_loop {body : List (List UInt8) × Int → Option ((List (List UInt8) × Int) ⊕ List (List UInt8))} (l : List (List UInt8)) (i c : Nat) (h : i < l.length) (hc : (l.getD i []).length = c) (f : Nat → UInt8)
    (hs : ∀ k, k < c → body (l.set i (updB (l.getD i []) f k), (k : Int)) = some (.inl (l.set i ((updB (l.getD i []) f k).set k (f k)), ((k + 1 : Nat) : Int))))
    (he : ∀ s, body (s, (c : Int)) = some (.inr s)) : iterC body (l, 0) = some (l.set i ((List.range c).map f)) := by
  refine iterC_count (fun k => (l.set i (updB (l.getD i []) f k), (k : Int))) c _ ?_ ?_ ?_
  · rw [updB_zero, set_getD]; rfl
  · intro k hk
    rw [hs k hk, updB_succ _ _ _ (by omega)]
  · rw [he, ← hc, updB_end]
/-- A loop that writes rows one by one. -/
theorem rows_loop {body : List (List UInt8) × Int → Option ((List (List UInt8) × Int) ⊕ List (List UInt8))} (l : List (List UInt8)) (n : Nat) (hn : l.length = n) (F : Nat → List UInt8)
    (hs : ∀ i, i < n → body (updR l F i, (i : Int)) = some (.inl ((updR l F i).set i (F i), ((i + 1 : Nat) : Int))))
    (he : ∀ s, body (s, (n : Int)) = some (.inr s)) : iterC body (l, 0) = some ((List.range n).map F) := by
  refine iterC_count (fun i => (updR l F i, (i : Int))) n _ ?_ ?_ ?_
  · rw [updR_zero]; rfl
  · intro k hk
    rw [hs k hk, updR_succ _ _ _ (by omega)]
  · rw [he, ← hn, updR_end]
theorem flat_take_le (l : List (List UInt8)) (i : Nat) : (l.take i).flatten.length ≤ l.flatten.length := by
  have h := congrArg List.length (congrArg List.flatten (List.take_append_drop i l))
  rw [List.flatten_append, List.length_append] at h
  omega
theorem Concat_eq (l : List (List UInt8)) (h : l.flatten.length ≤ most) (hl : l.length ≤ most) : slices_Concat_sbytebyte l = some l.flatten := by
  unfold slices_Concat_sbytebyte
  have hmo := most_lt'
  refine bind_of (iterC_count (fun i => (((l.take i).flatten.length : Int), (i : Int))) l.length (l.flatten.length : Int) (by simp) ?_ (by simp)) ?_
  · intro i hi
    have h1 := flat_take_le l (i + 1)
    have e : (l.take (i + 1)).flatten.length = (l.take i).flatten.length + (l.getD i []).length := by rw [rows_snoc hi, List.flatten_append, List.length_append]; simp
    simp only
    rw [if_pos (by omega), idx_getD hi, Option.bind_some, wI_add _ _ (by omega), if_neg (by omega), wI_succ i (by omega), e]
  · unfold slices_Grow
    rw [if_pos (by omega), Option.bind_some]
    refine bind_of (iterC_count (fun i => ((l.take i).flatten, (i : Int))) l.length l.flatten (by simp) ?_ (by simp)) rfl
    intro i hi
    have h1 := flat_take_le l (i + 1)
    have e : (l.take (i + 1)).flatten = (l.take i).flatten ++ l.getD i [] := by rw [rows_snoc hi, List.flatten_append]; simp
    have e2 := congrArg List.length e
    rw [List.length_append] at e2
    simp only
    rw [if_pos (by omega), idx_getD hi, Option.bind_some]
    unfold appL
    rw [if_pos (by omega), Option.bind_some, wI_succ i (by omega), e]
end Gk

/- What chapter 3's functions come to, in plain Lean. No condition but lengths. -/





set_option linter.unusedSimpArgs false
set_option linter.unusedVariables false
namespace Gk
open Gf

/-! ### Trim and degree -/
theorem degI_eq (p : List UInt8) : degI p = ((trim p).length : Int) - 1 := by
  unfold degI
  have hb := (trim_bound p (trim p).length).1 (Nat.le_refl _)
  by_cases h : trim p = []
  · rw [firstNZ_none, h]; · rfl
    intro x hx
    obtain ⟨k, hk, rfl⟩ := mem_revI hx
    rw [← co_lt hk]; exact trim_nil h k
  · have hpos := List.length_pos_iff.2 h
    have hle := trim_le p
    generalize hn : (trim p).length = n at *
    have hg := revI_get p (n - 1) (by omega)
    rw [show p.length - 1 - (n - 1) = p.length - n by omega] at hg
    obtain ⟨hlt, hge⟩ := List.getElem?_eq_some_iff.1 hg
    have hsplit : revI p = (revI p).take (p.length - n) ++ (((n - 1 : Nat) : Int), p[n - 1]) :: (revI p).drop (p.length - n + 1) := by
      rw [← hge, ← List.drop_eq_getElem_cons hlt, List.take_append_drop]
    rw [hsplit, firstNZ_stop]
    · omega
    · intro x hx
      obtain ⟨i, hi, rfl⟩ := List.getElem_of_mem hx
      rw [List.getElem_take]
      rw [List.length_take, revI_len] at hi
      have h1 := revI_get p (p.length - 1 - i) (by omega)
      rw [show p.length - 1 - (p.length - 1 - i) = i by omega] at h1
      obtain ⟨h2, h3⟩ := List.getElem?_eq_some_iff.1 h1
      rw [h3, ← co_lt (by omega)]
      exact hb _ (by omega)
    · rw [← co_lt (by omega), ← hn]
      exact trim_last p h
theorem poly_Degree_eq (p : List UInt8) (h : p.length ≤ most) : poly_Degree p = some (((trim p).length : Int) - 1) := by
  unfold poly_Degree
  rw [if_pos (by have := most_lt'; omega), degI_eq]
theorem poly_Trim_eq (p : List UInt8) (h : p.length ≤ most) : poly_Trim p = some (trim p) := by
  unfold poly_Trim
  have hl := trim_le p
  have hm := most_lt'
  rw [poly_Degree_eq p h, Option.bind_some, show ((trim p).length : Int) - 1 + 1 = ((trim p).length : Int) by omega, wI_nat (by omega)]
  have := subL_nat p 0 (trim p).length (Nat.zero_le _) hl
  rw [show ((0 : Nat) : Int) = 0 from rfl] at this
  rw [this, Option.bind_some, List.drop_zero, ← trim_take]
  unfold slices_Clone_sbytebyte
  rw [appL_nil _ (by omega)]; rfl
theorem ref03_Trim_eq (p : List UInt8) (h : p.length ≤ most) : ref03_Trim p = some (trim p) := by
  unfold ref03_Trim
  have hl := trim_le p
  have hm := most_lt'
  rw [appL_nil _ h, Option.bind_some]
  refine bind_of ?_ rfl
  refine iterC_count (fun i => p.take (p.length - i)) (p.length - (trim p).length) (trim p) (by simp) ?_ ?_
  · intro i hi
    have hlen : (p.take (p.length - i)).length = p.length - i := by simp
    have hc : co (p.take (p.length - i)) (p.length - i - 1) = 0 := by
      rw [co_take, if_pos (by omega)]
      exact (trim_bound p (trim p).length).1 (Nat.le_refl _) _ (by omega)
    rw [if_pos (by rw [hlen]; omega), hlen, wI_pred _ (by omega) (by omega), idx_co (by rw [hlen]; omega), Option.bind_some, if_pos hc]
    have := subL_nat (p.take (p.length - i)) 0 (p.length - i - 1) (Nat.zero_le _) (by rw [hlen]; omega)
    rw [show ((0 : Nat) : Int) = 0 from rfl] at this
    rw [this, Option.bind_some, List.drop_zero, List.take_take]
    congr 3; omega
  · have hn : p.length - (p.length - (trim p).length) = (trim p).length := by omega
    simp only [hn]
    have hlen : (p.take (trim p).length).length = (trim p).length := by simp; omega
    by_cases h0 : trim p = []
    · rw [h0]; simp
    · have hpos := List.length_pos_iff.2 h0
      have hc : co (p.take (trim p).length) ((trim p).length - 1) ≠ 0 := by
        rw [co_take, if_pos (by omega)]
        exact trim_last p h0
      rw [if_pos (by rw [hlen]; omega), hlen, wI_pred _ (by omega) (by omega), idx_co (by rw [hlen]; omega), Option.bind_some, if_neg hc, ← trim_take]

/-! ### Values -/
theorem revI_snd (p : List UInt8) : (revI p).map (·.2) = p.reverse := by
  simp only [revI, List.map_reverse]
  congr 1
  apply List.ext_getElem?
  intro i
  rw [List.getElem?_map, List.getElem?_mapIdx]
  cases p[i]? <;> rfl
theorem foldl_revI {σ : Type} (g : σ → UInt8 → σ) (p : List UInt8) (s : σ) : (revI p).foldl (fun s y => g s y.2) s = p.foldr (fun c s => g s c) s := by
  have : (revI p).foldl (fun s y => g s y.2) s = ((revI p).map (·.2)).foldl g s := by rw [List.foldl_map]
  rw [this, revI_snd, List.foldl_reverse]
theorem ev_foldr (x : UInt8) : ∀ p : List UInt8, p.foldr (fun c s => mul s x ^^^ c) 0 = evp p x
  | [] => rfl
  | c :: p => by
    rw [List.foldr_cons, ev_foldr x p]
    show mul (evp p x) x ^^^ c = c ^^^ mul (evp p x) x
    rw [xor_comm]
theorem poly_Eval_eq (p : List UInt8) (x : UInt8) (h : p.length ≤ most) : poly_Eval true p x = some (evp p x) := by
  unfold poly_Eval
  have hm := most_lt'
  rw [lim_of (by omega), Option.bind_some]
  have := (rangeL_inv (f := fun (s : UInt8) (y : Int × UInt8) => (field_Mul true s x).bind fun r22 => (field_Add r22 y.2).bind fun r25 => some r25) (fun s y => mul s x ^^^ y.2) (xs := revI p) (s0 := 0) (fun _ _ => True) trivial
    (fun k s y _ _ _ => ⟨by simp only [Mul_eq, Add_eq, Option.bind_some], trivial⟩)).1
  rw [this, Option.bind_some, foldl_revI (fun s c => mul s x ^^^ c), ev_foldr]; simp
theorem poly_Eval_nil (p : List UInt8) (x : UInt8) (h : p.length ≤ most) : poly_Eval false p x = some 0 := by
  unfold poly_Eval
  have hm := most_lt'
  rw [lim_of (by omega), Option.bind_some]
  have := (rangeL_inv (f := fun (s : UInt8) (y : Int × UInt8) => (field_Mul false s x).bind fun r22 => (field_Add r22 y.2).bind fun r25 => some r25) (fun s y => 0 ^^^ y.2) (xs := revI p) (s0 := 0) (fun _ _ => True) trivial
    (fun k s y _ _ _ => ⟨by simp [field_Mul, Add_eq], trivial⟩)).1
  rw [this, Option.bind_some]; simp
theorem ev_snoc (x c : UInt8) : ∀ p : List UInt8, evp (p ++ [c]) x = evp p x ^^^ mul c (pow x p.length)
  | [] => by show c ^^^ mul 0 x = 0 ^^^ mul c 1; rw [zero_mul, xor_zero, zero_xor, mul_one]
  | a :: p => by
    show a ^^^ mul (evp (p ++ [c]) x) x = (a ^^^ mul (evp p x) x) ^^^ mul c (mul (pow x p.length) x)
    rw [ev_snoc x c p, add_mul, xor_assoc, mul_assoc]
theorem ref03_Eval_eq (p : List UInt8) (x : UInt8) (h : p.length ≤ most) : ref03_Eval p x = some (evp p x) := by
  unfold ref03_Eval
  have hm := most_lt'
  refine bind_of ?_ rfl
  refine iterC_count (fun i => (evp (p.take i) x, pow x i, (i : Int))) p.length (evp p x) rfl ?_ ?_
  · intro i hi
    simp only
    rw [if_pos (by omega), idx_co hi]
    simp only [Option.bind_some, refMul_eq]
    rw [take_snoc hi, ev_snoc, List.length_take, Nat.min_eq_left (by omega), wI_succ i (by omega)]
    rfl
  · simp

/-! ### Sums -/
theorem maxI (a b : Nat) : (if (a : Int) < (b : Int) then (b : Int) else (a : Int)) = ((max a b : Nat) : Int) := by split <;> omega
/-- p and, beside it, q, added number by number. -/
theorem addLoop (M : Nat) (p q : List UInt8) (hp : p.length ≤ M) (hq : q.length ≤ M) (hM : M ≤ most) {body : List UInt8 × Int → Option ((List UInt8 × Int) ⊕ List UInt8)}
    (hb1 : ∀ (s : List UInt8) (i : Nat), i < q.length → i < s.length → body (s, (i : Int)) = some (.inl (s.set i (co s i ^^^ co q i), ((i + 1 : Nat) : Int))))
    (hb2 : ∀ s : List UInt8, body (s, (q.length : Int)) = some (.inr s)) :
    ∃ x, iterC body (copyL (List.replicate M 0) 0 p, 0) = some x ∧ x.length = M ∧ ∀ j, co x j = co p j ^^^ co q j := by
  refine iterC_up (fun i s => s.length = M ∧ ∀ j, co s j = co p j ^^^ (if j < i then co q j else 0)) q.length _ ?_ ?_ ?_
  · refine ⟨?_, fun j => ?_⟩
    · have := copyL_len (List.replicate M (0 : UInt8)) 0 p (Nat.zero_le _)
      simpa using this
    · have := co_copyL (List.replicate M 0) 0 p (by simpa using hp) j
      rw [show ((0 : Nat) : Int) = 0 from rfl] at this
      rw [this, co_rep]
      simp only [Nat.zero_le, true_and, Nat.zero_add, Nat.sub_zero, Nat.not_lt_zero, if_false, xor_zero]
      split
      · rfl
      · rw [co_ge (by omega)]
  · rintro i s hi ⟨hl, hs⟩
    refine ⟨_, hb1 s i hi (by omega), by simpa using hl, fun j => ?_⟩
    rw [co_set (by omega)]
    by_cases hj : j = i
    · subst hj; rw [if_pos rfl, hs j, if_neg (by omega), if_pos (by omega), xor_zero]
    · rw [if_neg hj, hs j]
      have : j < i + 1 ↔ j < i := by omega
      simp only [this]
  · rintro s ⟨hl, hs⟩
    refine ⟨s, hb2 s, hl, fun j => ?_⟩
    rw [hs j]
    split
    · rfl
    · rw [co_ge (show q.length ≤ j by omega)]
theorem poly_Add_eq (p q : List UInt8) (hp : p.length ≤ most) (hq : q.length ≤ most) : poly_Add p q = some (trim (pplus p q)) := by
  unfold poly_Add
  have hm := most_lt'
  rw [maxI, makeL_nat _ _ (by omega), Option.bind_some]
  obtain ⟨x, h1, h2, h3⟩ := addLoop (max p.length q.length) p q (by omega) (by omega) (by omega)
    (body := fun s6 : List UInt8 × Int => (if s6.2 < (q.length : Int) then ((idx q s6.2).bind fun c9 => ((idx s6.1 s6.2).bind fun c10 => some (.inl ((s6.1.set (s6.2 : Int).toNat ((c10 ^^^ c9))), (wI (s6.2 + 1)))))) else some (.inr s6.1)))
    (fun s i hi hs => by
      simp only
      rw [if_pos (by omega), idx_co hi, Option.bind_some, idx_co hs, Option.bind_some, wI_succ i (by omega), Int.toNat_natCast])
    (fun s => by simp)
  rw [h1, Option.bind_some, poly_Trim_eq x (by omega), Option.bind_some, trim_ext x (pplus p q) (fun j => by rw [h3, co_pplus])]

/-! ### Products -/
theorem mulLoop (P Q : List UInt8) (M : Nat) (hM : M = P.length + Q.length - 1) (hQ : Q ≠ []) (hm : P.length + Q.length ≤ most) {body : List UInt8 × Int → Option ((List UInt8 × Int) ⊕ List UInt8)}
    (hb1 : ∀ (s : List UInt8) (i : Nat), i < P.length → s.length = M → body (s, (i : Int)) = some (.inl (copyL s (i : Int) (sumL ((s.take (i + Q.length)).drop i) (co P i) Q), ((i + 1 : Nat) : Int))))
    (hb2 : ∀ s : List UInt8, body (s, (P.length : Int)) = some (.inr s)) :
    ∃ x, iterC body (List.replicate M 0, 0) = some x ∧ x.length = M ∧ ∀ j, co x j = co (pmul P Q) j := by
  have lq := List.length_pos_iff.2 hQ
  refine iterC_up (fun i s => s.length = M ∧ ∀ j, co s j = co (pmul (P.take i) Q) j) P.length _ ⟨by simp, fun j => by rw [co_rep]; simp [pmul, co_nil]⟩ ?_ ?_
  · rintro i s hi ⟨hl, hs⟩
    have hlen : (sumL ((s.take (i + Q.length)).drop i) (co P i) Q).length = Q.length := by rw [sumL_len]; simp; omega
    refine ⟨_, hb1 s i hi hl, by rw [copyL_len _ _ _ (by omega), hl], fun j => ?_⟩
    rw [co_copyL _ _ _ (by rw [hlen]; omega), hlen, take_snoc hi, co_pmul_snoc, ← hs j, List.length_take, Nat.min_eq_left (Nat.le_of_lt hi), co_sumL]
    by_cases h1 : i ≤ j ∧ j < i + Q.length
    · have hl2 : ((s.take (i + Q.length)).drop i).length = Q.length := by simp; omega
      rw [if_pos h1, if_neg (show ¬ j < i by omega), hl2, if_pos (show j - i < Q.length by omega), co_drop, co_take, show i + (j - i) = j by omega, if_pos (show j < i + Q.length by omega)]
    · rw [if_neg h1]
      by_cases h2 : j < i
      · rw [if_pos h2, xor_zero]
      · rw [if_neg h2, co_ge (show Q.length ≤ j - i by omega), mul_zero, xor_zero]
  · rintro s ⟨hl, hs⟩
    exact ⟨s, hb2 s, hl, fun j => by rw [hs j, List.take_of_length_le (Nat.le_refl _)]⟩
theorem poly_Mul_eq (p q : List UInt8) (hp : p.length ≤ most) (hq : q.length ≤ most) (h : trim p = [] ∨ trim q = [] ∨ (trim p).length + (trim q).length ≤ 257) : poly_Mul true p q = some (trim (pmul p q), 0) := by
  unfold poly_Mul
  rw [poly_Trim_eq p hp, Option.bind_some, poly_Trim_eq q hq, Option.bind_some, if_neg (by simp)]
  have hs : trim (pmul p q) = trim (pmul (trim p) (trim q)) := trim_ext _ _ (pmul_sim (trim_sim p).symm (trim_sim q).symm)
  by_cases h1 : trim p = []
  · rw [if_pos (by rw [h1]; rfl), hs, h1]; rfl
  · have l1 := List.length_pos_iff.2 h1
    rw [if_neg (by omega)]
    by_cases h2 : trim q = []
    · rw [if_pos (by rw [h2]; rfl), hs, h2, trim_ext _ [] (pmul_nilR _)]; rfl
    · have l2 := List.length_pos_iff.2 h2
      have h3 : (trim p).length + (trim q).length ≤ 257 := by rcases h with h | h | h <;> first | exact absurd h h1 | exact absurd h h2 | exact h
      rw [if_neg (by omega), wI_add _ _ (by omega), wI_pred _ (by omega) (by omega), if_neg (by omega), makeL_nat _ _ (by have := h257; omega), Option.bind_some]
      obtain ⟨x, e1, e2, e3⟩ := mulLoop (trim p) (trim q) _ rfl h2 (by have := h257; omega)
        (body := fun s12 : List UInt8 × Int => (if s12.2 < ((trim p).length : Int) then ((idx (trim p) s12.2).bind fun c15 => ((subL s12.1 s12.2 ((s12.1.length : Int))).bind fun c18 => ((subL s12.1 s12.2 ((wI (s12.2 + ((trim q).length : Int))))).bind fun c19 =>
          ((field_Sum true c19 c15 (trim q)).bind fun r20 => some (.inl ((copyL s12.1 s12.2 r20), (wI (s12.2 + 1)))))))) else some (.inr s12.1)))
        (fun s i hi hl => by
          simp only
          rw [if_pos (by omega), idx_co hi, Option.bind_some, subL_nat _ _ _ (by omega) (Nat.le_refl _), Option.bind_some, wI_add _ _ (by omega), subL_nat _ _ _ (by omega) (by omega), Option.bind_some,
            Sum_eq _ _ _ (by have := h257; simp; omega), Option.bind_some, wI_succ i (by omega)])
        (fun s => by simp)
      rw [e1, Option.bind_some, hs]
      congr 2
      refine eq_of_co ?_ (fun j => by rw [e3, co_trim])
      rw [e2, pmul_trim_len (trim_trim p) (trim_trim q) h1 h2]
theorem poly_Mul_long (p q : List UInt8) (hp : p.length ≤ most) (hq : q.length ≤ most) (h1 : trim p ≠ []) (h2 : trim q ≠ []) (h : 257 < (trim p).length + (trim q).length) : poly_Mul true p q = some ([], 4) := by
  unfold poly_Mul
  have l1 := List.length_pos_iff.2 h1
  have l2 := List.length_pos_iff.2 h2
  have t1 := trim_le p
  have t2 := trim_le q
  have hm : most + most < 9223372036854775807 := by decide
  rw [poly_Trim_eq p hp, Option.bind_some, poly_Trim_eq q hq, Option.bind_some, if_neg (by simp), if_neg (by omega), if_neg (by omega), wI_add _ _ (by omega), wI_pred _ (by omega) (by omega), if_pos (by omega)]
theorem poly_Mul_nil (p q : List UInt8) (hp : p.length ≤ most) (hq : q.length ≤ most) : poly_Mul false p q = some ([], 1) := by
  unfold poly_Mul
  rw [poly_Trim_eq p hp, Option.bind_some, poly_Trim_eq q hq, Option.bind_some, if_pos (by simp)]
theorem ref03_Mul_eq (p q : List UInt8) (h : p.length + q.length ≤ most) : ref03_Mul p q = some (trim (pmul p q)) := by
  unfold ref03_Mul
  have hm := most_lt'
  rw [wI_add _ _ (by omega), makeL_nat _ _ h, Option.bind_some]
  obtain ⟨x, e1, e2, e3⟩ := iterC_up (s0 := List.replicate (p.length + q.length) (0 : UInt8)) (fun i s => s.length = p.length + q.length ∧ ∀ j, co s j = co (pmul (p.take i) q) j) p.length (fun x : List UInt8 => x.length = p.length + q.length ∧ ∀ j, co x j = co (pmul p q) j)
    (body := fun s4 : List UInt8 × Int => (if s4.2 < (p.length : Int) then ((idx p s4.2).bind fun c7 => ((iterC (fun s8 : List UInt8 × Int => (if s8.2 < (q.length : Int) then ((idx q s8.2).bind fun c11 => ((idx s8.1 ((wI (s4.2 + s8.2)))).bind fun c14 =>
      ((ref02_Mul c7 c11).bind fun r15 => some (.inl ((s8.1.set ((wI (s4.2 + s8.2)) : Int).toNat ((c14 ^^^ r15))), (wI (s8.2 + 1))))))) else some (.inr s8.1))) (s4.1, 0)).bind fun x8 => some (.inl (x8, (wI (s4.2 + 1)))))) else some (.inr s4.1)))
    ⟨by simp, fun j => by rw [co_rep]; simp [pmul, co_nil]⟩
    (fun i s hi hs => by
      obtain ⟨hl, hs⟩ := hs
      obtain ⟨y, f1, f2, f3⟩ := iterC_up (s0 := s) (fun k t => t.length = p.length + q.length ∧ ∀ j, co t j = co s j ^^^ (if i ≤ j ∧ j < i + k then mul (co p i) (co q (j - i)) else 0)) q.length (fun x : List UInt8 => x.length = p.length + q.length ∧ ∀ j, co x j = co s j ^^^ (if i ≤ j then mul (co p i) (co q (j - i)) else 0))
        (body := fun s8 : List UInt8 × Int => (if s8.2 < (q.length : Int) then ((idx q s8.2).bind fun c11 => ((idx s8.1 ((wI ((i : Int) + s8.2)))).bind fun c14 => ((ref02_Mul (co p i) c11).bind fun r15 => some (.inl ((s8.1.set ((wI ((i : Int) + s8.2)) : Int).toNat ((c14 ^^^ r15))), (wI (s8.2 + 1))))))) else some (.inr s8.1)))
        ⟨hl, fun j => by rw [if_neg (by omega), xor_zero]⟩
        (fun k t hk ht => by
          obtain ⟨tl, ht⟩ := ht
          refine ⟨t.set (i + k) (co t (i + k) ^^^ mul (co p i) (co q k)), ?_, by simpa using tl, fun j => ?_⟩
          · simp only
            rw [if_pos (by omega), idx_co hk, Option.bind_some, wI_add _ _ (by omega), idx_co (by omega), Option.bind_some, refMul_eq, Option.bind_some, wI_succ k (by omega), Int.toNat_natCast]
          · rw [co_set (by omega)]
            by_cases hj : j = i + k
            · subst hj
              rw [if_pos rfl, ht (i + k), if_neg (by omega), if_pos (by omega), xor_zero, show i + k - i = k by omega]
            · rw [if_neg hj, ht j]
              have : (i ≤ j ∧ j < i + (k + 1)) ↔ (i ≤ j ∧ j < i + k) := by omega
              simp only [this])
        (fun t ht => ⟨t, by simp, ht.1, fun j => by
          rw [ht.2 j]
          by_cases h1 : i ≤ j
          · by_cases h2 : j < i + q.length
            · rw [if_pos ⟨h1, h2⟩, if_pos h1]
            · rw [if_neg (by omega), if_pos h1, co_ge (show q.length ≤ j - i by omega), mul_zero]
          · rw [if_neg (by omega), if_neg h1]⟩)
      refine ⟨y, ?_, f2, fun j => ?_⟩
      · simp only
        rw [if_pos (by omega), idx_co hi, Option.bind_some, f1, Option.bind_some, wI_succ i (by omega)]
      · rw [f3 j, take_snoc hi, co_pmul_snoc, ← hs j, List.length_take, Nat.min_eq_left (Nat.le_of_lt hi)]
        by_cases h1 : i ≤ j
        · rw [if_pos h1, if_neg (by omega)]
        · rw [if_neg h1, if_pos (by omega)])
    (fun s hs => ⟨s, by simp, hs.1, fun j => by rw [hs.2 j, List.take_of_length_le (Nat.le_refl _)]⟩)
  rw [e1, Option.bind_some, ref03_Trim_eq x (by omega), Option.bind_some, trim_ext x (pmul p q) e3]
end Gk

/- Chapter 3: vanishing polynomials. No condition. -/

set_option linter.unusedSimpArgs false
set_option linter.unusedVariables false
namespace Gk
open Gf

/-! ### Vanishing polynomials -/
def vanStep (o : List UInt8) (a : UInt8) : List UInt8 := trim (pmul o [a, 1])
def van (xs : List UInt8) : List UInt8 := xs.foldl vanStep [1]
theorem trim_lin (a : UInt8) : trim [a, 1] = [a, 1] := trim_id (fun _ => by show (1 : UInt8) ≠ 0; decide)
theorem van_len : ∀ (xs o : List UInt8), trim o = o → o ≠ [] → (xs.foldl vanStep o).length = o.length + xs.length ∧ trim (xs.foldl vanStep o) = xs.foldl vanStep o
  | [], o, h, _ => ⟨rfl, h⟩
  | a :: xs, o, h, hne => by
    have hl : (vanStep o a).length = o.length + 1 := by
      unfold vanStep
      rw [pmul_trim_len h (trim_lin a) hne (by simp)]; simp
    have := van_len xs (vanStep o a) (trim_trim _) (fun e => by rw [e] at hl; simp at hl)
    rw [List.foldl_cons]
    exact ⟨by rw [this.1, hl, List.length_cons]; omega, this.2⟩
theorem trim_one : trim [1] = [1] := trim_id (fun _ => by show (1 : UInt8) ≠ 0; decide)
theorem van_length (xs : List UInt8) : (van xs).length = xs.length + 1 := by
  have := (van_len xs [1] trim_one (by simp)).1
  unfold van; rw [this]; simp; omega
theorem van_trim (xs : List UInt8) : trim (van xs) = van xs := (van_len xs [1] trim_one (by simp)).2
theorem van_snoc (xs : List UInt8) (a : UInt8) : van (xs ++ [a]) = vanStep (van xs) a := by unfold van; rw [List.foldl_append]; rfl
theorem poly_Vanish_eq (xs : List UInt8) (h : xs.length ≤ 255) : poly_Vanish true xs = some (van xs, 0) := by
  unfold poly_Vanish
  rw [if_neg (by simp), if_neg (by omega)]
  refine bind_of ?_ rfl
  refine iterC_count (fun i => (van (xs.take i), (i : Int))) xs.length (van xs) rfl ?_ ?_
  · intro i hi
    have h1 := van_length (xs.take i)
    have h2 : (xs.take i).length = i := by simp; omega
    have := h257
    simp only
    rw [if_pos (by omega), idx_co hi, Option.bind_some, poly_Mul_eq _ _ (by omega) (by simp; omega) (.inr (.inr (by rw [van_trim, trim_lin, h1, h2]; simp; omega))), Option.bind_some, wI_succ i (by omega), take_snoc hi, van_snoc]
    rfl
  · simp
theorem poly_Vanish_long (f : Bool) (xs : List UInt8) (h : 255 < xs.length) : poly_Vanish true xs = some ([], 4) := by
  unfold poly_Vanish
  rw [if_neg (by simp), if_pos (by omega)]
end Gk

/- Chapter 3: places, weights. No condition but lengths. -/



set_option linter.unusedSimpArgs false
set_option linter.unusedVariables false
namespace Gk
open Gf

/-! ### Which places may be -/
theorem mput_keys (m : List (UInt8 × Bool)) (k : UInt8) (v : Bool) (a : UInt8) : a ∈ (mput m k v).map (·.1) ↔ a = k ∨ a ∈ m.map (·.1) := by
  unfold mput
  split
  · rename_i h
    rw [List.map_map]
    have : ((fun x : UInt8 × Bool => x.1) ∘ fun p => if p.1 = k then (p.1, v) else p) = (fun x => x.1) := by
      funext p; simp only [Function.comp]; split <;> rfl
    rw [this]
    exact ⟨fun h => .inr h, fun h' => h'.elim (fun e => e ▸ h) id⟩
  · simp only [List.map_append, List.mem_append, List.map_cons, List.map_nil, List.mem_singleton]
    exact ⟨fun h => h.symm, fun h => h.symm⟩
theorem mput_len (m : List (UInt8 × Bool)) (k : UInt8) (v : Bool) : (mput m k v).length = if k ∈ m.map (·.1) then m.length else m.length + 1 := by
  unfold mput
  split <;> simp
/-- How many unlike numbers there are. -/
theorem seen_inv (xs : List UInt8) (i : Nat) (hi : i < xs.length) (m : List (UInt8 × Bool)) (h : (∀ a, a ∈ m.map (·.1) ↔ a ∈ xs.take i) ∧ m.length ≤ i ∧ (m.length = i ↔ (xs.take i).Nodup)) :
    (∀ a, a ∈ (mput m (co xs i) true).map (·.1) ↔ a ∈ xs.take (i + 1)) ∧ (mput m (co xs i) true).length ≤ i + 1 ∧ ((mput m (co xs i) true).length = i + 1 ↔ (xs.take (i + 1)).Nodup) := by
  obtain ⟨h1, h2, h3⟩ := h
  rw [take_snoc hi]
  refine ⟨fun a => ?_, ?_, ?_⟩
  · rw [mput_keys, h1 a, List.mem_append, List.mem_singleton]
    exact ⟨fun h => h.symm, fun h => h.symm⟩
  · rw [mput_len]; split <;> omega
  · rw [mput_len, List.nodup_append]
    by_cases hk : co xs i ∈ m.map (·.1)
    · rw [if_pos hk]
      refine ⟨fun h => by omega, fun h => ?_⟩
      exact absurd rfl (h.2.2 _ ((h1 _).1 hk) _ (by simp))
    · rw [if_neg hk]
      refine ⟨fun h => ⟨h3.1 (by omega), by simp, fun a ha b hb e => ?_⟩, fun h => by rw [h3.2 h.1]⟩
      rw [List.mem_singleton] at hb
      subst hb; subst e
      exact hk ((h1 _).2 ha)
theorem poly_check_eq (xs : List UInt8) (h : xs.length ≤ most) : poly_check true xs = some (if xs.length = 0 then 5 else if 255 < xs.length then 4 else if xs.Nodup then 0 else 6) := by
  unfold poly_check
  have hm := most_lt'
  obtain ⟨m, e1, e2, e3⟩ := iterC_up (s0 := ([] : List (UInt8 × Bool))) (fun i m => (∀ a, a ∈ m.map (·.1) ↔ a ∈ xs.take i) ∧ m.length ≤ i ∧ (m.length = i ↔ (xs.take i).Nodup)) xs.length (fun m : List (UInt8 × Bool) => m.length ≤ xs.length ∧ (m.length = xs.length ↔ xs.Nodup))
    (body := fun s4 : (List (UInt8 × Bool)) × Int => (if s4.2 < (xs.length : Int) then ((idx xs s4.2).bind fun c7 => some (.inl ((mput s4.1 c7 true), (wI (s4.2 + 1))))) else some (.inr s4.1)))
    ⟨by simp, by simp, by simp⟩
    (fun i m hi hI => ⟨_, by simp only; rw [if_pos (by omega), idx_co hi, Option.bind_some, wI_succ i (by omega)], seen_inv xs i hi m hI⟩)
    (fun m hI => ⟨m, by simp, hI.2.1, by rw [hI.2.2, List.take_of_length_le (Nat.le_refl _)]⟩)
  rw [e1, Option.bind_some, if_neg (by simp)]
  by_cases h0 : xs.length = 0
  · rw [if_pos (by omega), if_pos h0]
  · rw [if_neg (by omega), if_neg h0]
    by_cases h1 : 255 < xs.length
    · rw [if_pos (by omega), if_pos h1]
    · rw [if_neg (by omega), if_neg h1]
      by_cases h2 : xs.Nodup
      · rw [if_pos h2, if_pos (by rw [e3.2 h2])]
      · rw [if_neg h2, if_neg (fun e => h2 (e3.1 (by omega)))]
theorem poly_check_nil (xs : List UInt8) (h : xs.length ≤ most) : poly_check false xs = some 1 := by
  unfold poly_check
  have hm := most_lt'
  obtain ⟨m, e1, _⟩ := iterC_up (s0 := ([] : List (UInt8 × Bool))) (fun i m => True) xs.length (fun m : List (UInt8 × Bool) => True)
    (body := fun s4 : (List (UInt8 × Bool)) × Int => (if s4.2 < (xs.length : Int) then ((idx xs s4.2).bind fun c7 => some (.inl ((mput s4.1 c7 true), (wI (s4.2 + 1))))) else some (.inr s4.1)))
    trivial
    (fun i m hi hI => ⟨_, by simp only; rw [if_pos (by omega), idx_co hi, Option.bind_some, wI_succ i (by omega)], trivial⟩)
    (fun m hI => ⟨m, by simp, trivial⟩)
  rw [e1, Option.bind_some, if_pos (by simp)]

/-! ### Weights -/
def wts (xs : List UInt8) (x : UInt8) : List UInt8 := (List.range xs.length).map fun i => wt xs i x
theorem wts_len (xs : List UInt8) (x : UInt8) : (wts xs x).length = xs.length := by simp [wts]
theorem co_wts (xs : List UInt8) (x : UInt8) (i : Nat) (h : i < xs.length) : co (wts xs x) i = wt xs i x := by
  simp [co, wts, List.getD_eq_getElem?_getD, h]
theorem poly_Weights_bad (xs : List UInt8) (x : UInt8) (e : Int) (h : poly_check true xs = some e) (he : e ≠ 0) : poly_Weights true xs x = some ([], e) := by
  unfold poly_Weights
  rw [h, Option.bind_some, if_neg he]
theorem poly_Weights_nil (xs : List UInt8) (x : UInt8) (h : xs.length ≤ most) : poly_Weights false xs x = some ([], 1) := by
  unfold poly_Weights
  rw [poly_check_nil xs h, Option.bind_some, if_neg (by decide)]
theorem poly_Weights_eq (xs : List UInt8) (x : UInt8) (h0 : xs.length ≠ 0) (h1 : xs.length ≤ 255) (hn : xs.Nodup) : poly_Weights true xs x = some (wts xs x, 0) := by
  unfold poly_Weights
  have hm := most_lt'
  have hh := h257
  rw [poly_check_eq xs (by omega), if_neg h0, if_neg (by omega), if_pos hn, Option.bind_some, if_pos rfl, makeL_nat _ _ (by omega), Option.bind_some]
  obtain ⟨s, e1, e2⟩ := iterC_up (s0 := List.replicate xs.length (0 : UInt8)) (fun i s => s.length = xs.length ∧ ∀ j, j < i → co s j = wt xs j x) xs.length (fun s : List UInt8 => s = wts xs x)
    (body := fun s7 : List UInt8 × Int => (if s7.2 < (xs.length : Int) then ((idx xs s7.2).bind fun c10 => ((iterC (fun s11 : UInt8 × UInt8 × Int => (if s11.2.2 < (xs.length : Int) then ((idx xs s11.2.2).bind fun c14 => (if s11.2.2 = s7.2 then some (.inl (s11.1, s11.2.1, (wI (s11.2.2 + 1)))) else
      ((field_Add x c14).bind fun r16 => ((field_Mul true s11.1 r16).bind fun r18 => ((field_Add c10 c14).bind fun r20 => ((field_Mul true s11.2.1 r20).bind fun r22 => some (.inl (r18, r22, (wI (s11.2.2 + 1)))))))))) else some (.inr (s11.1, s11.2.1)))) ((1 : UInt8), (1 : UInt8), 0)).bind fun x11 =>
      ((field_Div true x11.1 x11.2).bind fun r26 => ((idx s7.1 s7.2).bind fun c28 => some (.inl ((s7.1.set (s7.2 : Int).toNat r26.1), (wI (s7.2 + 1)))))))) else some (.inr s7.1)))
    ⟨by simp, fun j hj => absurd hj (Nat.not_lt_zero _)⟩
    (fun i s hi hI => by
      obtain ⟨hl, hs⟩ := hI
      have inner : iterC (fun s11 : UInt8 × UInt8 × Int => (if s11.2.2 < (xs.length : Int) then ((idx xs s11.2.2).bind fun c14 => (if s11.2.2 = (i : Int) then some (.inl (s11.1, s11.2.1, (wI (s11.2.2 + 1)))) else
          ((field_Add x c14).bind fun r16 => ((field_Mul true s11.1 r16).bind fun r18 => ((field_Add (co xs i) c14).bind fun r20 => ((field_Mul true s11.2.1 r20).bind fun r22 => some (.inl (r18, r22, (wI (s11.2.2 + 1)))))))))) else some (.inr (s11.1, s11.2.1)))) ((1 : UInt8), (1 : UInt8), 0)
          = some (pe xs i x xs.length, pe xs i (co xs i) xs.length) := by
        refine iterC_count (fun k => (pe xs i x k, pe xs i (co xs i) k, (k : Int))) xs.length _ rfl ?_ ?_
        · intro k hk
          simp only
          rw [if_pos (by omega), idx_co hk, Option.bind_some]
          by_cases hki : k = i
          · subst hki
            rw [if_pos rfl, wI_succ k (by omega)]
            simp [pe]
          · rw [if_neg (by omega)]
            simp only [Add_eq, Mul_eq, Option.bind_some]
            rw [wI_succ k (by omega)]
            simp [pe, hki]
        · simp
      refine ⟨s.set i (wt xs i x), ?_, by simpa using hl, fun j hj => ?_⟩
      · simp only
        rw [if_pos (by omega), idx_co hi, Option.bind_some, inner, Option.bind_some, Div_eq, if_neg (pe_ne hn hi _ (Nat.le_refl _)), Option.bind_some, idx_co (by omega), Option.bind_some, wI_succ i (by omega), Int.toNat_natCast]
        rfl
      · rw [co_set (by omega)]
        by_cases hji : j = i
        · rw [if_pos hji, hji]
        · rw [if_neg hji]; exact hs j (by omega))
    (fun s hI => ⟨s, by simp, eq_of_co (by rw [wts_len, hI.1]) (fun j => by
      by_cases hj : j < xs.length
      · rw [hI.2 j hj, co_wts xs x j hj]
      · rw [co_ge (by omega), co_ge (by rw [wts_len]; omega)])⟩)
  rw [e1, Option.bind_some, e2]

/-! ### Where a vanishing polynomial vanishes -/
theorem ev_van : ∀ (xs o : List UInt8) (y : UInt8), evp (xs.foldl vanStep o) y = 0 ↔ evp o y = 0 ∨ y ∈ xs
  | [], o, y => by simp
  | a :: xs, o, y => by
    rw [List.foldl_cons, ev_van xs (vanStep o a) y]
    have : evp (vanStep o a) y = mul (evp o y) (y ^^^ a) := by unfold vanStep; rw [ev_trim, ev_pmul, ev_lin]
    rw [this, List.mem_cons]
    constructor
    · rintro (h | h)
      · rcases mul_eq_zero h with h | h
        · exact .inl h
        · exact .inr (.inl (xor_eq_zero h))
      · exact .inr (.inr h)
    · rintro (h | h | h)
      · exact .inl (by rw [h, zero_mul])
      · exact .inl (by rw [h, xor_self, mul_zero])
      · exact .inr h
theorem van_root (xs : List UInt8) (y : UInt8) : evp (van xs) y = 0 ↔ y ∈ xs := by
  unfold van
  rw [ev_van]
  have : evp [1] y = 1 := by show 1 ^^^ mul 0 y = 1; rw [zero_mul, xor_zero]
  rw [this]
  constructor
  · rintro (h | h)
    · exact absurd h (by decide)
    · exact h
  · exact .inr
end Gk

/- Chapter 3: quotient and rest. No condition but lengths. -/


set_option linter.unusedSimpArgs false
set_option linter.unusedVariables false
namespace Gk
open Gf

theorem revN_succ (n : Nat) : revN (n + 1) = (n : Int) :: revN n := by
  simp [revN, List.range_succ]
/-- A walk from the top down. -/
theorem foldl_revN {σ : Type} (g : σ → Int → σ) (P : Nat → σ → Prop) (hs : ∀ j s, P (j + 1) s → P j (g s (j : Int))) : ∀ (n : Nat) (s : σ), P n s → P 0 ((revN n).foldl g s)
  | 0, s, h => h
  | n + 1, s, h => by
    rw [revN_succ, List.foldl_cons]
    exact foldl_revN g P hs n _ (hs n s h)
def divStep (d : Nat) (top : UInt8) (Q : List UInt8) (s : List UInt8 × List UInt8) (y : Int) : List UInt8 × List UInt8 :=
  let c := mul (co s.1 (y.toNat + d - 1)) top
  (copyL s.1 y (sumL ((s.1.take (y.toNat + d)).drop y.toNat) c Q), s.2.set y.toNat c)
theorem poly_DivMod_eq (p q : List UInt8) (hp : p.length ≤ 1000) (hq : q.length ≤ 1000) (h0 : trim q ≠ []) : ∃ a b, poly_DivMod true p q = some (a, b, 0) ∧ trim a = a ∧ trim b = b ∧ b.length < (trim q).length ∧ (∀ i, co p i = co b i ^^^ co (pmul a q) i) ∧ a.length ≤ p.length + 1 := by
  have hm := most_lt'
  have h1000 : 2000 ≤ most := by decide
  have ld := List.length_pos_iff.2 h0
  have tq := trim_le q
  have hlead := trim_last q h0
  unfold poly_DivMod
  rw [poly_Trim_eq q (by omega), Option.bind_some, if_neg (by simp), if_neg (by omega), wI_pred _ (by omega) (by omega), idx_co (by omega), co_trim]
  generalize hd : (trim q).length = d at *
  generalize hc : co q (d - 1) = lead at *
  simp only [Inv_eq, Option.bind_some, if_neg hlead]
  unfold slices_Clone_sbytebyte
  rw [appL_nil p (by omega), Option.bind_some]
  have en : (if 0 < wI (wI ((p.length : Int) - (d : Int)) + 1) then wI (wI ((p.length : Int) - (d : Int)) + 1) else 0) = ((p.length + 1 - d : Nat) : Int) := by
    have i1 : wI ((p.length : Int) - (d : Int)) = (p.length : Int) - (d : Int) := wI_of (by omega) (by omega)
    rw [i1, wI_of (by omega) (by omega)]
    split <;> omega
  rw [en, makeL_nat _ _ (by omega), Option.bind_some, List.length_replicate, lim_of (by omega), Option.bind_some]
  generalize hn : p.length + 1 - d = n at *
  have key := rangeL_inv (f := fun (s72 : List UInt8 × List UInt8) (y72 : Int) => ((idx s72.1 ((wI ((wI (y72 + (d : Int))) - 1)))).bind fun c78 => ((field_Mul true c78 (inv lead)).bind fun r79 => ((idx s72.2 y72).bind fun c82 => ((subL s72.1 y72 ((s72.1.length : Int))).bind fun c89 =>
      ((subL s72.1 y72 ((wI (y72 + (d : Int))))).bind fun c90 => ((field_Sum true c90 r79 (trim q)).bind fun r91 => some ((copyL s72.1 y72 r91), (s72.2.set (y72 : Int).toNat r79))))))))) (divStep d (inv lead) (trim q)) (xs := revN n) (s0 := (p, List.replicate n 0))
    (fun _ s => s.1.length = p.length ∧ s.2.length = n) ⟨rfl, by simp⟩ (by
      rintro k ⟨r, t⟩ x _ hx ⟨hr, ht⟩
      simp only at hr ht
      obtain ⟨i, hi, rfl⟩ := mem_revN.1 hx
      have e1 : wI ((i : Int) + (d : Int)) = ((i + d : Nat) : Int) := wI_add _ _ (by omega)
      simp only [e1]
      rw [wI_pred _ (by omega) (by omega), idx_co (by omega), Option.bind_some, Mul_eq, Option.bind_some, idx_co (by omega), Option.bind_some, subL_nat _ _ _ (by omega) (Nat.le_refl _), Option.bind_some, subL_nat _ _ _ (by omega) (by omega), Option.bind_some,
        Sum_eq _ _ _ (by simp; omega), Option.bind_some]
      refine ⟨by simp only [divStep, Int.toNat_natCast], ?_, ?_⟩
      · simp only [divStep]; rw [copyL_len _ _ _ (by omega)]; exact hr
      · simp only [divStep, List.length_set]; exact ht)
  rw [key.1, Option.bind_some]
  have fin := foldl_revN (divStep d (inv lead) (trim q)) (fun j s => s.1.length = p.length ∧ s.2.length = n ∧ j ≤ n ∧ (∀ i, co p i = co s.1 i ^^^ co (pmul s.2 (trim q)) i) ∧ (∀ i, j + d ≤ i + 1 → co s.1 i = 0) ∧ (∀ i, i < j → co s.2 i = 0))
    (by
      rintro j ⟨r, t⟩ ⟨hr, ht, hj, hs, hz, hz2⟩
      simp only at hr ht hs hz hz2
      simp only [divStep, Int.toNat_natCast]
      generalize hc2 : mul (co r (j + d - 1)) (inv lead) = c
      have hl2 : ((r.take (j + d)).drop j).length = d := by simp; omega
      have hl3 : (sumL ((r.take (j + d)).drop j) c (trim q)).length = d := by rw [sumL_len, hl2]
      have hco : ∀ i, co (copyL r (j : Int) (sumL ((r.take (j + d)).drop j) c (trim q))) i = co r i ^^^ (if i < j then 0 else mul c (co (trim q) (i - j))) := by
        intro i
        rw [co_copyL _ _ _ (by rw [hl3]; omega), hl3, co_sumL, hl2]
        by_cases h1 : j ≤ i ∧ i < j + d
        · rw [if_pos h1, if_pos (show i - j < d by omega), if_neg (show ¬ i < j by omega), co_drop, co_take, show j + (i - j) = i by omega, if_pos (show i < j + d by omega)]
        · rw [if_neg h1]
          by_cases h2 : i < j
          · rw [if_pos h2, xor_zero]
          · rw [if_neg h2, co_ge (show (trim q).length ≤ i - j by omega), mul_zero, xor_zero]
      refine ⟨by rw [copyL_len _ _ _ (by omega)]; exact hr, by simpa using ht, by omega, fun i => ?_, fun i hi => ?_, fun i hi => ?_⟩
      · rw [hco i, co_pmul_set t j c _ i (by omega) (hz2 j (by omega)), hs i, xor_xor_swap, xor_self, xor_zero]
      · rw [hco i]
        by_cases h1 : i = j + d - 1
        · subst h1
          rw [if_neg (by omega), show j + d - 1 - j = d - 1 by omega, co_trim, hc, ← hc2, mul_assoc, inv_mul hlead, mul_one, xor_self]
        · rw [hz i (by omega), if_neg (by omega), co_ge (show (trim q).length ≤ i - j by omega), mul_zero, xor_zero]
      · rw [co_set (by omega), if_neg (by omega)]; exact hz2 i (by omega)) n (p, List.replicate n 0)
    ⟨rfl, by simp, Nat.le_refl _, fun i => by
      have : co (pmul (List.replicate n 0) (trim q)) i = 0 := by rw [pmul_simL _ [] _ (fun i => by rw [co_rep, co_nil]) i]; rfl
      rw [this, xor_zero], fun i hi => co_ge (by simp only; omega), fun i _ => co_rep _ _⟩
  generalize (revN n).foldl (divStep d (inv lead) (trim q)) (p, List.replicate n 0) = s at fin
  obtain ⟨r, t⟩ := s
  obtain ⟨hr, ht, _, hs, hz, _⟩ := fin
  simp only at hr ht hs hz
  simp only
  rw [poly_Trim_eq t (by omega), Option.bind_some, poly_Trim_eq r (by omega), Option.bind_some]
  refine ⟨trim t, trim r, rfl, trim_trim t, trim_trim r, ?_, fun i => ?_, ?_⟩
  · have := (trim_bound r (d - 1)).2 (fun i hi => hz i (by omega))
    omega
  · rw [hs i, co_trim]
    congr 1
    exact pmul_sim (trim_sim t).symm (trim_sim q) i
  · have := trim_le t; omega
theorem poly_DivMod_zero (p q : List UInt8) (hq : q.length ≤ most) (h0 : trim q = []) : poly_DivMod true p q = some ([], [], 7) := by
  unfold poly_DivMod
  rw [poly_Trim_eq q hq, Option.bind_some, if_neg (by simp), if_pos (by rw [h0]; rfl)]
theorem poly_DivMod_nil (p q : List UInt8) (hq : q.length ≤ most) : poly_DivMod false p q = some ([], [], 1) := by
  unfold poly_DivMod
  rw [poly_Trim_eq q hq, Option.bind_some, if_pos (by simp)]
end Gk

/- Newton's divided differences give the polynomial through places and values. Plain. No condition. -/

set_option linter.unusedSimpArgs false
set_option linter.unusedVariables false
namespace Gf
theorem inv_one : inv 1 = 1 := (inv_uniq (mul_one 1)).symm
theorem mul_swap4 (a b c d : UInt8) : mul (mul a b) (mul c d) = mul (mul a c) (mul b d) := by rw [mul_assoc, mul_assoc, mul_left_comm b]
theorem inv_mul2 (a b : UInt8) : inv (mul a b) = mul (inv a) (inv b) := by
  by_cases ha : a = 0
  · rw [ha, zero_mul, inv_zero, zero_mul]
  · by_cases hb : b = 0
    · rw [hb, mul_zero, inv_zero, mul_zero]
    · refine (inv_uniq ?_).symm
      rw [mul_assoc, mul_left_comm b, mul_inv hb, mul_one, mul_inv ha]
theorem co_pmul_lin : ∀ (p : List UInt8) (a : UInt8) (i : Nat), co (pmul p [a, 1]) (i + 1) = mul (co p (i + 1)) a ^^^ co p i
  | [], a, i => by simp [pmul, co_nil, zero_mul]
  | c :: p, a, 0 => by
    rw [co_pmul_succ, co_succ, co_zero, co_succ, co_zero, mul_one]
    cases p with
    | nil => simp [pmul, co_nil, zero_mul]
    | cons d p => rw [co_pmul_zero, co_zero, co_zero, xor_comm]
  | c :: p, a, i + 1 => by
    have : co [a, 1] (i + 1 + 1) = 0 := co_ge (by simp)
    rw [co_pmul_succ, co_pmul_lin p a i, this, mul_zero, zero_xor, co_succ, co_succ]
theorem ev_const (c x : UInt8) : evp [c] x = c := by show c ^^^ mul 0 x = c; rw [zero_mul, xor_zero]

/-- Divided differences, from place a on, over m + 1 places. -/
def dd (xs ys : Nat → UInt8) (a : Nat) : Nat → UInt8
  | 0 => ys a
  | m + 1 => mul (dd xs ys (a + 1) m ^^^ dd xs ys a m) (inv (xs (a + m + 1) ^^^ xs a))
/-- The polynomial through the places a .. a + m (Neville's way). -/
def nev (xs ys : Nat → UInt8) (a : Nat) : Nat → List UInt8
  | 0 => [ys a]
  | m + 1 => (pplus (pmul (nev xs ys (a + 1) m) [xs a, 1]) (pmul (nev xs ys a m) [xs (a + m + 1), 1])).map (mul (inv (xs (a + m + 1) ^^^ xs a)))
theorem dg_nev (xs ys : Nat → UInt8) : ∀ (m a : Nat), dg (nev xs ys a m) ≤ m + 1
  | 0, a => dg_len _
  | m + 1, a => by
    refine dg_map _ (dg_pplus ?_ ?_)
    · have := dg_pmul (dg_nev xs ys m (a + 1)) (dg_lin (xs a)); omega
    · have := dg_pmul (dg_nev xs ys m a) (dg_lin (xs (a + m + 1))); omega
theorem co_nev (xs ys : Nat → UInt8) : ∀ (m a : Nat), co (nev xs ys a m) m = dd xs ys a m
  | 0, a => rfl
  | m + 1, a => by
    unfold nev dd
    rw [co_map, co_pplus, co_pmul_lin, co_pmul_lin, co_nev xs ys m (a + 1), co_nev xs ys m a, dg_le.1 (dg_nev xs ys m (a + 1)) (m + 1) (Nat.le_refl _), dg_le.1 (dg_nev xs ys m a) (m + 1) (Nat.le_refl _), zero_mul, zero_mul, zero_xor, zero_xor, mul_comm]
theorem ev_nev (xs ys : Nat → UInt8) : ∀ (m a : Nat), (∀ i j, a ≤ i → i < j → j ≤ a + m → xs i ≠ xs j) → ∀ j, a ≤ j → j ≤ a + m → evp (nev xs ys a m) (xs j) = ys j
  | 0, a, _, j, h1, h2 => by
    obtain rfl : j = a := by omega
    exact ev_const _ _
  | m + 1, a, hd, j, h1, h2 => by
    have hne : xs (a + m + 1) ^^^ xs a ≠ 0 := fun e => hd a (a + m + 1) (Nat.le_refl _) (by omega) (by omega) (xor_eq_zero e).symm
    unfold nev
    rw [ev_map, ev_pplus, ev_pmul, ev_pmul, ev_lin, ev_lin]
    by_cases ha : j = a
    · subst ha
      rw [xor_self, mul_zero, zero_xor, ev_nev xs ys m j (fun i k h3 h4 h5 => hd i k h3 h4 (by omega)) j (Nat.le_refl _) (by omega), mul_comm (ys j), ← mul_assoc, xor_comm (xs j), inv_mul hne, one_mul]
    · by_cases hb : j = a + m + 1
      · subst hb
        rw [xor_self, mul_zero, xor_zero, ev_nev xs ys m (a + 1) (fun i k h3 h4 h5 => hd i k (by omega) h4 (by omega)) (a + m + 1) (by omega) (by omega), mul_comm (ys _), ← mul_assoc, inv_mul hne, one_mul]
      · rw [ev_nev xs ys m (a + 1) (fun i k h3 h4 h5 => hd i k (by omega) h4 (by omega)) j (by omega) (by omega), ev_nev xs ys m a (fun i k h3 h4 h5 => hd i k h3 h4 (by omega)) j h1 (by omega), ← mul_add,
          xor_xor_swap, xor_self, zero_xor, mul_comm (ys j), ← mul_assoc, xor_comm (xs a), inv_mul hne, one_mul]

/-- The product of all x less one of the first m places. -/
def pip (xs : Nat → UInt8) : Nat → List UInt8
  | 0 => [1]
  | m + 1 => pmul (pip xs m) [xs m, 1]
def pi (xs : Nat → UInt8) (x : UInt8) : Nat → UInt8
  | 0 => 1
  | m + 1 => mul (pi xs x m) (x ^^^ xs m)
theorem ev_pip (xs : Nat → UInt8) (x : UInt8) : ∀ m, evp (pip xs m) x = pi xs x m
  | 0 => ev_const 1 x
  | m + 1 => by unfold pip pi; rw [ev_pmul, ev_pip xs x m, ev_lin]
theorem dg_pip (xs : Nat → UInt8) : ∀ m, dg (pip xs m) ≤ m + 1
  | 0 => dg_len _
  | m + 1 => by have := dg_pmul (dg_pip xs m) (dg_lin (xs m)); unfold pip; omega
theorem co_pip (xs : Nat → UInt8) : ∀ m, co (pip xs m) m = 1
  | 0 => rfl
  | m + 1 => by unfold pip; rw [co_pmul_lin, co_pip xs m, dg_le.1 (dg_pip xs m) (m + 1) (Nat.le_refl _), zero_mul, zero_xor]
theorem pi_zero (xs : Nat → UInt8) : ∀ (m j : Nat), j < m → pi xs (xs j) m = 0
  | m + 1, j, h => by
    unfold pi
    by_cases hj : j = m
    · subst hj; rw [xor_self, mul_zero]
    · rw [pi_zero xs m j (by omega), zero_mul]
/-- Newton's sum of the first m. -/
def ns (xs ys : Nat → UInt8) (x : UInt8) : Nat → UInt8 := sm (fun i => mul (dd xs ys 0 i) (pi xs x i))
theorem ns_nev (xs ys : Nat → UInt8) (x : UInt8) : ∀ m, (∀ i j, i < j → j ≤ m → xs i ≠ xs j) → evp (nev xs ys 0 m) x = ns xs ys x (m + 1)
  | 0, _ => by
    show evp [ys 0] x = 0 ^^^ mul (ys 0) 1
    rw [ev_const, mul_one, zero_xor]
  | m + 1, hd => by
    have ih := ns_nev xs ys x m (fun i j h1 h2 => hd i j h1 (by omega))
    have hpl : ((List.range (m + 1)).map xs).length = m + 1 := by simp
    have hnd : ((List.range (m + 1)).map xs).Nodup := by
      refine List.pairwise_iff_getElem.2 fun i j hi hj hij => ?_
      simp only [List.getElem_map, List.getElem_range]
      simp only [List.length_map, List.length_range] at hi hj
      exact hd i j hij (by omega)
    have h0 : Sim (pplus (nev xs ys 0 (m + 1)) ((pip xs (m + 1)).map (mul (dd xs ys 0 (m + 1))))) (nev xs ys 0 m) := by
      refine agree hnd ?_ ?_ ?_
      · rw [hpl]
        refine dg_le.2 fun i hi => ?_
        rw [co_pplus, co_map]
        by_cases h1 : i = m + 1
        · subst h1; rw [co_nev, co_pip, mul_one, xor_self]
        · rw [dg_le.1 (dg_nev xs ys (m + 1) 0) i (by omega), dg_le.1 (dg_pip xs (m + 1)) i (by omega), mul_zero, xor_zero]
      · rw [hpl]; exact dg_nev xs ys m 0
      · intro a ha
        obtain ⟨j, hj, rfl⟩ := List.mem_map.1 ha
        have hj' : j < m + 1 := by simpa using hj
        rw [ev_pplus, ev_map, ev_pip, pi_zero xs (m + 1) j hj', mul_zero, xor_zero, ev_nev xs ys (m + 1) 0 (fun i k _ h2 h3 => hd i k h2 (by omega)) j (Nat.zero_le _) (by omega),
          ev_nev xs ys m 0 (fun i k _ h2 h3 => hd i k h2 (by omega)) j (Nat.zero_le _) (by omega)]
    have h1 := ev_sim _ _ x h0
    rw [ev_pplus, ev_map, ev_pip, ih] at h1
    show evp (nev xs ys 0 (m + 1)) x = ns xs ys x (m + 1) ^^^ mul (dd xs ys 0 (m + 1)) (pi xs x (m + 1))
    rw [← h1, xor_assoc, xor_self, xor_zero]
/-- Newton's sum has the values at the places. -/
theorem ns_at (xs ys : Nat → UInt8) (n : Nat) (hd : ∀ i j, i < j → j < n → xs i ≠ xs j) (j : Nat) (hj : j < n) : ns xs ys (xs j) n = ys j := by
  obtain ⟨m, rfl⟩ : ∃ m, n = m + 1 := ⟨n - 1, by omega⟩
  rw [← ns_nev xs ys (xs j) m (fun i k h1 h2 => hd i k h1 (by omega))]
  exact ev_nev xs ys m 0 (fun i k _ h2 h3 => hd i k h2 (by omega)) j (Nat.zero_le _) (by omega)
/-- From the last one down. -/
def hn (xs c : Nat → UInt8) (x : UInt8) (n : Nat) : Nat → UInt8
  | 0 => 0
  | k + 1 => c (n - (k + 1)) ^^^ mul (hn xs c x n k) (x ^^^ xs (n - (k + 1)))
theorem hn_ns (xs c : Nat → UInt8) (x : UInt8) (n : Nat) : ∀ k, k ≤ n → sm (fun i => mul (c i) (pi xs x i)) (n - k) ^^^ mul (hn xs c x n k) (pi xs x (n - k)) = sm (fun i => mul (c i) (pi xs x i)) n
  | 0, _ => by
    show sm (fun i => mul (c i) (pi xs x i)) n ^^^ mul 0 _ = _
    rw [zero_mul, xor_zero]
  | k + 1, h => by
    have ih := hn_ns xs c x n k (by omega)
    rw [show n - k = (n - (k + 1)) + 1 by omega] at ih
    rw [← ih]
    show sm _ (n - (k + 1)) ^^^ mul (c (n - (k + 1)) ^^^ mul (hn xs c x n k) (x ^^^ xs (n - (k + 1)))) (pi xs x (n - (k + 1))) = (sm _ (n - (k + 1)) ^^^ mul (c (n - (k + 1))) (pi xs x (n - (k + 1)))) ^^^ mul (hn xs c x n k) (mul (pi xs x (n - (k + 1))) (x ^^^ xs (n - (k + 1))))
    rw [add_mul, xor_assoc, mul_assoc, mul_comm (x ^^^ _)]
end Gf

/- Chapter 3: the polynomial through places and values. No condition but lengths. -/


set_option linter.unusedSimpArgs false
set_option linter.unusedVariables false
namespace Gk
open Gf

/-- What lies at place i behind k rounds of differences. -/
def stg (xs ys : List UInt8) (k i : Nat) : UInt8 := dd (co xs) (co ys) (i - min k i) (min k i)
theorem stg_step (xs ys : List UInt8) (k j : Nat) (h1 : 1 ≤ k) (h2 : k ≤ j) : stg xs ys k j = mul (stg xs ys (k - 1) j ^^^ stg xs ys (k - 1) (j - 1)) (inv (co xs j ^^^ co xs (j - k))) := by
  obtain ⟨m, rfl⟩ : ∃ m, k = m + 1 := ⟨k - 1, by omega⟩
  unfold stg
  have e1 : min (m + 1) j = m + 1 := by omega
  have e2 : min m j = m := by omega
  have e3 : min m (j - 1) = m := by omega
  rw [Nat.add_sub_cancel, e1, e2, e3]
  have e4 : j - m = j - (m + 1) + 1 := by omega
  have e5 : j - 1 - m = j - (m + 1) := by omega
  rw [e4, e5]
  show mul (dd _ _ (j - (m + 1) + 1) m ^^^ dd _ _ (j - (m + 1)) m) (inv (co xs (j - (m + 1) + m + 1) ^^^ co xs (j - (m + 1)))) = _
  rw [show j - (m + 1) + m + 1 = j by omega]
def thStep (xs : List UInt8) (s : List UInt8) (y : Int × UInt8) : List UInt8 := trim (pplus (trim (pmul s [co xs y.1.toNat, 1])) [y.2])
theorem ev_thStep (xs s : List UInt8) (y : Int × UInt8) (x : UInt8) : evp (thStep xs s y) x = y.2 ^^^ mul (evp s x) (x ^^^ co xs y.1.toNat) := by
  unfold thStep
  rw [ev_trim, ev_pplus, ev_trim, ev_pmul, ev_lin, ev_const, xor_comm]
theorem ev_thFold (xs d : List UInt8) (x : UInt8) : ∀ k, k ≤ d.length → evp (((revI d).take k).foldl (thStep xs) []) x = Gf.hn (co xs) (co d) x d.length k
  | 0, _ => rfl
  | k + 1, h => by
    have hg := revI_get d (d.length - 1 - k) (by omega)
    rw [show d.length - 1 - (d.length - 1 - k) = k by omega] at hg
    rw [List.take_add_one, hg, List.foldl_append]
    show evp (thStep xs _ _) x = _
    rw [ev_thStep, ev_thFold xs d x k (by omega)]
    simp only [Int.toNat_natCast]
    rw [← co_lt (show d.length - 1 - k < d.length by omega), show d.length - 1 - k = d.length - (k + 1) by omega]
    rfl
theorem poly_Through_ok (xs ys : List UInt8) (hl : xs.length = ys.length) (h0 : xs.length ≠ 0) (h1 : xs.length ≤ 255) (hn : xs.Nodup) :
    ∃ N, poly_Through true xs ys = some (N, 0) ∧ trim N = N ∧ dg N ≤ xs.length ∧ ∀ j, j < xs.length → evp N (co xs j) = co ys j := by
  unfold poly_Through
  have hm := most_lt'
  have hh := h257
  rw [if_pos (by omega), poly_check_eq xs (by omega), if_neg h0, if_neg (by omega), if_pos hn, Option.bind_some, if_pos rfl]
  unfold slices_Clone_sbytebyte
  rw [appL_nil ys (by omega), Option.bind_some]
  obtain ⟨d, e1, e2, e3⟩ := iterC_from (s0 := ys) (fun k d => d.length = xs.length ∧ ∀ i, i < xs.length → co d i = stg xs ys (k - 1) i) 1 xs.length (by omega) (fun d : List UInt8 => d.length = xs.length ∧ ∀ i, i < xs.length → co d i = dd (co xs) (co ys) 0 i)
    (body := fun s17 : List UInt8 × Int => (if s17.2 < (s17.1.length : Int) then ((iterC (fun s20 : List UInt8 × Int => (if s17.2 ≤ s20.2 then ((idx s20.1 s20.2).bind fun c25 => ((idx s20.1 ((wI (s20.2 - 1)))).bind fun c26 => ((idx xs s20.2).bind fun c27 => ((idx xs ((wI (s20.2 - s17.2)))).bind fun c28 =>
      ((field_Add c25 c26).bind fun r29 => ((field_Add c27 c28).bind fun r31 => ((field_Div true r29 r31).bind fun r33 => some (.inl ((s20.1.set (s20.2 : Int).toNat r33.1), (wI (s20.2 - 1))))))))))) else some (.inr s20.1))) (s17.1, (wI ((s17.1.length : Int) - 1)))).bind fun x20 => some (.inl (x20, (wI (s17.2 + 1))))) else some (.inr s17.1)))
    ⟨hl.symm, fun i hi => by simp [stg, dd]⟩
    (fun k d hk hkn hI => by
      obtain ⟨dl, hd⟩ := hI
      obtain ⟨d', f1, f2, f3⟩ := iterC_dn (s0 := d) (fun j s => s.length = xs.length ∧ ∀ i, i < xs.length → co s i = if j ≤ i then stg xs ys k i else stg xs ys (k - 1) i) k xs.length (by omega) (fun s : List UInt8 => s.length = xs.length ∧ ∀ i, i < xs.length → co s i = stg xs ys k i)
        (body := fun s20 : List UInt8 × Int => (if (k : Int) ≤ s20.2 then ((idx s20.1 s20.2).bind fun c25 => ((idx s20.1 ((wI (s20.2 - 1)))).bind fun c26 => ((idx xs s20.2).bind fun c27 => ((idx xs ((wI (s20.2 - (k : Int))))).bind fun c28 =>
          ((field_Add c25 c26).bind fun r29 => ((field_Add c27 c28).bind fun r31 => ((field_Div true r29 r31).bind fun r33 => some (.inl ((s20.1.set (s20.2 : Int).toNat r33.1), (wI (s20.2 - 1))))))))))) else some (.inr s20.1)))
        ⟨dl, fun i hi => by rw [if_neg (by omega)]; exact hd i hi⟩
        (fun j s hkj hj hI => by
          obtain ⟨sl, hs⟩ := hI
          have hne : co xs j ^^^ co xs (j - k) ≠ 0 := fun e => by
            have := co_inj hn hj (by omega) (xor_eq_zero e)
            omega
          refine ⟨s.set j (stg xs ys k j), ?_, by simpa using sl, fun i hi => ?_⟩
          · simp only
            rw [if_pos (by omega), idx_co (by omega), Option.bind_some, wI_pred j (by omega) (by omega), idx_co (by omega), Option.bind_some, idx_co hj, Option.bind_some, wI_sub j k hkj (by omega), idx_co (by omega), Option.bind_some,
              Add_eq, Option.bind_some, Add_eq, Option.bind_some, Div_eq, if_neg hne, Option.bind_some, Int.toNat_natCast, hs j hj, if_neg (by omega), hs (j - 1) (by omega), if_neg (by omega), ← stg_step xs ys k j hk hkj]
            congr 3; omega
          · rw [co_set (by omega)]
            by_cases hij : i = j
            · rw [if_pos hij, if_pos (by omega), hij]
            · rw [if_neg hij, hs i hi]
              have : (j + 1 ≤ i) ↔ (j ≤ i) := by omega
              simp only [this])
        (fun s hI => ⟨s, by simp only; rw [if_neg (by omega)], hI.1, fun i hi => by
          rw [hI.2 i hi]
          by_cases h : k ≤ i
          · rw [if_pos h]
          · rw [if_neg h]
            unfold stg
            rw [show min (k - 1) i = min k i by omega]⟩)
      refine ⟨d', ?_, f2, fun i hi => by rw [f3 i hi, Nat.add_sub_cancel]⟩
      simp only
      rw [if_pos (by omega), dl, wI_of (by omega) (by omega), f1, Option.bind_some, wI_succ k (by omega)])
    (fun d hI => ⟨d, by simp only; rw [if_neg (by omega)], hI.1, fun i hi => by
      rw [hI.2 i hi]
      unfold stg
      rw [show min (xs.length - 1) i = i by omega, Nat.sub_self]⟩)
  rw [show ((1 : Nat) : Int) = 1 from rfl] at e1
  rw [e1, Option.bind_some, lim_of (by omega), Option.bind_some]
  have key := rangeL_inv (f := fun (s55 : List UInt8) (y55 : (Int × UInt8)) => ((idx xs y55.1).bind fun c61 => ((poly_Mul true s55 ([c61, (1 : UInt8)] : List UInt8)).bind fun r65 => ((poly_Add r65.1 ([y55.2] : List UInt8)).bind fun r81 => some r81)))) (thStep xs) (xs := revI d) (s0 := [])
    (fun k s => s.length ≤ k ∧ trim s = s) ⟨Nat.le_refl _, rfl⟩ (by
      rintro k s ⟨y, c⟩ hk hy ⟨hs, ht⟩
      obtain ⟨i, hi, e⟩ := mem_revI hy
      simp only [Prod.mk.injEq] at e
      obtain ⟨rfl, rfl⟩ := e
      rw [revI_len] at hk
      have ds : dg s ≤ k := Nat.le_trans (dg_len s) hs
      have d1 := dg_pmul ds (dg_lin (co xs i))
      have l1 : (trim (pmul s [co xs i, 1])).length ≤ k + 1 := by unfold dg at d1; omega
      simp only
      rw [idx_co (by omega), Option.bind_some, poly_Mul_eq _ _ (by omega) (by simp; omega) (.inr (.inr (by
        have := dg_lin (co xs i)
        unfold dg at this ds
        omega))), Option.bind_some, poly_Add_eq _ _ (by simp only; omega) (by simp; omega), Option.bind_some]
      refine ⟨by simp only [thStep, Int.toNat_natCast], ?_, trim_trim _⟩
      have h3 := trim_le (pplus (trim (pmul s [co xs i, 1])) [d[i]])
      rw [pplus_len] at h3
      simp only [thStep, Int.toNat_natCast]
      simp only [List.length_cons, List.length_nil] at h3
      omega)
  rw [key.1, Option.bind_some]
  refine ⟨_, rfl, key.2.2, ?_, fun j hj => ?_⟩
  · have := key.2.1
    rw [revI_len, e2] at this
    exact Nat.le_trans (dg_len _) this
  · have h2 := ev_thFold xs d (co xs j) d.length (Nat.le_refl _)
    rw [List.take_of_length_le (by rw [revI_len]; omega)] at h2
    rw [h2]
    have h3 := hn_ns (co xs) (co d) (co xs j) d.length d.length (Nat.le_refl _)
    rw [Nat.sub_self] at h3
    have h4 : mul (Gf.hn (co xs) (co d) (co xs j) d.length d.length) (pi (co xs) (co xs j) 0) = Gf.hn (co xs) (co d) (co xs j) d.length d.length := mul_one _
    rw [h4] at h3
    have h5 : sm (fun i => mul (co d i) (pi (co xs) (co xs j) i)) 0 = 0 := rfl
    rw [h5, zero_xor] at h3
    rw [h3, e2]
    have h6 := ns_at (co xs) (co ys) xs.length (fun a b h h' e => absurd (co_inj hn (by omega) h' e) (by omega)) j hj
    rw [← h6]
    exact sm_congr _ fun i hi => by rw [e3 i hi]
theorem poly_Through_bad (xs ys : List UInt8) (e : Int) (hl : xs.length = ys.length) (h : poly_check true xs = some e) (he : e ≠ 0) : poly_Through true xs ys = some ([], e) := by
  unfold poly_Through
  rw [if_pos (by omega), h, Option.bind_some, if_neg he]
theorem poly_Through_lens (f : Bool) (xs ys : List UInt8) (hl : xs.length ≠ ys.length) : poly_Through f xs ys = some ([], 1) := by
  unfold poly_Through
  rw [if_neg (by omega)]
theorem poly_Through_nil (xs ys : List UInt8) (h : xs.length ≤ most) (hl : xs.length = ys.length) : poly_Through false xs ys = some ([], 1) := by
  unfold poly_Through
  rw [if_pos (by omega), poly_check_nil xs h, Option.bind_some, if_neg (by decide)]

/-! ### The document's answers -/
theorem not_nodup {xs : List UInt8} (h : ¬ xs.Nodup) : ∃ i, i < xs.length ∧ co xs i ∈ xs.take i := by
  refine Classical.byContradiction fun hc => h (List.pairwise_iff_getElem.2 fun i j hi hj hij e => hc ⟨j, hj, ?_⟩)
  rw [co_lt hj, ← e]
  exact List.mem_iff_getElem.2 ⟨i, by simp; omega, by simp⟩
theorem nodup_not {xs : List UInt8} (h : xs.Nodup) (i : Nat) (hi : i < xs.length) : co xs i ∉ xs.take i := fun hm => by
  obtain ⟨j, hj, e⟩ := List.mem_iff_getElem.1 hm
  have hj' : j < i := by simp at hj; omega
  rw [List.getElem_take, ← co_lt (by omega)] at e
  have := co_inj h (by omega) hi e
  omega
theorem ref03_Places_eq (xs : List UInt8) (h : xs.length ≤ most) : ref03_Places xs = some (if xs.length = 0 then 5 else if 255 < xs.length then 4 else if xs.Nodup then 0 else 6) := by
  unfold ref03_Places
  have hm := most_lt'
  by_cases h0 : xs.length = 0
  · rw [if_pos (by omega), if_pos h0]
  rw [if_neg (by omega), if_neg h0]
  by_cases h1 : 255 < xs.length
  · rw [if_pos (by omega), if_pos h1]
  rw [if_neg (by omega), if_neg h1]
  have inner : ∀ i, i < xs.length → iterC (fun s6 : Int => (if s6 < (i : Int) then ((idx xs (i : Int)).bind fun c11 => ((idx xs s6).bind fun c12 => (if c11 = c12 then some (.inr (Sum.inr (α := Unit) (6 : Int))) else some (.inl (wI (s6 + 1)))))) else some (.inr (.inl ())))) 0 = some (if co xs i ∈ xs.take i then Sum.inr 6 else Sum.inl ()) := by
    intro i hi
    obtain ⟨x, e1, e2, e3⟩ := iterC_find (X := Unit ⊕ Int) (body := fun s6 : Int => (if s6 < (i : Int) then ((idx xs (i : Int)).bind fun c11 => ((idx xs s6).bind fun c12 => (if c11 = c12 then some (.inr (Sum.inr (α := Unit) (6 : Int))) else some (.inl (wI (s6 + 1)))))) else some (.inr (.inl ())))) i (fun j => co xs i = co xs j) (.inr 6) (.inl ())
      (fun j hj hb => by rw [if_pos (by omega), idx_co hi, Option.bind_some, idx_co (by omega), Option.bind_some, if_neg hb, wI_succ j (by omega)])
      (fun j hj hb => by rw [if_pos (by omega), idx_co hi, Option.bind_some, idx_co (by omega), Option.bind_some, if_pos hb])
      (by rw [if_neg (by omega)])
    rw [e1]
    by_cases hm : co xs i ∈ xs.take i
    · rw [if_pos hm, e2]
      obtain ⟨j, hj, e⟩ := List.mem_iff_getElem.1 hm
      have hj' : j < i := by simp at hj; omega
      rw [List.getElem_take, ← co_lt (by omega)] at e
      exact ⟨j, hj', e.symm⟩
    · rw [if_neg hm, e3]
      intro j hj e
      refine hm ?_
      rw [e, co_lt (by omega)]
      exact List.mem_iff_getElem.2 ⟨j, by simp; omega, by simp⟩
  obtain ⟨x, e1, e2, e3⟩ := iterC_find (X := Unit ⊕ Int) (body := fun s3 : Int => (if s3 < (xs.length : Int) then ((iterC (fun s6 : Int => (if s6 < s3 then ((idx xs s3).bind fun c11 => ((idx xs s6).bind fun c12 => (if c11 = c12 then some (.inr (Sum.inr (α := Unit) (6 : Int))) else some (.inl (wI (s6 + 1)))))) else some (.inr (.inl ())))) 0).bind
      (Sum.elim (fun y6 => some (.inl (wI (s3 + 1)))) (fun q6 => some (.inr (.inr q6))))) else some (.inr (.inl ())))) xs.length (fun i => co xs i ∈ xs.take i) (.inr 6) (.inl ())
    (fun i hi hb => by rw [if_pos (by omega), inner i hi, if_neg hb, Option.bind_some, Sum.elim_inl, wI_succ i (by omega)])
    (fun i hi hb => by rw [if_pos (by omega), inner i hi, if_pos hb, Option.bind_some, Sum.elim_inr])
    (by rw [if_neg (by omega)])
  rw [e1, Option.bind_some]
  by_cases hn : xs.Nodup
  · rw [e3 (nodup_not hn), if_pos hn]; rfl
  · rw [e2 (not_nodup hn), if_neg hn]; rfl
/-- Lagrange's term at the i-th place, of the first k places. -/
def ltm (xs ys : List UInt8) (i : Nat) : Nat → List UInt8
  | 0 => [co ys i]
  | k + 1 => if k = i then ltm xs ys i k else trim (pmul (ltm xs ys i k) [mul (inv (co xs i ^^^ co xs k)) (co xs k), inv (co xs i ^^^ co xs k)])
theorem ev_ltm (xs ys : List UInt8) (i : Nat) (x : UInt8) : ∀ k, evp (ltm xs ys i k) x = mul (co ys i) (mul (pe xs i x k) (inv (pe xs i (co xs i) k)))
  | 0 => by
    show evp [co ys i] x = mul (co ys i) (mul 1 (inv 1))
    rw [ev_const, one_mul, inv_one, mul_one]
  | k + 1 => by
    unfold ltm pe
    by_cases hk : k = i
    · rw [if_pos hk, if_pos hk, if_pos hk]; exact ev_ltm xs ys i x k
    · rw [if_neg hk, if_neg hk, if_neg hk, ev_trim, ev_pmul, ev_ltm xs ys i x k, inv_mul2]
      have : evp [mul (inv (co xs i ^^^ co xs k)) (co xs k), inv (co xs i ^^^ co xs k)] x = mul (x ^^^ co xs k) (inv (co xs i ^^^ co xs k)) := by
        show mul (inv (co xs i ^^^ co xs k)) (co xs k) ^^^ mul (inv (co xs i ^^^ co xs k) ^^^ mul 0 x) x = _
        rw [zero_mul, xor_zero, ← mul_add, mul_comm, xor_comm (co xs k)]
      rw [this, mul_assoc, mul_swap4]
theorem ltm_len (xs ys : List UInt8) (i : Nat) : ∀ k, (ltm xs ys i k).length ≤ k + 1 ∧ (i < k → (ltm xs ys i k).length ≤ k)
  | 0 => ⟨by simp [ltm], fun h => by omega⟩
  | k + 1 => by
    obtain ⟨h1, h2⟩ := ltm_len xs ys i k
    unfold ltm
    split
    · exact ⟨by omega, fun _ => h1⟩
    · rename_i hk
      have d2 : dg [mul (inv (co xs i ^^^ co xs k)) (co xs k), inv (co xs i ^^^ co xs k)] ≤ 2 := dg_len _
      refine ⟨?_, fun hi => ?_⟩
      · have := dg_pmul (Nat.le_trans (dg_len _) h1) d2
        unfold dg at this; omega
      · have := dg_pmul (Nat.le_trans (dg_len _) (h2 (by omega))) d2
        unfold dg at this; omega
theorem ref03_Through_eq (xs ys : List UInt8) (hl : xs.length = ys.length) (h : xs.length ≤ 1000) : ∃ out, ref03_Through xs ys = some (trim out) ∧ dg out ≤ xs.length ∧ ∀ x, evp out x = sm (fun i => mul (co ys i) (wt xs i x)) xs.length := by
  unfold ref03_Through
  have hm := most_lt'
  have h1000 : 2000 ≤ most := by decide
  rw [makeL_nat _ _ (by omega), Option.bind_some]
  obtain ⟨out, e1, e2, e3⟩ := iterC_up (s0 := List.replicate xs.length (0 : UInt8)) (fun i s => s.length = xs.length ∧ ∀ x, evp s x = sm (fun i => mul (co ys i) (wt xs i x)) i) xs.length (fun s : List UInt8 => s.length = xs.length ∧ ∀ x, evp s x = sm (fun i => mul (co ys i) (wt xs i x)) xs.length)
    (body := fun s4 : List UInt8 × Int => (if s4.2 < (xs.length : Int) then ((idx ys s4.2).bind fun c7 => ((iterC (fun s10 : List UInt8 × Int => (if s10.2 < (xs.length : Int) then (if s10.2 = s4.2 then some (.inl (s10.1, (wI (s10.2 + 1)))) else ((idx xs s4.2).bind fun c16 => ((idx xs s10.2).bind fun c17 =>
      ((ref02_Inv (c16 ^^^ c17)).bind fun r18 => ((idx xs s10.2).bind fun c20 => ((ref02_Mul r18 c20).bind fun r21 => ((ref03_Mul s10.1 ([r21, r18] : List UInt8)).bind fun r25 => some (.inl (r25, (wI (s10.2 + 1))))))))))) else some (.inr s10.1))) (([c7] : List UInt8), 0)).bind fun x10 =>
      ((iterC (fun s29 : List UInt8 × Int => (if s29.2 < (x10.length : Int) then ((idx s29.1 s29.2).bind fun c34 => ((idx x10 s29.2).bind fun c35 => some (.inl ((s29.1.set (s29.2 : Int).toNat ((c34 ^^^ c35))), (wI (s29.2 + 1)))))) else some (.inr s29.1))) (s4.1, 0)).bind fun x29 => some (.inl (x29, (wI (s4.2 + 1))))))) else some (.inr s4.1)))
    ⟨by simp, fun x => ev_zero _ x (fun i => co_rep _ _)⟩
    (fun i s hi hI => by
      obtain ⟨sl, hs⟩ := hI
      have inner : iterC (fun s10 : List UInt8 × Int => (if s10.2 < (xs.length : Int) then (if s10.2 = (i : Int) then some (.inl (s10.1, (wI (s10.2 + 1)))) else ((idx xs (i : Int)).bind fun c16 => ((idx xs s10.2).bind fun c17 =>
          ((ref02_Inv (c16 ^^^ c17)).bind fun r18 => ((idx xs s10.2).bind fun c20 => ((ref02_Mul r18 c20).bind fun r21 => ((ref03_Mul s10.1 ([r21, r18] : List UInt8)).bind fun r25 => some (.inl (r25, (wI (s10.2 + 1))))))))))) else some (.inr s10.1))) (([co ys i] : List UInt8), 0) = some (ltm xs ys i xs.length) := by
        refine iterC_count (fun k => (ltm xs ys i k, (k : Int))) xs.length _ rfl ?_ ?_
        · intro k hk
          simp only
          rw [if_pos (by omega)]
          by_cases hki : k = i
          · subst hki; rw [if_pos rfl, wI_succ k (by omega)]; simp [ltm]
          · have l1 := (ltm_len xs ys i k).1
            rw [if_neg (by omega), idx_co hi, Option.bind_some, idx_co hk, Option.bind_some, refInv_eq, Option.bind_some, Option.bind_some, refMul_eq, Option.bind_some, ref03_Mul_eq _ _ (by simp; omega), Option.bind_some, wI_succ k (by omega)]
            simp only [ltm, if_neg hki]
        · simp
      have tl := (ltm_len xs ys i xs.length).2 hi
      obtain ⟨s', f1, f2, f3⟩ := iterC_up (s0 := s) (fun k t => t.length = xs.length ∧ ∀ j, co t j = co s j ^^^ (if j < k then co (ltm xs ys i xs.length) j else 0)) (ltm xs ys i xs.length).length (fun t : List UInt8 => t.length = xs.length ∧ ∀ j, co t j = co s j ^^^ co (ltm xs ys i xs.length) j)
        (body := fun s29 : List UInt8 × Int => (if s29.2 < ((ltm xs ys i xs.length).length : Int) then ((idx s29.1 s29.2).bind fun c34 => ((idx (ltm xs ys i xs.length) s29.2).bind fun c35 => some (.inl ((s29.1.set (s29.2 : Int).toNat ((c34 ^^^ c35))), (wI (s29.2 + 1)))))) else some (.inr s29.1)))
        ⟨sl, fun j => by rw [if_neg (by omega), xor_zero]⟩
        (fun k t hk hI => by
          obtain ⟨tl', ht⟩ := hI
          refine ⟨t.set k (co t k ^^^ co (ltm xs ys i xs.length) k), ?_, by simpa using tl', fun j => ?_⟩
          · simp only
            rw [if_pos (by omega), idx_co (by omega), Option.bind_some, idx_co hk, Option.bind_some, wI_succ k (by omega), Int.toNat_natCast]
          · rw [co_set (by omega)]
            by_cases hjk : j = k
            · subst hjk; rw [if_pos rfl, ht j, if_neg (by omega), if_pos (by omega), xor_zero]
            · rw [if_neg hjk, ht j]
              have : j < k + 1 ↔ j < k := by omega
              simp only [this])
        (fun t hI => ⟨t, by simp, hI.1, fun j => by
          rw [hI.2 j]
          split
          · rfl
          · rw [co_ge (show (ltm xs ys i xs.length).length ≤ j by omega)]⟩)
      refine ⟨s', ?_, f2, fun x => ?_⟩
      · simp only
        rw [if_pos (by omega), idx_co (by omega), Option.bind_some, inner, Option.bind_some, f1, Option.bind_some, wI_succ i (by omega)]
      · rw [ev_sim s' (pplus s (ltm xs ys i xs.length)) x (fun j => by rw [f3, co_pplus]), ev_pplus, hs x, ev_ltm]
        rfl)
    (fun s hI => ⟨s, by simp, hI⟩)
  rw [e1, Option.bind_some, ref03_Trim_eq out (by omega)]
  exact ⟨out, rfl, by rw [← e2]; exact dg_len out, e3⟩
end Gk

/- Chapter 8 in plain Lean: shares, and what shares tell. No condition but lengths. -/




set_option linter.unusedSimpArgs false
set_option linter.unusedVariables false
namespace Gk
open Gf

/-! ### Shares -/
def rowsp (m : List UInt8) (n q i : Nat) : List UInt8 := (List.range q).map fun k => co m (k * n + i)
theorem rowsp_len (m : List UInt8) (n q i : Nat) : (rowsp m n q i).length = q := by simp [rowsp]
theorem co_rowsp (m : List UInt8) (n q i k : Nat) (h : k < q) : co (rowsp m n q i) k = co m (k * n + i) := by
  simp [co, rowsp, List.getD_eq_getElem?_getD, h]
/-- The polynomial of a byte: the secret's, and those of the mask's rows. -/
def colp (s m : List UInt8) (q i : Nat) : List UInt8 := co s i :: rowsp m s.length q i
theorem colp_len (s m : List UInt8) (q i : Nat) : (colp s m q i).length = q + 1 := by simp [colp, rowsp_len]
/-- The share at x. -/
def shr (s m : List UInt8) (q : Nat) (x : UInt8) : List UInt8 := (List.range s.length).map fun i => evp (colp s m q i) x
theorem shr_len (s m : List UInt8) (q : Nat) (x : UInt8) : (shr s m q x).length = s.length := by simp [shr]
theorem co_shr (s m : List UInt8) (q : Nat) (x : UInt8) (i : Nat) (h : i < s.length) : co (shr s m q x) i = evp (colp s m q i) x := by
  unfold shr; rw [co_tab, if_pos h]
/-! ### What is refused -/
theorem Contains_eq (xs : List UInt8) (v : UInt8) (h : xs.length ≤ most) : slices_Contains_sbytebyte xs v = some (decide (v ∈ xs)) := by
  unfold slices_Contains_sbytebyte slices_Index_sbytebyte
  have hm := most_lt'
  obtain ⟨x, e1, e2⟩ := iterC_inv (body := fun s1 : Int => (if s1 < (xs.length : Int) then ((idx xs s1).bind fun c4 => (if v = c4 then some (.inr (Sum.inr (α := Unit) s1)) else some (.inl (wI (s1 + 1))))) else some (.inr (.inl ()))))
    (fun s => ∃ i : Nat, i ≤ xs.length ∧ s = (i : Int) ∧ ∀ j, j < i → co xs j ≠ v) (fun s => xs.length - s.toNat) (fun r => (r = .inl () ∧ v ∉ xs) ∨ ∃ i : Nat, r = .inr (i : Int) ∧ v ∈ xs)
    (by
      rintro _ ⟨i, hi, rfl, hb⟩
      by_cases hlt : i < xs.length
      · rw [if_pos (by omega), idx_co hlt, Option.bind_some]
        by_cases he : v = co xs i
        · rw [if_pos he]; exact .inr ⟨_, rfl, .inr ⟨i, rfl, he ▸ co_mem hlt⟩⟩
        · rw [if_neg he, wI_succ i (by omega)]
          refine .inl ⟨_, rfl, ⟨i + 1, hlt, rfl, fun j hj => ?_⟩, by simp only [Int.toNat_natCast]; omega⟩
          by_cases hji : j = i
          · subst hji; exact fun e => he e.symm
          · exact hb j (by omega)
      · obtain rfl : i = xs.length := by omega
        rw [if_neg (by omega)]
        refine .inr ⟨_, rfl, .inl ⟨rfl, fun hv => ?_⟩⟩
        obtain ⟨j, hj, rfl⟩ := mem_co hv
        exact hb j hj rfl) 0 ⟨0, Nat.zero_le _, rfl, fun j hj => absurd hj (Nat.not_lt_zero _)⟩
  rw [e1, Option.bind_some]
  rcases e2 with ⟨rfl, hv⟩ | ⟨i, rfl, hv⟩
  · simp [hv]
  · simp [hv]
/-! ### What shares tell -/
/-- What shares tell of x. -/
def atv (xs : List UInt8) (shares : List (List UInt8)) (d : Nat) (x : UInt8) : List UInt8 := (List.range d).map fun i => sm (fun k => mul (wt xs k x) (co (shares.getD k []) i)) xs.length
end Gk

/- Wrong values among right ones: what is true of a remainder in Gao's way. Plain. No condition. -/

set_option linter.unusedSimpArgs false
set_option linter.unusedVariables false
namespace Gf
theorem dg_nil : dg [] = 0 := rfl
theorem dg_zero {p : List UInt8} (h : dg p = 0) (i : Nat) : co p i = 0 := dg_le.1 (Nat.le_of_eq h) i (Nat.zero_le i)
theorem dg_top {p : List UInt8} (h : dg p ≠ 0) : co p (dg p - 1) ≠ 0 := trim_last p (fun e => h (by unfold dg; rw [e]; rfl))
theorem dg_pmul_eq {p q : List UInt8} (hp : dg p ≠ 0) (hq : dg q ≠ 0) : dg (pmul p q) = dg p + dg q - 1 := by
  rw [dg_sim (pmul_sim (trim_sim p).symm (trim_sim q).symm)]
  exact pmul_trim_len (trim_trim p) (trim_trim q) (fun e => hp (by unfold dg; rw [e]; rfl)) (fun e => hq (by unfold dg; rw [e]; rfl))
theorem pmul_cancel {p q : List UInt8} (hq : dg q ≠ 0) (h : ∀ i, co (pmul p q) i = 0) : ∀ i, co p i = 0 := by
  by_cases hp : dg p = 0
  · exact dg_zero hp
  · have h1 := dg_pmul_eq hp hq
    have h2 : dg (pmul p q) ≤ 0 := dg_le.2 fun i _ => h i
    omega
theorem pmul_zeroL {p q : List UInt8} (h : ∀ i, co p i = 0) (i : Nat) : co (pmul p q) i = 0 := by
  rw [pmul_simL p [] q (fun i => by rw [h i, co_nil]) i]; rfl

/-! ### How many are wrong -/
/-- At how many of the first n places there is another value. -/
def wr (xs ys p : List UInt8) : Nat → Nat
  | 0 => 0
  | n + 1 => wr xs ys p n + if evp p (co xs n) = co ys n then 0 else 1
theorem wr_le (xs ys p : List UInt8) : ∀ n, wr xs ys p n ≤ n
  | 0 => Nat.le_refl _
  | n + 1 => by have := wr_le xs ys p n; unfold wr; split <;> omega
theorem wr_sim {xs ys p q : List UInt8} (h : Sim p q) : ∀ n, wr xs ys p n = wr xs ys q n
  | 0 => rfl
  | n + 1 => by unfold wr; rw [wr_sim h n, ev_sim p q _ h]
/-- The product of all x less one of the wrong places. -/
def el (xs ys p : List UInt8) : Nat → List UInt8
  | 0 => [1]
  | n + 1 => if evp p (co xs n) = co ys n then el xs ys p n else pmul (el xs ys p n) [co xs n, 1]
theorem dg_el (xs ys p : List UInt8) : ∀ n, dg (el xs ys p n) ≤ wr xs ys p n + 1
  | 0 => dg_len _
  | n + 1 => by
    have h := dg_el xs ys p n
    unfold el wr
    split
    · omega
    · have := dg_pmul h (dg_lin (co xs n)); omega
theorem el_top (xs ys p : List UInt8) : ∀ n, co (el xs ys p n) (wr xs ys p n) = 1
  | 0 => rfl
  | n + 1 => by
    have h := el_top xs ys p n
    unfold el wr
    split
    · exact h
    · rw [co_pmul_lin, h, dg_le.1 (dg_el xs ys p n) _ (Nat.le_refl _), zero_mul, zero_xor]
theorem el_ne (xs ys p : List UInt8) (n : Nat) : dg (el xs ys p n) ≠ 0 := fun h => by
  have h1 := dg_zero h (wr xs ys p n)
  rw [el_top] at h1
  exact absurd h1 (by decide)
theorem dg_el_eq (xs ys p : List UInt8) (n : Nat) : dg (el xs ys p n) = wr xs ys p n + 1 := by
  refine Nat.le_antisymm (dg_el xs ys p n) (Nat.le_of_not_lt fun h => ?_)
  have h1 := dg_le.1 (Nat.le_of_lt_succ h) (wr xs ys p n) (Nat.le_refl _)
  rw [el_top] at h1
  exact absurd h1 (by decide)
theorem ev_el (xs ys p : List UInt8) (x : UInt8) : ∀ n, evp (el xs ys p n) x = 0 ↔ ∃ j, j < n ∧ evp p (co xs j) ≠ co ys j ∧ x = co xs j
  | 0 => ⟨fun h => by rw [show el xs ys p 0 = [1] from rfl, ev_const] at h; exact absurd h (by decide), fun ⟨j, h, _⟩ => absurd h (Nat.not_lt_zero _)⟩
  | n + 1 => by
    have ih := ev_el xs ys p x n
    unfold el
    by_cases h : evp p (co xs n) = co ys n
    · rw [if_pos h, ih]
      constructor
      · rintro ⟨j, h1, h2, h3⟩; exact ⟨j, by omega, h2, h3⟩
      · rintro ⟨j, h1, h2, h3⟩
        refine ⟨j, ?_, h2, h3⟩
        by_cases hj : j = n
        · exact absurd (hj ▸ h) h2
        · omega
    · rw [if_neg h, ev_pmul, ev_lin]
      constructor
      · intro h1
        rcases mul_eq_zero h1 with h1 | h1
        · obtain ⟨j, h2, h3, h4⟩ := ih.1 h1; exact ⟨j, by omega, h3, h4⟩
        · exact ⟨n, by omega, h, xor_eq_zero h1⟩
      · rintro ⟨j, h1, h2, h3⟩
        by_cases hj : j = n
        · rw [h3, hj, xor_self, mul_zero]
        · rw [ih.2 ⟨j, by omega, h2, h3⟩, zero_mul]

/-- A remainder that has, at each place, its factor's value times the one that was told, is its factor times the polynomial. -/
theorem gao_key {xs ys b v P : List UInt8} (hn : xs.Nodup) {t : Nat} (hb : ∀ i, i < xs.length → evp b (co xs i) = mul (evp v (co xs i)) (co ys i)) (hP : dg P ≤ t)
    (h1 : dg b + wr xs ys P xs.length ≤ xs.length) (h2 : dg v + t + wr xs ys P xs.length ≤ xs.length + 1) : Sim b (pmul P v) := by
  have hE := dg_el xs ys P xs.length
  have hs : Sim (pmul b (el xs ys P xs.length)) (pmul (pmul P v) (el xs ys P xs.length)) := by
    refine agree hn ?_ ?_ ?_
    · have := dg_pmul (Nat.le_refl (dg b)) hE; omega
    · have h3 := dg_pmul hP (Nat.le_refl (dg v))
      have := dg_pmul h3 hE; omega
    · intro a ha
      obtain ⟨j, hj, rfl⟩ := mem_co ha
      rw [ev_pmul, ev_pmul, ev_pmul]
      by_cases hw : evp P (co xs j) = co ys j
      · rw [hb j hj, hw, mul_comm (co ys j)]
      · rw [(ev_el xs ys P (co xs j) xs.length).2 ⟨j, hj, hw, rfl⟩, mul_zero, mul_zero]
  have h0 := pmul_cancel (p := pplus b (pmul P v)) (el_ne xs ys P xs.length) (fun i => by rw [pmul_addL _ _ _ i, co_pplus, hs i, xor_self])
  intro i
  have := h0 i
  rw [co_pplus] at this
  exact xor_eq_zero this
/-- Quotient and rest of a product. -/
theorem div_uniq {b v q r P : List UInt8} (h : ∀ i, co b i = co r i ^^^ co (pmul q v) i) (hr : dg r < dg v) (hb : Sim b (pmul P v)) : Sim q P ∧ ∀ i, co r i = 0 := by
  have hv : dg v ≠ 0 := by omega
  have h1 : Sim (pmul (pplus q P) v) r := fun i => by
    rw [pmul_addL _ _ _ i, co_pplus, ← hb i, h i, xor_comm, xor_assoc, xor_self, xor_zero]
  by_cases hq : dg (pplus q P) = 0
  · have h2 : Sim q P := fun i => by
      have := dg_zero hq i
      rw [co_pplus] at this
      exact xor_eq_zero this
    refine ⟨h2, fun i => ?_⟩
    rw [← h1 i]
    exact pmul_zeroL (dg_zero hq) i
  · have h2 := dg_pmul_eq hq hv
    rw [dg_sim h1] at h2
    omega
/-- Two polynomials of few numbers that are right nearly everywhere are one. -/
def gl (xs ys p q : List UInt8) : Nat → List UInt8
  | 0 => []
  | n + 1 => if evp p (co xs n) = co ys n ∧ evp q (co xs n) = co ys n then gl xs ys p q n ++ [co xs n] else gl xs ys p q n
theorem take_co {xs : List UInt8} {n : Nat} (h : n < xs.length) : xs.take (n + 1) = xs.take n ++ [co xs n] := by
  rw [List.take_succ_eq_append_getElem h, co_lt h]
theorem gl_sub (xs ys p q : List UInt8) : ∀ n, n ≤ xs.length → (gl xs ys p q n).Sublist (xs.take n)
  | 0, _ => List.nil_sublist _
  | n + 1, h => by
    have ih := gl_sub xs ys p q n (by omega)
    rw [take_co (by omega)]
    unfold gl
    split
    · exact ih.append (List.Sublist.refl _)
    · exact ih.trans (List.sublist_append_left _ _)
theorem gl_len (xs ys p q : List UInt8) : ∀ n, n ≤ (gl xs ys p q n).length + wr xs ys p n + wr xs ys q n
  | 0 => Nat.zero_le _
  | n + 1 => by
    have ih := gl_len xs ys p q n
    unfold gl wr
    by_cases h1 : evp p (co xs n) = co ys n
    · by_cases h2 : evp q (co xs n) = co ys n
      · rw [if_pos ⟨h1, h2⟩, if_pos h1, if_pos h2, List.length_append]; simp only [List.length_cons, List.length_nil]; omega
      · rw [if_neg (fun h => h2 h.2), if_pos h1, if_neg h2]; omega
    · rw [if_neg (fun h => h1 h.1), if_neg h1]
      split <;> omega
theorem gl_mem (xs ys p q : List UInt8) : ∀ n, ∀ a ∈ gl xs ys p q n, evp p a = evp q a
  | 0, a, h => by simp [gl] at h
  | n + 1, a, h => by
    unfold gl at h
    split at h
    · rename_i h1
      rcases List.mem_append.1 h with h | h
      · exact gl_mem xs ys p q n a h
      · rw [List.mem_singleton] at h; subst h; rw [h1.1, h1.2]
    · exact gl_mem xs ys p q n a h
theorem two_one {xs ys p q : List UInt8} (hn : xs.Nodup) {t : Nat} (hp : dg p ≤ t) (hq : dg q ≤ t) (h : wr xs ys p xs.length + wr xs ys q xs.length + t ≤ xs.length) : Sim p q := by
  have hs := gl_sub xs ys p q xs.length (Nat.le_refl _)
  rw [List.take_of_length_le (Nat.le_refl _)] at hs
  have hl := gl_len xs ys p q xs.length
  exact agree (hs.nodup hn) (by omega) (by omega) (gl_mem xs ys p q xs.length)
end Gf

/- Syndromes over GF(256), in plain Lean. No condition. -/



set_option linter.unusedSimpArgs false
set_option linter.unusedVariables false
namespace Gf
theorem pow_succ (a : UInt8) (n : Nat) : pow a (n + 1) = mul (pow a n) a := rfl
theorem powZ_nat (a : UInt8) (n : Nat) : Gk.powZ a (n : Int) = pow a n := by
  unfold Gk.powZ
  by_cases h0 : n = 0
  · subst h0; rfl
  · rw [if_neg (by omega)]
    by_cases ha : a = 0
    · rw [if_pos ha, ha, pow_zero_base n (by omega)]
    · rw [if_neg ha]
      have e : ((n : Int) % 255).toNat = n % 255 := by omega
      rw [e]
      conv => rhs; rw [← pw_lg ha, pow_pw]
      rw [← pw_mod (lg a * (n % 255)), ← pw_mod (lg a * n), Nat.mul_mod_mod]
/-- The weight of a place. -/
def wgt (xs : List UInt8) (i : Nat) : UInt8 := inv (pe xs i (co xs i) xs.length)
theorem co_lag (xs : List UInt8) (f : Nat → UInt8) (j : Nat) : ∀ n, co (lag xs f n) j = sm (fun i => mul (f i) (co (pep xs i xs.length) j)) n
  | 0 => co_nil j
  | n + 1 => by
    unfold lag sm
    rw [co_pplus, co_lag xs f j n, co_map]
theorem pep_top (xs : List UInt8) (i : Nat) : ∀ n, (n ≤ i → co (pep xs i n) n = 1) ∧ (i < n → co (pep xs i n) (n - 1) = 1)
  | 0 => ⟨fun _ => rfl, fun h => by omega⟩
  | n + 1 => by
    obtain ⟨h1, h2⟩ := pep_top xs i n
    obtain ⟨d1, d2⟩ := dg_pep xs i n
    unfold pep
    by_cases hni : n = i
    · rw [if_pos hni]
      exact ⟨fun h => by omega, fun _ => by rw [Nat.add_sub_cancel]; exact h1 (by omega)⟩
    · rw [if_neg hni]
      refine ⟨fun h => ?_, fun h => ?_⟩
      · rw [co_pmul_lin, dg_le.1 d1 _ (Nat.le_refl _), zero_mul, zero_xor]
        exact h1 (by omega)
      · have h3 := d2 (by omega)
        obtain ⟨k, rfl⟩ : ∃ k, n = k + 1 := ⟨n - 1, by omega⟩
        rw [Nat.add_sub_cancel, co_pmul_lin, dg_le.1 h3 _ (Nat.le_refl _), zero_mul, zero_xor]
        have := h2 (by omega)
        rwa [Nat.add_sub_cancel] at this
/-- The sum of weighted values is the highest number. -/
theorem sum_top {xs : List UInt8} (hn : xs.Nodup) (q : List UInt8) (hq : dg q ≤ xs.length) (h0 : 0 < xs.length) : sm (fun i => mul (wgt xs i) (evp q (co xs i))) xs.length = co q (xs.length - 1) := by
  have h1 : Sim q (lag xs (fun i => mul (evp q (co xs i)) (inv (pe xs i (co xs i) xs.length))) xs.length) :=
    agree hn hq (dg_lag _ _ _ (Nat.le_refl _)) (fun a ha => by
      obtain ⟨j, hj, rfl⟩ := mem_co ha
      rw [lag_at hn (fun i => evp q (co xs i)) hj])
  rw [h1 (xs.length - 1), co_lag]
  refine sm_congr _ fun i hi => ?_
  rw [(pep_top xs i xs.length).2 hi, mul_one, mul_comm]; rfl
/-- A polynomial times a power. -/
def shp (k : Nat) (p : List UInt8) : List UInt8 := List.replicate k 0 ++ p
theorem shp_succ (k : Nat) (p : List UInt8) : shp (k + 1) p = 0 :: shp k p := by simp [shp, List.replicate_succ]
theorem ev_shp (p : List UInt8) (x : UInt8) : ∀ k, evp (shp k p) x = mul (evp p x) (pow x k)
  | 0 => by simp [shp, pow, mul_one]
  | k + 1 => by
    rw [shp_succ]
    show 0 ^^^ mul (evp (shp k p) x) x = _
    rw [ev_shp p x k, zero_xor, pow_succ, mul_assoc]
theorem co_shp (p : List UInt8) : ∀ (k j : Nat), co (shp k p) (k + j) = co p j
  | 0, j => by simp [shp]
  | k + 1, j => by
    rw [shp_succ, show k + 1 + j = (k + j) + 1 by omega, co_succ, co_shp p k j]
theorem dg_shp (p : List UInt8) (k : Nat) : dg (shp k p) ≤ k + dg p := by
  refine dg_le.2 fun i hi => ?_
  obtain ⟨j, rfl⟩ : ∃ j, i = k + j := ⟨i - k, by omega⟩
  rw [co_shp]
  exact dg_le.1 (Nat.le_refl _) j (by omega)
/-- The k-th syndrome. -/
def syk (xs ys : List UInt8) (k : Nat) : UInt8 := sm (fun i => mul (mul (wgt xs i) (co ys i)) (pow (co xs i) k)) xs.length
theorem syk_top {xs : List UInt8} (hn : xs.Nodup) (ys p : List UInt8) (k : Nat) (hv : ∀ i, i < xs.length → evp p (co xs i) = co ys i) (hk : k + dg p ≤ xs.length) (h0 : k < xs.length) : syk xs ys k = co p (xs.length - 1 - k) := by
  have h := sum_top hn (shp k p) (Nat.le_trans (dg_shp p k) hk) (by omega)
  have e : xs.length - 1 = k + (xs.length - 1 - k) := by omega
  rw [e, co_shp] at h
  rw [← h]
  unfold syk
  refine sm_congr _ fun i hi => ?_
  rw [ev_shp, hv i hi, mul_assoc]
/-- They are noughts just if the polynomial is of a lesser degree. -/
theorem syk_zero {xs : List UInt8} (hn : xs.Nodup) (ys p : List UInt8) (t : Nat) (hv : ∀ i, i < xs.length → evp p (co xs i) = co ys i) (hp : dg p ≤ xs.length) (ht : t ≤ xs.length) : (∀ k, k < xs.length - t → syk xs ys k = 0) ↔ dg p ≤ t := by
  constructor
  · intro h
    refine Nat.le_of_not_lt fun hlt => ?_
    have h1 := h (xs.length - dg p) (by omega)
    rw [syk_top hn ys p _ hv (by omega) (by omega)] at h1
    have h2 : trim p ≠ [] := fun e => by unfold dg at hlt; rw [e] at hlt; simp at hlt
    have h3 := trim_last p h2
    rw [show xs.length - 1 - (xs.length - dg p) = dg p - 1 by omega] at h1
    exact h3 h1
  · intro h k hk
    rw [syk_top hn ys p k hv (by omega) (by omega)]
    exact dg_le.1 h _ (by omega)
theorem sm_add (f g : Nat → UInt8) : ∀ n, sm (fun i => f i ^^^ g i) n = sm f n ^^^ sm g n
  | 0 => by simp [sm, xor_self]
  | n + 1 => by
    unfold sm
    rw [sm_add f g n, xor_xor_swap]
theorem syk_add (xs ys zs : List UInt8) (k : Nat) : syk xs (pplus ys zs) k = syk xs ys k ^^^ syk xs zs k := by
  unfold syk
  rw [← sm_add]
  refine sm_congr _ fun i _ => ?_
  rw [co_pplus, mul_add, add_mul]
def synd (xs ys : List UInt8) (r : Nat) : List UInt8 := (List.range r).map (syk xs ys)
theorem synd_len (xs ys : List UInt8) (r : Nat) : (synd xs ys r).length = r := by simp [synd]
end Gf

/- Massey's way to the shortest locator: what is true of it at each step. Plain. No condition. -/


namespace Gf
theorem sm_front (f : Nat → UInt8) : ∀ n, sm f (n + 1) = f 0 ^^^ sm (fun i => f (i + 1)) n
  | 0 => by show 0 ^^^ f 0 = f 0 ^^^ 0; rw [zero_xor, xor_zero]
  | n + 1 => by
    show sm f (n + 1) ^^^ f (n + 1) = f 0 ^^^ (sm (fun i => f (i + 1)) n ^^^ f (n + 1))
    rw [sm_front f n, xor_assoc]
theorem sm_zero {f : Nat → UInt8} : ∀ n, (∀ i, i < n → f i = 0) → sm f n = 0
  | 0, _ => rfl
  | n + 1, h => by unfold sm; rw [sm_zero n (fun i hi => h i (by omega)), h n (by omega), xor_self]
theorem sm_mul (c : UInt8) (f : Nat → UInt8) : ∀ n, mul c (sm f n) = sm (fun i => mul c (f i)) n
  | 0 => mul_zero c
  | n + 1 => by unfold sm; rw [mul_add, sm_mul c f n]
theorem sm_ext {f : Nat → UInt8} (a : Nat) : ∀ b, (∀ i, a ≤ i → i < a + b → f i = 0) → sm f (a + b) = sm f a
  | 0, _ => rfl
  | b + 1, h => by
    show sm f (a + b) ^^^ f (a + b) = _
    rw [sm_ext a b (fun i h1 h2 => h i h1 (by omega)), h (a + b) (by omega) (by omega), xor_zero]
/-- A product's number. -/
theorem co_pmul : ∀ (p q : List UInt8) (n : Nat), co (pmul p q) n = sm (fun i => mul (co p i) (co q (n - i))) (n + 1)
  | [], q, n => by
    rw [sm_zero _ (fun i _ => by rw [co_nil, zero_mul])]; exact co_nil n
  | c :: p, q, 0 => by rw [co_pmul_zero]; show _ = 0 ^^^ mul (co (c :: p) 0) (co q (0 - 0)); rw [zero_xor, co_zero]
  | c :: p, q, n + 1 => by
    rw [co_pmul_succ, sm_front, co_zero, Nat.sub_zero, co_pmul p q n]
    congr 1
    refine sm_congr _ fun i _ => ?_
    rw [co_succ, show n + 1 - (i + 1) = n - i by omega]
theorem pmul_addR : ∀ (p q o : List UInt8), Sim (pmul p (pplus q o)) (pplus (pmul p q) (pmul p o))
  | [], q, o => fun i => by rw [co_pplus]; show co [] i = co [] i ^^^ co [] i; rw [co_nil, xor_zero]
  | c :: p, q, o => fun i => by
    have ih := pmul_addR p q o
    rw [co_pplus]
    cases i with
    | zero => rw [co_pmul_zero, co_pmul_zero, co_pmul_zero, co_pplus, mul_add]
    | succ i => rw [co_pmul_succ, co_pmul_succ, co_pmul_succ, co_pplus, mul_add, ih i, co_pplus, xor_xor_swap]
theorem pmul_mapR (a : UInt8) : ∀ (p q : List UInt8), Sim (pmul p (q.map (mul a))) ((pmul p q).map (mul a))
  | [], q => fun i => by rw [co_map]; show co [] i = mul a (co [] i); rw [co_nil, mul_zero]
  | c :: p, q => fun i => by
    rw [co_map]
    cases i with
    | zero => rw [co_pmul_zero, co_pmul_zero, co_map, mul_left_comm]
    | succ i => rw [co_pmul_succ, co_pmul_succ, co_map, pmul_mapR a p q i, co_map, mul_add, mul_left_comm]
theorem pmul_mapL (a : UInt8) : ∀ (p q : List UInt8), Sim (pmul (p.map (mul a)) q) ((pmul p q).map (mul a))
  | [], q => fun i => by rw [co_map]; show co [] i = mul a (co [] i); rw [co_nil, mul_zero]
  | c :: p, q => fun i => by
    rw [co_map]
    show co (pmul (mul a c :: p.map (mul a)) q) i = _
    cases i with
    | zero => rw [co_pmul_zero, co_pmul_zero, mul_assoc]
    | succ i => rw [co_pmul_succ, co_pmul_succ, pmul_mapL a p q i, co_map, mul_add, mul_assoc]
theorem pmul_shR : ∀ (p q : List UInt8), Sim (pmul p (0 :: q)) (0 :: pmul p q)
  | [], q => fun i => by
    cases i with
    | zero => rfl
    | succ i => rw [co_succ]; show co [] (i + 1) = co [] i; rw [co_nil, co_nil]
  | c :: p, q => fun i => by
    have ih := pmul_shR p q
    cases i with
    | zero => rw [co_pmul_zero, co_zero, co_zero, mul_zero]
    | succ i =>
      rw [co_pmul_succ, co_succ, co_succ]
      cases i with
      | zero => rw [co_pmul_zero, ih 0, co_zero, xor_zero]
      | succ i => rw [co_pmul_succ, ih (i + 1), co_succ]
theorem pmul_shL (p q : List UInt8) : Sim (pmul (0 :: p) q) (0 :: pmul p q) := fun i => by
  cases i with
  | zero => rw [co_pmul_zero, co_zero, zero_mul]
  | succ i => rw [co_pmul_succ, co_succ, zero_mul, zero_xor]
theorem cons_sim {c : UInt8} {p q : List UInt8} (h : Sim p q) : Sim (c :: p) (c :: q) := fun i => by
  cases i with
  | zero => rfl
  | succ i => rw [co_succ, co_succ, h i]
theorem map_sim {c : UInt8} {p q : List UInt8} (h : Sim p q) : Sim (p.map (mul c)) (q.map (mul c)) := fun i => by rw [co_map, co_map, h i]
theorem pmul_left_comm : ∀ (p q r : List UInt8), Sim (pmul p (pmul q r)) (pmul q (pmul p r))
  | [], q, r => fun i => by
    rw [show pmul [] r = [] from rfl, pmul_nilR q i]; rfl
  | c :: p, q, r => by
    have ih := pmul_left_comm p q r
    show Sim (pplus ((pmul q r).map (mul c)) (0 :: pmul p (pmul q r))) (pmul q (pplus (r.map (mul c)) (0 :: pmul p r)))
    refine Sim.trans ?_ (pmul_addR q _ _).symm
    exact pplus_sim (pmul_mapR c q r).symm ((cons_sim ih).trans (pmul_shR q (pmul p r)).symm)
/-- The shift of a product. -/
theorem pmul_shp (k : Nat) (p q : List UInt8) : Sim (pmul (shp k p) q) (shp k (pmul p q)) := by
  induction k with
  | zero => intro i; simp [shp]
  | succ k ih => rw [shp_succ, shp_succ]; exact (pmul_shL _ _).trans (cons_sim ih)
theorem co_shp_lt (p : List UInt8) : ∀ (k j : Nat), j < k → co (shp k p) j = 0
  | k + 1, 0, _ => by rw [shp_succ, co_zero]
  | k + 1, j + 1, h => by rw [shp_succ, co_succ]; exact co_shp_lt p k j (by omega)

/-! ### Massey's lemma -/
/-- Who of length L misses the n-th one alone, and who of length w misses none: L and w are more than n. -/
theorem massey {s C D : List UInt8} {n L w : Nat} (hC : dg C ≤ L + 1) (hD : dg D ≤ w + 1) (h0 : co D 0 = 1) (h1 : ∀ k, L ≤ k → k < n → co (pmul C s) k = 0) (h2 : co (pmul C s) n ≠ 0) (h3 : ∀ k, w ≤ k → k ≤ n → co (pmul D s) k = 0) : n + 1 ≤ L + w := by
  refine Nat.le_of_not_lt fun hlt => h2 ?_
  have e1 : co (pmul D (pmul C s)) n = co (pmul C s) n := by
    rw [co_pmul, sm_front, h0, one_mul, Nat.sub_zero, sm_zero _ (fun i hi => ?_), xor_zero]
    by_cases hiw : i + 1 ≤ w
    · rw [h1 (n - (i + 1)) (by omega) (by omega), mul_zero]
    · rw [dg_le.1 hD (i + 1) (by omega), zero_mul]
  have e2 : co (pmul C (pmul D s)) n = 0 := by
    rw [co_pmul]
    refine sm_zero _ fun i hi => ?_
    by_cases hiL : i ≤ L
    · rw [h3 (n - i) (by omega) (by omega), mul_zero]
    · rw [dg_le.1 hC i (by omega), zero_mul]
  rw [← e1, pmul_left_comm D C s n, e2]

/-- What is true ahead of the n-th syndrome. -/
structure BM (s : List UInt8) (n L since : Nat) (now was : List UInt8) (miss : UInt8) : Prop where
  one : co now 0 = 1
  dgn : dg now ≤ L + 1
  len : L ≤ n
  mks : ∀ k, L ≤ k → k < n → co (pmul now s) k = 0
  ms : miss ≠ 0
  sn : 1 ≤ since
  sle : since ≤ n + 1
  old : (L = 0 ∧ since = n + 1 ∧ was = [1]) ∨ (dg (shp since was) ≤ n + 2 - L ∧ (∀ k, n + 1 - L ≤ k → k < n → co (pmul (shp since was) s) k = 0) ∧ co (pmul (shp since was) s) n = miss)
theorem BM.start (s : List UInt8) : BM s 0 0 1 [1] [1] 1 := ⟨rfl, dg_len _, Nat.le_refl _, fun k _ h => absurd h (Nat.not_lt_zero _), by decide, Nat.le_refl _, Nat.le_refl _, .inl ⟨rfl, rfl, rfl⟩⟩
theorem shp_next {s was : List UInt8} {n L since : Nat} {miss : UInt8} (hL : L ≤ n) (h : dg (shp since was) ≤ n + 2 - L ∧ (∀ k, n + 1 - L ≤ k → k < n → co (pmul (shp since was) s) k = 0) ∧ co (pmul (shp since was) s) n = miss) :
    dg (shp (since + 1) was) ≤ n + 1 + 2 - L ∧ (∀ k, n + 1 + 1 - L ≤ k → k < n + 1 → co (pmul (shp (since + 1) was) s) k = 0) ∧ co (pmul (shp (since + 1) was) s) (n + 1) = miss := by
  obtain ⟨h1, h2, h3⟩ := h
  rw [shp_succ]
  refine ⟨dg_le.2 fun i hi => ?_, fun k hk1 hk2 => ?_, ?_⟩
  · obtain ⟨j, rfl⟩ : ∃ j, i = j + 1 := ⟨i - 1, by omega⟩
    rw [co_succ]; exact dg_le.1 h1 j (by omega)
  · obtain ⟨j, rfl⟩ : ∃ j, k = j + 1 := ⟨k - 1, by omega⟩
    rw [pmul_shL _ _ _, co_succ]; exact h2 j (by omega) (by omega)
  · rw [pmul_shL _ _ _, co_succ]; exact h3
/-- None is missed. -/
theorem BM.hit {s now was : List UInt8} {n L since : Nat} {miss : UInt8} (h : BM s n L since now was miss) (hd : co (pmul now s) n = 0) : BM s (n + 1) L (since + 1) now was miss := by
  obtain ⟨a, b, c, d, e, f, f2, g⟩ := h
  refine ⟨a, b, by omega, fun k h1 h2 => ?_, e, by omega, by omega, ?_⟩
  · by_cases hk : k = n
    · rw [hk]; exact hd
    · exact d k h1 (by omega)
  · rcases g with ⟨g1, g2, g3⟩ | g
    · exact .inl ⟨g1, by omega, g3⟩
    · exact .inr (shp_next c g)
/-- The next one. -/
def bmNext (now was : List UInt8) (since : Nat) (by' : UInt8) : List UInt8 := trim (pplus now (shp since (was.map (mul by'))))
theorem shp_map (c : UInt8) (k : Nat) (p : List UInt8) : Sim (shp k (p.map (mul c))) ((shp k p).map (mul c)) := by
  induction k with
  | zero => intro i; simp [shp]
  | succ k ih =>
    rw [shp_succ, shp_succ, List.map_cons, mul_zero]
    exact cons_sim ih
theorem co_bmNext (now was : List UInt8) (since : Nat) (c : UInt8) (i : Nat) : co (bmNext now was since c) i = co now i ^^^ mul c (co (shp since was) i) := by
  unfold bmNext
  rw [co_trim, co_pplus, shp_map c since was i, co_map]
theorem co_bmNext_s (s now was : List UInt8) (since : Nat) (c : UInt8) (i : Nat) : co (pmul (bmNext now was since c) s) i = co (pmul now s) i ^^^ mul c (co (pmul (shp since was) s) i) := by
  have h1 : Sim (bmNext now was since c) (pplus now ((shp since was).map (mul c))) := fun i => by rw [co_bmNext, co_pplus, co_map]
  rw [pmul_simL _ _ s h1 i, pmul_addL _ _ s i, co_pplus, pmul_mapL c _ s i, co_map]
theorem dg_bmNext {now was : List UInt8} {since a : Nat} (c : UInt8) (h1 : dg now ≤ a) (h2 : dg (shp since was) ≤ a) : dg (bmNext now was since c) ≤ a :=
  dg_le.2 fun i hi => by rw [co_bmNext, dg_le.1 h1 i hi, dg_le.1 h2 i hi, mul_zero, xor_zero]
/-- One is missed, and the length grows. -/
theorem BM.grow {s now was : List UInt8} {n L since : Nat} {miss d : UInt8} (h : BM s n L since now was miss) (hd : co (pmul now s) n = d) (h0 : d ≠ 0) (hL : 2 * L ≤ n) : BM s (n + 1) (n + 1 - L) 1 (bmNext now was since (mul d (inv miss))) now d := by
  obtain ⟨a, b, c, dd, e, f, f2, g⟩ := h
  have hone : co (bmNext now was since (mul d (inv miss))) 0 = 1 := by rw [co_bmNext, co_shp_lt _ _ _ f, mul_zero, xor_zero, a]
  have hold : dg (shp 1 now) ≤ n + 1 + 2 - (n + 1 - L) ∧ (∀ k, n + 1 + 1 - (n + 1 - L) ≤ k → k < n + 1 → co (pmul (shp 1 now) s) k = 0) ∧ co (pmul (shp 1 now) s) (n + 1) = d := by
    have e1 : shp 1 now = 0 :: now := by simp [shp]
    rw [e1]
    refine ⟨dg_le.2 fun i hi => ?_, fun k h1 h2 => ?_, by rw [pmul_shL _ _ _, co_succ]; exact hd⟩
    · obtain ⟨j, rfl⟩ : ∃ j, i = j + 1 := ⟨i - 1, by omega⟩
      rw [co_succ]; exact dg_le.1 b j (by omega)
    · obtain ⟨j, rfl⟩ : ∃ j, k = j + 1 := ⟨k - 1, by omega⟩
      rw [pmul_shL _ _ _, co_succ]; exact dd j (by omega) (by omega)
  have hdg : dg (bmNext now was since (mul d (inv miss))) ≤ n + 1 - L + 1 := by
    refine dg_bmNext _ (by omega) ?_
    rcases g with ⟨g1, g2, g3⟩ | ⟨g1, _⟩
    · subst g1; subst g2; subst g3
      exact Nat.le_trans (dg_shp _ _) (by have := dg_len [1]; simp only [List.length_cons, List.length_nil] at this; omega)
    · omega
  refine ⟨hone, hdg, by omega, fun k h1 h2 => ?_, h0, Nat.le_refl _, by omega, .inr hold⟩
  rcases g with ⟨g1, g2, g3⟩ | ⟨g1, g2, g3⟩
  · omega
  · rw [co_bmNext_s]
    by_cases hk : k = n
    · subst hk
      rw [hd, g3, mul_assoc, inv_mul e, mul_one, xor_self]
    · rw [dd k (by omega) (by omega), g2 k (by omega) (by omega), mul_zero, xor_zero]
/-- One is missed, and the length stays. -/
theorem BM.turn {s now was : List UInt8} {n L since : Nat} {miss d : UInt8} (h : BM s n L since now was miss) (hd : co (pmul now s) n = d) (hL : n < 2 * L) : BM s (n + 1) L (since + 1) (bmNext now was since (mul d (inv miss))) was miss := by
  obtain ⟨a, b, c, dd, e, f, f2, g⟩ := h
  have hone : co (bmNext now was since (mul d (inv miss))) 0 = 1 := by rw [co_bmNext, co_shp_lt _ _ _ f, mul_zero, xor_zero, a]
  rcases g with ⟨g1, g2, g3⟩ | ⟨g1, g2, g3⟩
  · omega
  · refine ⟨hone, dg_bmNext _ b (by omega), by omega, fun k h1 h2 => ?_, e, by omega, by omega, .inr (shp_next c ⟨g1, g2, g3⟩)⟩
    rw [co_bmNext_s]
    by_cases hk : k = n
    · subst hk
      rw [hd, g3, mul_assoc, inv_mul e, mul_one, xor_self]
    · rw [dd k (by omega) (by omega), g2 k (by omega) (by omega), mul_zero, xor_zero]
end Gf

/- Errors, their locator, and their sizes, by syndromes. Plain. No condition. -/

namespace Gf
/-! ### Products over lists -/
def prl : List UInt8 → List UInt8
  | [] => [1]
  | a :: l => pmul (prl l) [a, 1]
def lol : List UInt8 → List UInt8
  | [] => [1]
  | a :: l => pmul (lol l) [1, a]
theorem dg_prl : ∀ l : List UInt8, dg (prl l) ≤ l.length + 1
  | [] => dg_len _
  | a :: l => by have := dg_pmul (dg_prl l) (dg_lin a); simp only [prl, List.length_cons]; omega
theorem dg_lol : ∀ l : List UInt8, dg (lol l) ≤ l.length + 1
  | [] => dg_len _
  | a :: l => by
    have h : dg [1, a] ≤ 2 := dg_len _
    have := dg_pmul (dg_lol l) h; simp only [lol, List.length_cons]; omega
theorem ev_prl (x : UInt8) : ∀ l : List UInt8, evp (prl l) x = 0 ↔ x ∈ l
  | [] => by rw [show prl [] = [1] from rfl, ev_const]; simp
  | a :: l => by
    rw [show prl (a :: l) = pmul (prl l) [a, 1] from rfl, ev_pmul, ev_lin, List.mem_cons]
    constructor
    · intro h
      rcases mul_eq_zero h with h | h
      · exact .inr ((ev_prl x l).1 h)
      · exact .inl (xor_eq_zero h)
    · rintro (h | h)
      · rw [h, xor_self, mul_zero]
      · rw [(ev_prl x l).2 h, zero_mul]
theorem ev_one (a z : UInt8) : evp [1, a] z = 1 ^^^ mul a z := by
  show 1 ^^^ mul (a ^^^ mul 0 z) z = _
  rw [zero_mul, xor_zero]
theorem mul_inv_one {a x : UInt8} (hx : x ≠ 0) : mul a (inv x) = 1 ↔ a = x := by
  constructor
  · intro h
    have := congrArg (fun y => mul y x) h
    simp only [mul_assoc, inv_mul hx, mul_one, one_mul] at this
    exact this
  · rintro rfl; exact mul_inv hx
theorem ev_lol {x : UInt8} (hx : x ≠ 0) : ∀ l : List UInt8, evp (lol l) (inv x) = 0 ↔ x ∈ l
  | [] => by rw [show lol [] = [1] from rfl, ev_const]; simp
  | a :: l => by
    rw [show lol (a :: l) = pmul (lol l) [1, a] from rfl, ev_pmul, ev_one, List.mem_cons]
    constructor
    · intro h
      rcases mul_eq_zero h with h | h
      · exact .inr ((ev_lol hx l).1 h)
      · exact .inl ((mul_inv_one hx).1 (xor_eq_zero h).symm).symm
    · rintro (h | h)
      · rw [h, mul_inv (h ▸ hx), xor_self, mul_zero]
      · rw [(ev_lol hx l).2 h, zero_mul]
theorem ev_at0 (p : List UInt8) : evp p 0 = co p 0 := by
  cases p with
  | nil => rfl
  | cons c p => show c ^^^ mul (evp p 0) 0 = c; rw [mul_zero, xor_zero]
theorem lol_one : ∀ l : List UInt8, co (lol l) 0 = 1
  | [] => rfl
  | a :: l => by rw [← ev_at0, show lol (a :: l) = pmul (lol l) [1, a] from rfl, ev_pmul, ev_one, ev_at0, lol_one l, mul_zero, xor_zero, mul_one]
theorem inv_inv' {a : UInt8} (h : a ≠ 0) : inv (inv a) = a := (inv_uniq (by rw [inv_mul h])).symm
theorem nodup_inv {l : List UInt8} (hn : l.Nodup) (h0 : (0 : UInt8) ∉ l) : (0 :: l.map inv).Nodup := by
  rw [List.nodup_cons]
  refine ⟨fun h => ?_, ?_⟩
  · obtain ⟨a, ha, e⟩ := List.mem_map.1 h
    exact inv_ne (fun e' => h0 (e' ▸ ha)) e
  · refine List.pairwise_map.2 (hn.imp_of_mem fun ha hb hne e => hne ?_)
    have h1 := inv_inv' (fun e' => h0 (e' ▸ ha))
    rw [← h1, e, inv_inv' (fun e' => h0 (e' ▸ hb))]
/-- A locator is told by its constant and by where it vanishes. -/
theorem loc_uniq {l p : List UInt8} (hn : l.Nodup) (h0 : (0 : UInt8) ∉ l) (hd : dg p ≤ l.length + 1) (h1 : co p 0 = 1) (hz : ∀ a ∈ l, evp p (inv a) = 0) : Sim p (lol l) := by
  refine agree (nodup_inv hn h0) (by simpa using hd) (by simpa using dg_lol l) (fun a ha => ?_)
  rcases List.mem_cons.1 ha with rfl | ha
  · rw [ev_at0, ev_at0, h1, lol_one]
  · obtain ⟨b, hb, rfl⟩ := List.mem_map.1 ha
    rw [hz b hb, (ev_lol (fun e => h0 (e ▸ hb)) l).2 hb]

/-! ### Sums over places -/
theorem sm_swap (f : Nat → Nat → UInt8) (a : Nat) : ∀ b, sm (fun i => sm (fun j => f i j) b) a = sm (fun j => sm (fun i => f i j) a) b
  | 0 => sm_zero a (fun _ _ => rfl)
  | b + 1 => by
    show sm (fun i => sm (fun j => f i j) b ^^^ f i b) a = sm (fun j => sm (fun i => f i j) a) b ^^^ sm (fun i => f i b) a
    rw [sm_add, sm_swap f a b]
theorem pow_ne {x : UInt8} (h : x ≠ 0) : ∀ n, pow x n ≠ 0
  | 0 => by show (1 : UInt8) ≠ 0; decide
  | n + 1 => by rw [pow_succ]; exact mul_ne (pow_ne h n) h
theorem pow_split (x : UInt8) (a : Nat) : ∀ b, pow x (a + b) = mul (pow x a) (pow x b)
  | 0 => by show pow x a = mul (pow x a) 1; rw [mul_one]
  | b + 1 => by rw [← Nat.add_assoc, pow_succ, pow_succ, pow_split x a b, mul_assoc]
theorem pow_inv {x : UInt8} (h : x ≠ 0) : ∀ i, mul (pow (inv x) i) (pow x i) = 1
  | 0 => mul_one 1
  | i + 1 => by rw [pow_succ, pow_succ, mul_assoc, mul_comm (inv x), mul_assoc, mul_inv h, mul_one, pow_inv h i]
theorem pow_down {x : UInt8} (h : x ≠ 0) {k i : Nat} (hi : i ≤ k) : pow x (k - i) = mul (pow x k) (pow (inv x) i) := by
  obtain ⟨j, rfl⟩ : ∃ j, k = j + i := ⟨k - i, by omega⟩
  rw [Nat.add_sub_cancel, pow_split, mul_assoc, mul_comm (pow x i), pow_inv h, mul_one]
/-- A value, as a sum. -/
theorem ev_sm (p : List UInt8) (x : UInt8) : ∀ n, (∀ i, n ≤ i → co p i = 0) → evp p x = sm (fun i => mul (co p i) (pow x i)) n := by
  induction p with
  | nil => intro n _; rw [sm_zero n (fun i _ => by rw [co_nil, zero_mul])]; rfl
  | cons c p ih =>
    intro n h
    cases n with
    | zero => rw [ev_zero _ _ (fun i => h i (Nat.zero_le _))]; rfl
    | succ n =>
      rw [sm_front, co_zero]
      show c ^^^ mul (evp p x) x = mul c 1 ^^^ _
      rw [mul_one, ih n (fun i hi => by rw [← co_succ c p i]; exact h (i + 1) (by omega)), mul_comm, sm_mul]
      congr 1
      refine sm_congr _ fun i _ => ?_
      rw [co_succ, pow_succ, mul_comm x, mul_assoc]
/-- Sums of powers. -/
def psum (X Y : Nat → UInt8) (n k : Nat) : UInt8 := sm (fun j => mul (Y j) (pow (X j) k)) n
/-- What a locator makes of them. -/
theorem tell {X Y : Nat → UInt8} {n r : Nat} {s C : List UInt8} (hX : ∀ j, j < n → X j ≠ 0) (hs : ∀ k, k < r → co s k = psum X Y n k) {k : Nat} (hk : k < r) (hd : dg C ≤ k + 1) :
    co (pmul C s) k = sm (fun j => mul (mul (Y j) (evp C (inv (X j)))) (pow (X j) k)) n := by
  rw [co_pmul]
  rw [sm_congr (g := fun i => sm (fun j => mul (co C i) (mul (Y j) (pow (X j) (k - i)))) n) _ (fun i hi => by rw [hs (k - i) (by omega)]; unfold psum; rw [sm_mul])]
  rw [sm_swap]
  refine sm_congr _ fun j hj => ?_
  rw [ev_sm C (inv (X j)) (k + 1) (dg_le.1 hd), mul_comm (mul (Y j) _), sm_mul, sm_mul]
  refine sm_congr _ fun i hi => ?_
  rw [pow_down (hX j hj) (by omega)]
  rw [mul_left_comm (Y j) (co C i), mul_left_comm (pow (X j) k) (co C i), mul_left_comm (pow (X j) k) (Y j)]
/-- Vandermonde: few enough terms vanish with their sums of powers. -/
theorem vander {X Z : Nat → UInt8} {n a w : Nat} {E : List UInt8} (hX : ∀ j, j < n → X j ≠ 0) (hinj : ∀ i j, i < n → j < n → X i = X j → i = j) (hE : E.length ≤ w) (hz : ∀ j, j < n → X j ∉ E → Z j = 0)
    (h : ∀ k, k < w → sm (fun j => mul (Z j) (pow (X j) (a + k))) n = 0) : ∀ j, j < n → Z j = 0 := by
  intro j0 hj0
  by_cases hm : X j0 ∈ E
  · let q := prl (E.filter (· ≠ X j0))
    have hlen : (E.filter (· ≠ X j0)).length + 1 ≤ w := by
      have h1 : (E.filter (· ≠ X j0)).length < E.length := by
        refine Nat.lt_of_le_of_ne (List.length_filter_le _ _) fun e => ?_
        have h2 := List.length_filter_eq_length_iff.1 e (X j0) hm
        simp at h2
      omega
    have hq : dg q ≤ w := Nat.le_trans (dg_prl _) hlen
    have h2 : sm (fun j => mul (mul (Z j) (pow (X j) a)) (evp q (X j))) n = 0 := by
      rw [sm_congr (g := fun j => sm (fun k => mul (co q k) (mul (Z j) (pow (X j) (a + k)))) w) _ (fun j _ => by
        rw [ev_sm q (X j) w (dg_le.1 hq), sm_mul]
        refine sm_congr _ fun k _ => ?_
        rw [pow_split, mul_left_comm _ (co q k), mul_assoc (Z j)]), sm_swap]
      refine sm_zero _ fun k hk => ?_
      rw [← sm_mul, h k hk, mul_zero]
    rw [sm_one _ j0 n (fun i hi hne => ?_), if_pos hj0] at h2
    · rcases mul_eq_zero h2 with h3 | h3
      · rcases mul_eq_zero h3 with h4 | h4
        · exact h4
        · exact absurd h4 (pow_ne (hX j0 hj0) a)
      · have h4 := (ev_prl _ _).1 h3
        simp at h4
    · by_cases hi2 : X i ∈ E
      · have h5 : evp q (X i) = 0 := (ev_prl _ _).2 (List.mem_filter.2 ⟨hi2, by simpa using fun e => hne (hinj i j0 hi hj0 e)⟩)
        rw [h5, mul_zero]
      · rw [hz i hi hi2, zero_mul, zero_mul]
  · exact hz j0 hj0 hm
/-- Who makes all sums of powers, and is no longer than there are terms, is their locator. -/
theorem loc_found {X Y : Nat → UInt8} {n r L : Nat} {s C E : List UInt8} (hX : ∀ j, j < n → X j ≠ 0) (hinj : ∀ i j, i < n → j < n → X i = X j → i = j) (hs : ∀ k, k < r → co s k = psum X Y n k)
    (hE : E.Nodup) (hmem : ∀ a ∈ E, ∃ j, j < n ∧ X j = a ∧ Y j ≠ 0) (hz : ∀ j, j < n → X j ∉ E → Y j = 0) (hw : L + E.length ≤ r) (hL : L ≤ E.length) (hd : dg C ≤ L + 1) (h1 : co C 0 = 1) (hC : ∀ k, L ≤ k → k < r → co (pmul C s) k = 0) : Sim C (lol E) := by
  have hv := vander (X := X) (Z := fun j => mul (Y j) (evp C (inv (X j)))) (n := n) (a := L) (w := E.length) (E := E) hX hinj (Nat.le_refl _) (fun j hj hm => by rw [hz j hj hm, zero_mul]) (fun k hk => by
    rw [← tell hX hs (k := L + k) (by omega) (by omega)]; exact hC _ (by omega) (by omega))
  refine loc_uniq hE (fun h0 => ?_) (by omega) h1 (fun a ha => ?_)
  · obtain ⟨j, hj, e, _⟩ := hmem 0 h0
    exact hX j hj e
  · obtain ⟨j, hj, rfl, hy⟩ := hmem a ha
    rcases mul_eq_zero (hv j hj) with h | h
    · exact absurd h hy
    · exact h
/-- The locator makes all sums from its length on. -/
theorem lol_makes {X Y : Nat → UInt8} {n r : Nat} {s E : List UInt8} (hX : ∀ j, j < n → X j ≠ 0) (hs : ∀ k, k < r → co s k = psum X Y n k) (hz : ∀ j, j < n → X j ∉ E → Y j = 0) : ∀ k, E.length ≤ k → k < r → co (pmul (lol E) s) k = 0 := by
  intro k h1 h2
  rw [tell hX hs h2 (Nat.le_trans (dg_lol E) (by omega))]
  refine sm_zero _ fun j hj => ?_
  by_cases hm : X j ∈ E
  · rw [(ev_lol (hX j hj) E).2 hm, mul_zero, zero_mul]
  · rw [hz j hj hm, zero_mul, zero_mul]

/-! ### How much -/
/-- The derivative. -/
def der (p : List UInt8) : List UInt8 := (List.range (p.length - 1)).map fun i => if i % 2 = 0 then co p (i + 1) else 0
theorem co_der (p : List UInt8) (i : Nat) : co (der p) i = if i % 2 = 0 then co p (i + 1) else 0 := by
  by_cases h : i < p.length - 1
  · have : i < (der p).length := by simpa [der] using h
    rw [co_lt this]; simp [der]
  · rw [co_ge (by simpa [der] using h)]
    split
    · exact (co_ge (by omega)).symm
    · rfl
theorem co_pmul_one (p : List UInt8) (x : UInt8) (k : Nat) : co (pmul p [1, x]) (k + 1) = co p (k + 1) ^^^ mul x (co p k) := by
  have h1 : ∀ (p : List UInt8) (k : Nat), co (pmul p [1, x]) (k + 1) = co p (k + 1) ^^^ mul x (co p k) := by
    intro p
    induction p with
    | nil => intro k; simp [pmul, co_nil, mul_zero]
    | cons c p ih =>
      intro k
      rw [co_pmul_succ, co_succ]
      cases k with
      | zero =>
        rw [co_succ, co_zero, co_zero, mul_comm, xor_comm]
        congr 1
        cases p with
        | nil => simp [pmul, co_nil]
        | cons d p => rw [co_pmul_zero, co_zero, co_zero, mul_one]
      | succ k =>
        rw [co_succ, co_nil, mul_zero, zero_xor, ih k, co_succ, co_succ]
  exact h1 p k
theorem co_pmul_one0 (p : List UInt8) (x : UInt8) : co (pmul p [1, x]) 0 = co p 0 := by
  cases p with
  | nil => rfl
  | cons c p => rw [co_pmul_zero, co_zero, co_zero, mul_one]
theorem der_sim {p q : List UInt8} (h : Sim p q) : Sim (der p) (der q) := fun i => by rw [co_der, co_der, h]
/-- The derivative of (1 + x z) M. -/
theorem der_lin (M : List UInt8) (x : UInt8) : Sim (der (pmul M [1, x])) (pplus (M.map (mul x)) (pmul (der M) [1, x])) := fun i => by
  rw [co_pplus, co_map, co_der]
  cases i with
  | zero => rw [co_pmul_one0, if_pos (by rfl), co_pmul_one, co_der, if_pos (by rfl), xor_comm]
  | succ i =>
    rw [co_pmul_one, co_pmul_one, co_der, co_der]
    rcases Nat.mod_two_eq_zero_or_one i with h | h
    · rw [if_neg (by omega), if_neg (by omega), if_pos h, zero_xor, xor_self]
    · rw [if_pos (by omega), if_pos (by omega), if_neg (by omega), mul_zero, xor_zero, xor_comm]
theorem der_at {M : List UInt8} {x : UInt8} (hx : x ≠ 0) : evp (der (pmul M [1, x])) (inv x) = mul x (evp M (inv x)) := by
  rw [ev_sim _ _ _ (der_lin M x), ev_pplus, ev_map, ev_pmul, ev_one, mul_inv hx, xor_self, mul_zero, xor_zero]
/-- All places but one. -/
def but (E : List UInt8) (a : UInt8) : List UInt8 := E.filter (· ≠ a)
theorem lol_part {E : List UInt8} (hE : E.Nodup) (h0 : (0 : UInt8) ∉ E) {a : UInt8} (ha : a ∈ E) : Sim (pmul (lol (but E a)) [1, a]) (lol E) := by
  refine loc_uniq hE h0 ?_ ?_ ?_
  · have h1 : (but E a).length < E.length := by
      refine Nat.lt_of_le_of_ne (List.length_filter_le _ _) fun e => ?_
      have h2 := List.length_filter_eq_length_iff.1 e a ha
      simp at h2
    have h2 : dg [1, a] ≤ 2 := dg_len _
    have := dg_pmul (dg_lol (but E a)) h2
    omega
  · rw [co_pmul_one0, lol_one]
  · intro b hb
    rw [ev_pmul, ev_one]
    by_cases hab : a = b
    · subst hab
      rw [mul_inv (fun e => h0 (e ▸ ha)), xor_self, mul_zero]
    · rw [(ev_lol (fun e => h0 (e ▸ hb)) (but E a)).2 (show b ∈ but E a from List.mem_filter.2 ⟨hb, by simpa using Ne.symm hab⟩), zero_mul]
/-- One by 1 + x z, as a sum, times the locator. -/
theorem horner {E : List UInt8} (hE : E.Nodup) (h0 : (0 : UInt8) ∉ E) {a : UInt8} (ha : a ∈ E) : ∀ k, sm (fun i => mul (co (lol E) i) (pow a (k - i))) (k + 1) = co (lol (but E a)) k
  | 0 => by
    show 0 ^^^ mul (co (lol E) 0) (pow a (0 - 0)) = _
    rw [zero_xor, lol_one, lol_one]; exact one_mul 1
  | k + 1 => by
    show sm (fun i => mul (co (lol E) i) (pow a (k + 1 - i))) (k + 1) ^^^ mul (co (lol E) (k + 1)) (pow a (k + 1 - (k + 1))) = _
    rw [Nat.sub_self, show pow a 0 = 1 from rfl, mul_one, ← lol_part hE h0 ha (k + 1), co_pmul_one, ← horner hE h0 ha k, sm_mul]
    rw [sm_congr (g := fun i => mul a (mul (co (lol E) i) (pow a (k - i)))) _ (fun i hi => by
      rw [show k + 1 - i = k - i + 1 by omega, pow_succ, mul_comm a, mul_assoc])]
    rw [xor_comm, xor_assoc, xor_self, xor_zero]
/-- What the beginning of the product of syndromes and locator is, at an error's inverse. -/
theorem omega_at {X Y : Nat → UInt8} {n r : Nat} {s E om : List UInt8} (hX : ∀ j, j < n → X j ≠ 0) (hinj : ∀ i j, i < n → j < n → X i = X j → i = j) (hs : ∀ k, k < r → co s k = psum X Y n k)
    (hE : E.Nodup) (h0 : (0 : UInt8) ∉ E) (hz : ∀ j, j < n → X j ∉ E → Y j = 0) (hr : E.length ≤ r) (hom : ∀ k, co om k = if k < r then co (pmul (lol E) s) k else 0) {j0 : Nat} (hj0 : j0 < n) (hm : X j0 ∈ E) :
    evp om (inv (X j0)) = mul (Y j0) (evp (lol (but E (X j0))) (inv (X j0))) := by
  have hlen : ∀ a ∈ E, (but E a).length + 1 ≤ r := fun a ha => by
    have h1 : (but E a).length < E.length := by
      refine Nat.lt_of_le_of_ne (List.length_filter_le _ _) fun e => ?_
      have h2 := List.length_filter_eq_length_iff.1 e a ha
      simp at h2
    omega
  have hco : ∀ k, k < r → co om k = sm (fun j => mul (Y j) (co (lol (but E (X j))) k)) n := fun k hk => by
    rw [hom k, if_pos hk, co_pmul]
    rw [sm_congr (g := fun i => sm (fun j => mul (co (lol E) i) (mul (Y j) (pow (X j) (k - i)))) n) _ (fun i hi => by rw [hs (k - i) (by omega)]; unfold psum; rw [sm_mul])]
    rw [sm_swap]
    refine sm_congr _ fun j hj => ?_
    by_cases hjm : X j ∈ E
    · rw [← horner hE h0 hjm k, sm_mul]
      refine sm_congr _ fun i _ => ?_
      rw [mul_left_comm]
    · rw [hz j hj hjm, zero_mul]
      exact sm_zero _ fun i _ => by rw [zero_mul, mul_zero]
  rw [ev_sm om (inv (X j0)) r (fun i hi => by rw [hom i, if_neg (by omega)])]
  rw [sm_congr (g := fun k => sm (fun j => mul (mul (Y j) (co (lol (but E (X j))) k)) (pow (inv (X j0)) k)) n) _ (fun k hk => by rw [hco k hk, mul_comm, sm_mul]; exact sm_congr _ fun j _ => mul_comm _ _), sm_swap]
  rw [sm_one _ j0 n (fun i hi hne => ?_), if_pos hj0]
  · rw [ev_sm (lol (but E (X j0))) (inv (X j0)) r (dg_le.1 (Nat.le_trans (dg_lol _) (hlen _ hm))), sm_mul]
    exact sm_congr _ fun k _ => mul_assoc _ _ _
  · by_cases him : X i ∈ E
    · have h1 : evp (lol (but E (X i))) (inv (X j0)) = 0 := (ev_lol (hX j0 hj0) _).2 (List.mem_filter.2 ⟨hm, by simpa using fun e => hne (hinj i j0 hi hj0 e.symm)⟩)
      rw [ev_sm (lol (but E (X i))) (inv (X j0)) r (dg_le.1 (Nat.le_trans (dg_lol _) (hlen _ him)))] at h1
      have h2 := congrArg (mul (Y i)) h1
      rw [sm_mul, mul_zero] at h2
      rw [← h2]
      exact sm_congr _ fun k _ => mul_assoc _ _ _
    · exact sm_zero _ fun k _ => by rw [hz i hi him, zero_mul, zero_mul]
/-- How much is wrong. -/
theorem forney {E : List UInt8} (hE : E.Nodup) (h0 : (0 : UInt8) ∉ E) {a Y g e om : UInt8} (ha : a ∈ E) (hg : g ≠ 0) (hY : Y = mul g e) (hom : om = mul Y (evp (lol (but E a)) (inv a))) :
    mul (evp (der (lol E)) (inv a)) g ≠ 0 ∧ mul (mul a om) (inv (mul (evp (der (lol E)) (inv a)) g)) = e := by
  have hne : a ≠ 0 := fun e' => h0 (e' ▸ ha)
  have h1 : evp (der (lol E)) (inv a) = mul a (evp (lol (but E a)) (inv a)) := by
    rw [← der_at hne]; exact ev_sim _ _ _ (der_sim (lol_part hE h0 ha).symm)
  have h2 : evp (lol (but E a)) (inv a) ≠ 0 := fun h => by
    have := (ev_lol hne _).1 h
    unfold but at this
    simp at this
  rw [h1]
  generalize evp (lol (but E a)) (inv a) = M at *
  have h3 : mul (mul a M) g ≠ 0 := mul_ne (mul_ne hne h2) hg
  refine ⟨h3, ?_⟩
  have h4 : mul a om = mul e (mul (mul a M) g) := by
    rw [hom, hY, mul_comm g e, mul_assoc e, mul_left_comm a e, mul_comm g M, ← mul_assoc a]
  rw [h4, mul_assoc, mul_inv h3, mul_one]
end Gf

/- What chapter 30's functions come to, in plain Lean. No condition but lengths. -/






set_option linter.unusedSimpArgs false
set_option linter.unusedVariables false
namespace Gk
open Gf

/-! ### Codes -/
/-- May these be places? -/
def pc (xs : List UInt8) : Int := if xs.length = 0 then 5 else if 255 < xs.length then 4 else if xs.Nodup then 0 else 6
theorem Weights_code (xs : List UInt8) (x : UInt8) (h : xs.length ≤ most) : ∃ w, poly_Weights true xs x = some (w, pc xs) := by
  have hck := poly_check_eq xs h
  by_cases hok : xs.length ≠ 0 ∧ xs.length ≤ 255 ∧ xs.Nodup
  · obtain ⟨h0, h1, h2⟩ := hok
    refine ⟨wts xs x, ?_⟩
    rw [poly_Weights_eq xs x h0 h1 h2]; unfold pc; rw [if_neg h0, if_neg (by omega), if_pos h2]
  · refine ⟨[], poly_Weights_bad xs x _ hck ?_⟩
    unfold pc
    by_cases h0 : xs.length = 0
    · rw [if_pos h0]; decide
    · rw [if_neg h0]
      by_cases h1 : 255 < xs.length
      · rw [if_pos h1]; decide
      · rw [if_neg h1, if_neg (fun h2 => hok ⟨h0, by omega, h2⟩)]; decide
def scode (t : Int) (xs : List UInt8) (n : Int) : Int := if (xs.length : Int) = n then (if t < 1 ∨ 255 < t ∨ 0 ∈ xs then 2 else if (xs.length : Int) < t then 5 else pc xs) else 1
theorem syn_check_eq (t : Int) (xs : List UInt8) (n : Int) (h : xs.length ≤ most) : syndrome_check true t xs n = some (scode t xs n) := by
  unfold syndrome_check scode
  rw [if_neg (by simp)]
  by_cases h1 : (xs.length : Int) = n
  · rw [if_pos h1, if_pos h1]
    by_cases h2 : t < 1
    · rw [if_pos h2, if_pos (.inl h2)]
    · rw [if_neg h2]
      by_cases h3 : 255 < t
      · rw [if_pos h3, if_pos (.inr (.inl h3))]
      · rw [if_neg h3, Contains_eq _ _ h, Option.bind_some]
        by_cases h4 : (0 : UInt8) ∈ xs
        · rw [if_pos (by simpa using h4), if_pos (.inr (.inr h4))]
        · rw [if_neg (by simpa using h4), if_neg (show ¬ (t < 1 ∨ 255 < t ∨ (0 : UInt8) ∈ xs) from not_or.2 ⟨h2, not_or.2 ⟨h3, h4⟩⟩)]
          by_cases h5 : (xs.length : Int) < t
          · rw [if_pos h5, if_pos h5]
          · rw [if_neg h5, if_neg h5]
            obtain ⟨w, e⟩ := Weights_code xs 0 h
            rw [e, Option.bind_some]
  · rw [if_neg h1, if_neg h1]
theorem syn_check_nil (t : Int) (xs : List UInt8) (n : Int) : syndrome_check false t xs n = some 1 := by
  unfold syndrome_check; rw [if_pos (by simp)]

/-! ### Syndromes -/
theorem syn_weight_eq (xs : List UInt8) (i : Nat) (hi : i < xs.length) (h : xs.length ≤ most) : syndrome_weight true xs (i : Int) = some (wgt xs i) := by
  unfold syndrome_weight
  have hm := most_lt'
  have key : iterC (fun s1 : UInt8 × Int => (if s1.2 < (xs.length : Int) then ((idx xs s1.2).bind fun c4 => (if s1.2 = (i : Int) then some (.inl (s1.1, (wI (s1.2 + 1)))) else ((idx xs (i : Int)).bind fun c6 => ((field_Add c6 c4).bind fun r7 => ((field_Mul true s1.1 r7).bind fun r9 => some (.inl (r9, (wI (s1.2 + 1))))))))) else some (.inr s1.1))) ((1 : UInt8), 0) = some (pe xs i (co xs i) xs.length) := by
    refine iterC_count (fun k => (pe xs i (co xs i) k, (k : Int))) xs.length _ rfl ?_ ?_
    · intro k hk
      simp only
      rw [if_pos (by omega), idx_co hk, Option.bind_some]
      by_cases hki : k = i
      · subst hki
        rw [if_pos rfl, wI_succ k (by omega)]
        simp [pe]
      · rw [if_neg (by omega), idx_co hi, Option.bind_some]
        simp only [Add_eq, Mul_eq, Option.bind_some]
        rw [wI_succ k (by omega)]
        simp [pe, hki]
    · simp
  rw [key, Option.bind_some, Inv_eq, Option.bind_some]
  unfold wgt
  split
  · rename_i h0; rw [h0, inv_zero]
  · rfl
theorem Syndromes_bad (t : Int) (xs ys : List UInt8) (h : xs.length ≤ most) (hc : scode t xs (ys.length : Int) ≠ 0) : syndrome_Syndromes true t xs ys = some ([], scode t xs (ys.length : Int)) := by
  unfold syndrome_Syndromes
  rw [syn_check_eq _ _ _ h, Option.bind_some, if_neg hc]
theorem Syndromes_nil (t : Int) (xs ys : List UInt8) : syndrome_Syndromes false t xs ys = some ([], 1) := by
  unfold syndrome_Syndromes
  rw [syn_check_nil, Option.bind_some, if_neg (by decide)]
theorem scode_ok {t : Int} {xs : List UInt8} {n : Int} (hc : scode t xs n = 0) : (xs.length : Int) = n ∧ 1 ≤ t ∧ t ≤ (xs.length : Int) ∧ (0 : UInt8) ∉ xs ∧ xs.length ≤ 255 ∧ xs.Nodup := by
  unfold scode pc at hc
  split at hc
  · split at hc
    · cases hc
    · rename_i h1 h2
      split at hc
      · cases hc
      · split at hc
        · cases hc
        · split at hc
          · cases hc
          · split at hc
            · rename_i h3 h4 h5 h6
              refine ⟨h1, ?_, by omega, fun h => h2 (.inr (.inr h)), by omega, h6⟩
              exact Int.not_lt.1 fun h => h2 (.inl h)
            · cases hc
  · cases hc
theorem Syndromes_ok (t : Nat) (xs ys : List UInt8) (hc : scode (t : Int) xs (ys.length : Int) = 0) : syndrome_Syndromes true (t : Int) xs ys = some (synd xs ys (xs.length - t), 0) := by
  obtain ⟨hl, ht, htl, _, h255, hn⟩ := scode_ok hc
  unfold syndrome_Syndromes
  have hm := most_lt'
  have hh := h257
  rw [syn_check_eq _ _ _ (by omega), hc, Option.bind_some, if_pos rfl, wI_sub _ _ (by omega) (by omega), makeL_nat _ _ (by omega), Option.bind_some]
  generalize hr : xs.length - t = r
  refine bind_of ?_ rfl
  refine iterC_count (fun i => ((List.range r).map (fun k => sm (fun i => mul (mul (wgt xs i) (co ys i)) (pow (co xs i) k)) i), (i : Int))) xs.length _ ?_ ?_ ?_
  · congr 1
    exact eq_of_co (by simp) fun i => by rw [co_rep, co_tab]; split <;> rfl
  · intro i hi
    simp only
    rw [if_pos (by omega), idx_co hi, Option.bind_some, idx_co (by omega), Option.bind_some, syn_weight_eq xs i hi (by omega), Option.bind_some, Mul_eq, Option.bind_some]
    generalize hrow : (List.range r).map (fun k => sm (fun i => mul (mul (wgt xs i) (co ys i)) (pow (co xs i) k)) i) = row
    have hrl : row.length = r := by rw [← hrow]; simp
    have inner : iterC (fun s18 : List UInt8 × UInt8 × Int => (if s18.2.2 < (row.length : Int) then ((idx s18.1 s18.2.2).bind fun c21 => ((field_Add c21 s18.2.1).bind fun r22 => ((field_Mul true s18.2.1 (co xs i)).bind fun r26 => some (.inl ((s18.1.set (s18.2.2 : Int).toNat r22), r26, (wI (s18.2.2 + 1))))))) else some (.inr s18.1))) (row, mul (wgt xs i) (co ys i), 0)
        = some ((List.range row.length).map (fun k => co row k ^^^ mul (mul (wgt xs i) (co ys i)) (pow (co xs i) k))) := by
      refine iterC_count (fun k => (updB row (fun k => co row k ^^^ mul (mul (wgt xs i) (co ys i)) (pow (co xs i) k)) k, mul (mul (wgt xs i) (co ys i)) (pow (co xs i) k), (k : Int))) row.length _ ?_ ?_ ?_
      · rw [updB_zero]; show _ = (row, mul _ 1, _); rw [mul_one]; rfl
      · intro k hk
        simp only
        rw [if_pos (by omega), idx_updB _ _ _ _ hk, if_neg (by omega), Option.bind_some, Add_eq, Option.bind_some, Mul_eq, Option.bind_some, Int.toNat_natCast, updB_succ row (fun k => co row k ^^^ mul (mul (wgt xs i) (co ys i)) (pow (co xs i) k)) k hk, wI_succ k (by omega), pow_succ, mul_assoc]
      · simp only
        rw [if_neg (by omega), updB_end]
    rw [inner, Option.bind_some, wI_succ i (by omega), hrl]
    congr 3
    refine List.map_congr_left fun k hk => ?_
    rw [← hrow, co_tab, if_pos (List.mem_range.1 hk)]
    rfl
  · simp only
    rw [if_neg (by omega)]; rfl

/-! ### The locator -/
theorem part_eq (p : List UInt8) (i : Nat) : syndrome_part p (i : Int) = some (co p i) := by
  unfold syndrome_part
  rw [if_neg (by omega)]
  by_cases h : p.length ≤ i
  · rw [if_pos (by omega), co_ge h]
  · rw [if_neg (by omega), idx_co (by omega)]; rfl
theorem gap_eq (s C : List UInt8) (L n : Nat) (hn : n < s.length) (hL : L ≤ n) (h1 : co C 0 = 1) (hd : dg C ≤ L + 1) (hs : s.length ≤ most) : syndrome_gap true s C (L : Int) (n : Int) = some (co (pmul C s) n) := by
  unfold syndrome_gap
  have hm := most_lt'
  rw [idx_co hn, Option.bind_some]
  refine bind_of ?_ rfl
  refine iterC_count (fun i => (sm (fun i => mul (co C i) (co s (n - i))) (i + 1), ((i + 1 : Nat) : Int))) L _ ?_ ?_ ?_
  · simp only [sm]
    rw [h1, one_mul, zero_xor]; rfl
  · intro i hi
    simp only
    rw [if_pos (by omega), wI_sub _ _ (by omega) (by omega), idx_co (by omega), Option.bind_some, part_eq, Option.bind_some, Mul_eq, Option.bind_some, Add_eq, Option.bind_some, wI_succ _ (by omega)]
    rfl
  · simp only
    rw [if_neg (by omega), co_pmul]
    obtain ⟨k, rfl⟩ : ∃ k, n = L + k := ⟨n - L, by omega⟩
    rw [show L + k + 1 = L + 1 + k by omega, sm_ext (L + 1) k (fun i h2 h3 => by rw [dg_le.1 hd i (by omega), zero_mul])]
/-- What a locator of the syndromes, as short as may be, is. -/
structure Loc (s C : List UInt8) (L : Nat) : Prop where
  one : co C 0 = 1
  dgn : dg C ≤ L + 1
  len : L ≤ s.length
  mks : ∀ k, L ≤ k → k < s.length → co (pmul C s) k = 0
  trm : trim C = C
  least : ∀ (D : List UInt8) (w : Nat), dg D ≤ w + 1 → co D 0 = 1 → (∀ k, w ≤ k → k < s.length → co (pmul D s) k = 0) → L ≤ w
theorem trim_len_dg {p : List UInt8} (h : trim p = p) : p.length = dg p := by unfold dg; rw [h]
theorem Locator_eq (s : List UInt8) (hs : s.length ≤ 1000) : ∃ C L, syndrome_Locator true s = some (C, 0) ∧ Loc s C L := by
  unfold syndrome_Locator
  have hm := most_lt'
  have h1000 : 10000 ≤ most := by decide
  rw [if_neg (by simp)]
  obtain ⟨C, e, L, hC⟩ := iterC_inv (body := fun s9 : List UInt8 × List UInt8 × Int × Int × UInt8 × Int => (if s9.2.2.2.2.2 < (s.length : Int) then ((syndrome_gap true s s9.1 s9.2.2.1 s9.2.2.2.2.2).bind fun r12 => (if r12 = (0 : UInt8) then some (.inl (s9.1, s9.2.1, s9.2.2.1, (wI (s9.2.2.2.1 + 1)), s9.2.2.2.2.1, (wI (s9.2.2.2.2.2 + 1)))) else
      ((field_Div true r12 s9.2.2.2.2.1).bind fun r15 => ((((makeL s9.2.2.2.1 (0 : UInt8)).bind fun c20 => ((field_Scale true r15.1 s9.2.1).bind fun r23 => ((slices_Concat_sbytebyte ([c20, r23] : List (List UInt8))).bind fun r27 => ((poly_Add s9.1 r27).bind fun r29 => some r29))))).bind fun x17 =>
      (if (wI (2 * s9.2.2.1)) ≤ s9.2.2.2.2.2 then some (.inl (x17, s9.1, (wI ((wI (s9.2.2.2.2.2 + 1)) - s9.2.2.1)), (wI (0 + 1)), r12, (wI (s9.2.2.2.2.2 + 1)))) else some (.inl (x17, s9.2.1, s9.2.2.1, (wI (s9.2.2.2.1 + 1)), s9.2.2.2.2.1, (wI (s9.2.2.2.2.2 + 1))))))))) else some (.inr s9.1)))
    (fun q => ∃ n L since : Nat, n ≤ s.length ∧ q.2.2.1 = (L : Int) ∧ q.2.2.2.1 = (since : Int) ∧ q.2.2.2.2.2 = (n : Int) ∧ BM s n L since q.1 q.2.1 q.2.2.2.2.1 ∧ trim q.1 = q.1 ∧ q.2.1.length ≤ n + 2 ∧
      ∀ (D : List UInt8) (w : Nat), dg D ≤ w + 1 → co D 0 = 1 → (∀ k, w ≤ k → k < s.length → co (pmul D s) k = 0) → L ≤ w)
    (fun q => s.length - q.2.2.2.2.2.toNat) (fun C : List UInt8 => ∃ L, Loc s C L)
    (by
      rintro ⟨now, was, _, _, miss, _⟩ ⟨n, L, since, hn, rfl, rfl, rfl, hB, htr, hwl, hmin⟩
      simp only at hB htr hwl hmin ⊢
      by_cases hlt : n < s.length
      · have hnl : now.length ≤ n + 2 := by rw [trim_len_dg htr]; have := hB.dgn; have := hB.len; omega
        rw [if_pos (by omega), gap_eq s now L n hlt hB.len hB.one hB.dgn (by omega), Option.bind_some]
        generalize hd : co (pmul now s) n = d
        by_cases hd0 : d = 0
        · rw [if_pos hd0, wI_succ _ (by have := hB.sle; omega), wI_succ _ (by omega)]
          exact .inl ⟨_, rfl, ⟨n + 1, L, since + 1, hlt, rfl, rfl, rfl, hB.hit (hd.trans hd0), htr, by simp only; omega, hmin⟩, by simp only [Int.toNat_natCast]; omega⟩
        · have hsl := hB.sle
          have hsn := hB.sn
          have hfl : ([List.replicate since (0 : UInt8), was.map (mul (mul d (inv miss)))] : List (List UInt8)).flatten = shp since (was.map (mul (mul d (inv miss)))) := by simp [shp]
          have hfn : (shp since (was.map (mul (mul d (inv miss))))).length = since + was.length := by simp [shp]
          rw [if_neg hd0, Div_eq, if_neg hB.ms, Option.bind_some, makeL_nat _ _ (by omega), Option.bind_some, Scale_eq _ _ (by omega), Option.bind_some, Concat_eq _ (by rw [hfl, hfn]; omega) (by simp; omega), hfl, Option.bind_some,
            poly_Add_eq _ _ (by omega) (by rw [hfn]; omega), Option.bind_some, Option.bind_some]
          have hLn := hB.len
          have e2 : wI (2 * (L : Int)) = ((2 * L : Nat) : Int) := by rw [wI_of (by omega) (by omega)]; omega
          rw [e2]
          by_cases h2 : 2 * L ≤ n
          · have hg := hB.grow hd hd0 h2
            have e3 : wI (wI ((n : Int) + 1) - (L : Int)) = ((n + 1 - L : Nat) : Int) := by rw [wI_succ _ (by omega), wI_sub _ _ (by omega) (by omega)]
            rw [if_pos (by omega), e3, wI_succ _ (by omega)]
            refine .inl ⟨_, rfl, ⟨n + 1, n + 1 - L, 1, hlt, rfl, rfl, rfl, hg, ?_, by simp only; omega, fun D w h3 h4 h5 => ?_⟩, by simp only [Int.toNat_natCast]; omega⟩
            · exact trim_trim _
            · have := massey hB.dgn h3 h4 hB.mks (by rw [hd]; exact hd0) (fun k h6 h7 => h5 k h6 (by omega))
              omega
          · rw [if_neg (by omega), wI_succ _ (by omega), wI_succ _ (by omega)]
            exact .inl ⟨_, rfl, ⟨n + 1, L, since + 1, hlt, rfl, rfl, rfl, hB.turn hd (by omega), trim_trim _, by simp only; omega, hmin⟩, by simp only [Int.toNat_natCast]; omega⟩
      · obtain rfl : n = s.length := by omega
        rw [if_neg (by omega)]
        exact .inr ⟨_, rfl, L, hB.one, hB.dgn, hB.len, hB.mks, htr, hmin⟩)
    ([1], [1], 0, 1, 1, 0) ⟨0, 0, 1, Nat.zero_le _, rfl, rfl, rfl, BM.start s, trim_id (fun _ => by show (1 : UInt8) ≠ 0; decide), by simp, fun _ _ _ _ _ => Nat.zero_le _⟩
  rw [e, Option.bind_some]
  exact ⟨C, L, rfl, hC⟩
theorem Locator_nil (s : List UInt8) : syndrome_Locator false s = some ([], 1) := by
  unfold syndrome_Locator; rw [if_pos (by simp)]

/-! ### Where it vanishes -/
/-- The places where a locator vanishes. -/
def lcs (C xs : List UInt8) (n : Nat) : List Nat := (List.range n).filter fun i => decide (co xs i ≠ 0 ∧ evp C (inv (co xs i)) = 0)
def ints (l : List Nat) : List Int := l.map fun i : Nat => (i : Int)
theorem ints_len (l : List Nat) : (ints l).length = l.length := by simp [ints]
theorem idx_ints {l : List Nat} {k : Nat} (h : k < l.length) : idx (ints l) (k : Int) = some ((l[k] : Nat) : Int) := by rw [idx_nat]; simp [ints, h]
theorem lcs_le (C xs : List UInt8) (n : Nat) : (lcs C xs n).length ≤ n := by
  have := List.length_filter_le (fun i => decide (co xs i ≠ 0 ∧ evp C (inv (co xs i)) = 0)) (List.range n)
  simpa [lcs] using this
theorem lcs_succ (C xs : List UInt8) (n : Nat) : lcs C xs (n + 1) = if co xs n ≠ 0 ∧ evp C (inv (co xs n)) = 0 then lcs C xs n ++ [n] else lcs C xs n := by
  unfold lcs
  rw [List.range_succ, List.filter_append]
  by_cases h : co xs n ≠ 0 ∧ evp C (inv (co xs n)) = 0
  · rw [if_pos h]; simp [h]
  · rw [if_neg h]; simp only [List.filter_cons, decide_eq_false h]; simp
theorem Located_eq (C xs : List UInt8) (hC : C.length ≤ most) (hx : xs.length ≤ most) : syndrome_Located true C xs = some (ints (lcs C xs xs.length)) := by
  unfold syndrome_Located
  have hm := most_lt'
  refine bind_of ?_ rfl
  refine iterC_count (fun i => (ints (lcs C xs i), (i : Int))) xs.length _ rfl ?_ ?_
  · intro i hi
    have hle := lcs_le C xs i
    simp only
    rw [if_pos (by omega), idx_co hi, Option.bind_some, Inv_eq, Option.bind_some, lcs_succ]
    by_cases h0 : co xs i = 0
    · rw [if_pos h0, if_neg (by simp), if_neg (fun h => h.1 h0), wI_succ i (by omega)]
    · rw [if_neg h0, if_pos rfl, poly_Eval_eq _ _ hC, Option.bind_some]
      by_cases h1 : evp C (inv (co xs i)) = 0
      · rw [if_pos h1, if_pos ⟨h0, h1⟩, appL_ok _ _ (by rw [ints_len]; simp; omega) rfl, Option.bind_some, wI_succ i (by omega)]
        simp [ints]
      · rw [if_neg h1, if_neg (fun h => h1 h.2), wI_succ i (by omega)]
  · simp
/-! ### How much is wrong -/
theorem andI_one (i : Nat) (h : i < 9223372036854775808) : andI (i : Int) 1 = ((i % 2 : Nat) : Int) := by
  unfold andI
  have h1 : (BitVec.ofInt 64 (i : Int) &&& BitVec.ofInt 64 1).toNat = i % 2 := by
    rw [BitVec.toNat_and, BitVec.ofInt_natCast, BitVec.toNat_ofNat, Nat.mod_eq_of_lt (by omega)]
    show i &&& 1 = i % 2
    exact Nat.and_one_is_mod i
  rw [h1]
  exact wI_nat (by omega)
theorem derivative_eq (p : List UInt8) (h : p.length ≤ most) : syndrome_derivative p = some (der p) := by
  unfold syndrome_derivative
  have hm := most_lt'
  have e : (if 0 < wI ((p.length : Int) - 1) then wI ((p.length : Int) - 1) else 0) = ((p.length - 1 : Nat) : Int) := by
    rw [wI_of (by omega) (by omega)]; split <;> omega
  rw [e, makeL_nat _ _ (by omega), Option.bind_some]
  refine bind_of ?_ rfl
  have hl : (List.replicate (p.length - 1) (0 : UInt8)).length = p.length - 1 := by simp
  refine iterC_count (fun k => (updB (List.replicate (p.length - 1) 0) (fun i => if i % 2 = 0 then co p (i + 1) else 0) k, (k : Int))) (p.length - 1) _ ?_ ?_ ?_
  · rw [updB_zero]; rfl
  · intro k hk
    simp only
    rw [if_pos (by simpa using hk), andI_one k (by omega), wI_succ k (by omega), ← updB_succ _ _ _ (by rw [hl]; exact hk)]
    by_cases h2 : k % 2 = 0
    · rw [if_pos (by omega), idx_co (by omega), Option.bind_some, idx_updB _ _ _ _ (by rw [hl]; exact hk), Option.bind_some, Int.toNat_natCast, if_pos h2]
    · rw [if_neg (by omega), if_neg h2]
      congr 3
      refine eq_of_co (by simp) fun i => ?_
      rw [co_set (by rw [updB_len, hl]; exact hk)]
      by_cases hik : i = k
      · rw [if_pos hik, hik, co_updB _ _ _ _ (by rw [hl]; exact hk), if_neg (by omega), co_rep]
      · rw [if_neg hik]
  · simp only
    rw [if_neg (by simp)]
    congr 2
    have := updB_end (List.replicate (p.length - 1) (0 : UInt8)) (fun i => if i % 2 = 0 then co p (i + 1) else 0)
    rw [hl] at this
    rw [this]; rfl
/-- The beginning of the product of syndromes and locator. -/
def om (s C : List UInt8) : List UInt8 := (trim (pmul s C)).take s.length
/-- By what is divided, and what comes of it. -/
def dwn (C xs : List UInt8) (i : Nat) : UInt8 := mul (evp (der C) (inv (co xs i))) (wgt xs i)
def vlu (s C xs : List UInt8) (i : Nat) : UInt8 := mul (mul (co xs i) (evp (om s C) (inv (co xs i)))) (inv (dwn C xs i))
noncomputable def vbody (C xs o : List UInt8) (l : List Int) : List UInt8 × Int → Option ((List UInt8 × Int) ⊕ (List UInt8 ⊕ (List UInt8 × Int))) := fun s15 : List UInt8 × Int => (if s15.2 < (l.length : Int) then ((idx l s15.2).bind fun c18 => ((idx xs c18).bind fun c19 => ((field_Inv true c19).bind fun r20 => ((syndrome_derivative C).bind fun r24 => ((poly_Eval true r24 r20.1).bind fun r26 =>
      ((syndrome_weight true xs c18).bind fun r28 => ((field_Mul true r26 r28).bind fun r30 => ((poly_Eval true o r20.1).bind fun r32 => ((field_Mul true c19 r32).bind fun r34 => ((field_Div true r34 r30).bind fun r36 => (if r36.2 = 0 then ((appL s15.1 (([r36.1] : List UInt8))).bind fun c41 =>
      some (.inl (c41, (wI (s15.2 + 1))))) else some (.inr (.inr (([] : List UInt8), r36.2)))))))))))))) else some (.inr (.inl s15.1)))
theorem Values_eq (s C xs : List UInt8) (l : List Nat) (hl : ∀ i ∈ l, i < xs.length ∧ co xs i ≠ 0) (hll : l.length ≤ 1000) (h0 : xs.length ≠ 0) (h1 : xs.length ≤ 255) (hn : xs.Nodup) (hs : s.length ≤ 1000) (hC : C.length ≤ 1000) (hsum : (trim s).length + (trim C).length ≤ 257) :
    ((∀ i ∈ l, dwn C xs i ≠ 0) → syndrome_Values true s C xs (ints l) = some (l.map (vlu s C xs), 0)) ∧ ((∃ i ∈ l, dwn C xs i = 0) → syndrome_Values true s C xs (ints l) = some ([], 7)) := by
  have hm := most_lt'
  have h1000 : 10000 ≤ most := by decide
  have hany : anyO (fun y5 => syndrome_Values_1 y5 xs) (ints l) = some false := by
    rw [anyO_all _ (fun _ => false) (ints l) (fun x hx => ?_)]
    · simp
    · obtain ⟨i, hi, rfl⟩ := List.mem_map.1 hx
      obtain ⟨h2, h3⟩ := hl i hi
      unfold syndrome_Values_1
      rw [if_neg (by omega), if_neg (by omega), idx_co h2, Option.bind_some, decide_eq_false h3]
  have hom : (om s C).length ≤ 1000 := by unfold om; rw [List.length_take]; omega
  have hval : syndrome_Values true s C xs (ints l) = (iterC (vbody C xs (om s C) (ints l)) (([] : List UInt8), 0)).bind (Sum.elim (fun y15 => some (y15, 0)) (fun q15 => some q15)) := by
    unfold syndrome_Values
    rw [if_neg (by simp), lim_of (by rw [ints_len]; omega), Option.bind_some, hany, Option.bind_some, if_neg (by decide), poly_Weights_eq xs 0 h0 h1 hn, Option.bind_some, if_neg (show ¬ (0 : Int) = 6 by decide), poly_Mul_eq s C (by omega) (by omega) (.inr (.inr hsum)), Option.bind_some, if_pos rfl]
    have e : (if (s.length : Int) < ((trim (pmul s C)).length : Int) then (s.length : Int) else ((trim (pmul s C)).length : Int)) = ((min (trim (pmul s C)).length s.length : Nat) : Int) := minI _ _
    simp only [e]
    have := subL_nat (trim (pmul s C)) 0 (min (trim (pmul s C)).length s.length) (Nat.zero_le _) (Nat.min_le_left _ _)
    rw [show ((0 : Nat) : Int) = 0 from rfl] at this
    rw [this, Option.bind_some, List.drop_zero]
    have e2 : (trim (pmul s C)).take (min (trim (pmul s C)).length s.length) = om s C := by
      unfold om
      rw [Nat.min_comm, ← List.take_take, List.take_of_length_le (Nat.le_refl (trim (pmul s C)).length)]
    rw [e2]
    rfl
  have hstep : ∀ (k : Nat) (hk : k < l.length) (acc : List UInt8), acc.length ≤ 1000 → vbody C xs (om s C) (ints l) (acc, (k : Int)) = if dwn C xs l[k] = 0 then some (.inr (.inr ([], 7))) else some (.inl (acc ++ [vlu s C xs l[k]], ((k + 1 : Nat) : Int))) := by
    intro k hk acc hacc
    obtain ⟨h2, h3⟩ := hl l[k] (List.getElem_mem hk)
    unfold vbody
    simp only
    rw [if_pos (by rw [ints_len]; omega), idx_ints hk, Option.bind_some, idx_co h2, Option.bind_some, Inv_eq, if_neg h3, Option.bind_some, derivative_eq C (by omega), Option.bind_some]
    have hdl : (der C).length ≤ most := by simp [der]; omega
    rw [poly_Eval_eq _ _ hdl, Option.bind_some, syn_weight_eq xs _ h2 (by omega), Option.bind_some, Mul_eq, Option.bind_some, poly_Eval_eq _ _ (by omega), Option.bind_some, Mul_eq, Option.bind_some, Div_eq]
    by_cases h4 : dwn C xs l[k] = 0
    · rw [if_pos h4]
      unfold dwn at h4
      rw [if_pos h4, Option.bind_some, if_neg (by decide)]
    · rw [if_neg h4]
      have h5 := h4
      unfold dwn at h5
      rw [if_neg h5, Option.bind_some, if_pos rfl, appL_ok _ _ (by simp; omega) rfl, Option.bind_some, wI_succ k (by omega)]
      rfl
  refine ⟨fun hall => ?_, fun hex => ?_⟩
  · rw [hval]
    refine bind_of (x := Sum.inl (l.map (vlu s C xs))) ?_ rfl
    refine iterC_count (fun k => ((l.take k).map (vlu s C xs), (k : Int))) l.length _ (by simp) ?_ ?_
    · intro k hk
      have := hstep k hk ((l.take k).map (vlu s C xs)) (by simp; omega)
      rw [if_neg (hall _ (List.getElem_mem hk))] at this
      rw [this, List.take_succ_eq_append_getElem hk, List.map_append]
      rfl
    · unfold vbody
      simp only
      rw [if_neg (by rw [ints_len]; omega), List.take_of_length_le (Nat.le_refl _)]
  · rw [hval]
    obtain ⟨x, e, hx⟩ := iterC_inv (body := vbody C xs (om s C) (ints l))
      (fun q => ∃ k : Nat, k ≤ l.length ∧ q.2 = (k : Int) ∧ q.1.length = k ∧ ∀ j (hj : j < k) (h : j < l.length), dwn C xs l[j] ≠ 0) (fun q => l.length - q.2.toNat) (fun x => x = .inr ([], 7))
      (by
        rintro ⟨acc, _⟩ ⟨k, hk, rfl, hacc, hb⟩
        simp only at hacc
        by_cases hlt : k < l.length
        · have := hstep k hlt acc (by omega)
          rw [this]
          by_cases h4 : dwn C xs l[k] = 0
          · rw [if_pos h4]; exact .inr ⟨_, rfl, rfl⟩
          · rw [if_neg h4]
            refine .inl ⟨_, rfl, ⟨k + 1, hlt, rfl, by simp [hacc], fun j hj h => ?_⟩, by simp only [Int.toNat_natCast]; omega⟩
            by_cases hjk : j = k
            · subst hjk; exact h4
            · exact hb j (by omega) h
        · obtain rfl : k = l.length := by omega
          exfalso
          obtain ⟨i, hi, h5⟩ := hex
          obtain ⟨j, hj, rfl⟩ := List.getElem_of_mem hi
          exact hb j hj hj h5)
      ([], 0) ⟨0, Nat.zero_le _, rfl, rfl, fun j hj => absurd hj (Nat.not_lt_zero _)⟩
    rw [e, hx]; rfl
theorem Values_nil (s C xs : List UInt8) (l : List Int) : syndrome_Values false s C xs l = some ([], 1) := by
  unfold syndrome_Values; rw [if_pos (by simp)]
theorem word_Zero_eq (b : List UInt8) (h : b.length ≤ most) : word_Zero b = some (decide (∀ x ∈ b, x = 0)) := by
  unfold word_Zero
  have hm := most_lt'
  rw [lim_of (by omega), Option.bind_some, anyO_all (fun y1 => word_Zero_1 y1) (fun x => !decide (x = 0)) b (fun x _ => rfl), Option.bind_some]
  congr 1
  by_cases h : ∀ x ∈ b, x = 0
  · rw [decide_eq_true h, Bool.not_eq_true', List.any_eq_false]
    intro x hx; simp [h x hx]
  · rw [decide_eq_false h, Bool.not_eq_false', List.any_eq_true]
    obtain ⟨x, hx⟩ := Classical.not_forall.1 h
    obtain ⟨h1, h2⟩ := Classical.not_imp.1 hx
    exact ⟨x, h1, by simpa using h2⟩
end Gk

/- What chapter 10's functions come to, in plain Lean. No condition but lengths. -/






set_option linter.unusedSimpArgs false
set_option linter.unusedVariables false
namespace Gk
open Gf

/-! ### Gao's way -/
theorem dg_lt_plus {p r : List UInt8} (h : dg r < dg p) : dg (pplus r p) = dg p := by
  refine Nat.le_antisymm (dg_pplus (Nat.le_of_lt h) (Nat.le_refl _)) (Nat.le_of_not_lt fun h2 => ?_)
  have h3 := dg_le.1 (Nat.le_refl (dg (pplus r p))) (dg p - 1) (by omega)
  rw [co_pplus, dg_le.1 (Nat.le_refl (dg r)) _ (by omega), zero_xor] at h3
  exact dg_top (by omega) h3
theorem tlen {p : List UInt8} (h : trim p = p) : dg p = p.length := by unfold dg; rw [h]
/-- What is true at each step. -/
structure Ga (xs ys : List UInt8) (t : Nat) (a b u v : List UInt8) : Prop where
  ta : trim a = a
  tb : trim b = b
  tu : trim u = u
  tv : trim v = v
  sum : a.length + v.length = xs.length + 2
  ba : b.length < a.length
  uv : u.length < v.length
  big : xs.length + t + 2 ≤ 2 * a.length
  ha : ∀ i, i < xs.length → evp a (co xs i) = mul (evp u (co xs i)) (co ys i)
  hb : ∀ i, i < xs.length → evp b (co xs i) = mul (evp v (co xs i)) (co ys i)
/-- The next step. -/
theorem Ga.next {xs ys a b u v q r : List UInt8} {t : Nat} (h : Ga xs ys t a b u v) (hc : xs.length + t + 2 ≤ 2 * b.length) (hq : trim q = q) (hr : trim r = r) (hlt : r.length < b.length) (hs : ∀ i, co a i = co r i ^^^ co (pmul q b) i) :
    q.length + b.length = a.length + 1 ∧ Ga xs ys t b r v (trim (pplus u (trim (pmul q v)))) := by
  have ta := tlen h.ta
  have tb := tlen h.tb
  have tu := tlen h.tu
  have tv := tlen h.tv
  have tq := tlen hq
  have tr := tlen hr
  have hba := h.ba
  have huv := h.uv
  have hsum := h.sum
  have hq0 : dg q ≠ 0 := fun h0 => by
    have : dg a = dg r := dg_sim fun i => by rw [hs i, pmul_zeroL (dg_zero h0) i, xor_zero]
    omega
  have h1 := dg_pmul_eq hq0 (show dg b ≠ 0 by omega)
  have h2 : dg a = dg (pmul q b) := by
    rw [← dg_lt_plus (r := r) (p := pmul q b) (by omega)]
    exact dg_sim fun i => by rw [hs i, co_pplus]
  have h3 := dg_pmul_eq hq0 (show dg v ≠ 0 by omega)
  have h4 : dg (trim (pplus u (trim (pmul q v)))) = dg (pmul q v) := by
    rw [dg_sim (trim_sim _), dg_sim (pplus_sim (Sim.refl u) (trim_sim (pmul q v))), dg_lt_plus (by omega)]
  have h5 := tlen (trim_trim (pplus u (trim (pmul q v))))
  refine ⟨by omega, h.tb, hr, h.tv, trim_trim _, by omega, hlt, by omega, hc, h.hb, fun i hi => ?_⟩
  rw [ev_trim, ev_pplus, ev_trim, ev_pmul, add_mul, ← h.ha i hi, mul_assoc, ← h.hb i hi, ← ev_pmul]
  have h6 := ev_sim a (pplus r (pmul q b)) (co xs i) (fun j => by rw [hs j, co_pplus])
  rw [h6, ev_pplus, xor_assoc, xor_self, xor_zero]
theorem gao_spec (xs ys : List UInt8) (t : Nat) (hl : xs.length = ys.length) (h1 : 1 ≤ t) (ht : t ≤ xs.length) (h255 : xs.length ≤ 255) (hn : xs.Nodup) :
    ∃ q ok, mend_gao true (t : Int) xs ys = some (q, ok) ∧ q.length ≤ 1000 ∧ (ok = true → dg q ≤ t ∧ trim q = q) ∧ ∀ P, dg P ≤ t → 2 * wr xs ys P xs.length ≤ xs.length - t → q = trim P ∧ ok = true := by
  obtain ⟨N, e1, t1, d1, v1⟩ := poly_Through_ok xs ys hl (by omega) h255 hn
  have hm := most_lt'
  have hh := h257
  have h1000 : 10000 ≤ most := by decide
  have lv := van_length xs
  have tN := tlen t1
  unfold mend_gao
  rw [poly_Vanish_eq xs h255, Option.bind_some, e1, Option.bind_some]
  obtain ⟨y, e2, b, v, rfl, a, u, hG, hc⟩ := iterC_inv (body := fun s10 : List UInt8 × List UInt8 × List UInt8 × List UInt8 => ((poly_Degree s10.2.1).bind fun r12 => (if (wI ((xs.length : Int) + (t : Int))) ≤ (wI (2 * r12)) then ((poly_DivMod true s10.1 s10.2.1).bind fun r15 => (if r15.2.2 = 0 then
      ((poly_Mul true r15.1 s10.2.2.2).bind fun r20 => ((poly_Add s10.2.2.1 r20.1).bind fun r23 => some (.inl (s10.2.1, r15.2.1, s10.2.2.2, r23)))) else some (.inr (.inr (([] : List UInt8), false))))) else some (.inr (.inl (s10.2.1, s10.2.2.2))))))
    (fun s => Ga xs ys t s.1 s.2.1 s.2.2.1 s.2.2.2) (fun s => s.1.length) (fun y : (List UInt8 × List UInt8) ⊕ (List UInt8 × Bool) => ∃ b v, y = .inl (b, v) ∧ ∃ a u, Ga xs ys t a b u v ∧ 2 * b.length ≤ xs.length + t + 1)
    (by
      rintro ⟨a, b, u, v⟩ hG
      simp only at hG ⊢
      have hba := hG.ba
      have hsum := hG.sum
      have huv := hG.uv
      have e3 : wI (2 * ((b.length : Int) - 1)) = 2 * ((b.length : Int) - 1) := wI_of (by omega) (by omega)
      rw [poly_Degree_eq b (by omega), hG.tb, Option.bind_some, e3, wI_add _ _ (by omega)]
      by_cases hc : xs.length + t + 2 ≤ 2 * b.length
      · have hb0 : trim b ≠ [] := fun e => by rw [hG.tb] at e; rw [e] at hc; simp at hc
        obtain ⟨q, r, e4, tq, tr, hlt, hs, hql⟩ := poly_DivMod_eq a b (by omega) (by omega) hb0
        rw [hG.tb] at hlt
        obtain ⟨h5, h6⟩ := hG.next hc tq tr hlt hs
        rw [if_pos (by omega), e4, Option.bind_some, if_pos rfl, poly_Mul_eq q v (by omega) (by omega) (.inr (.inr (by rw [tq, hG.tv]; omega))), Option.bind_some]
        have h7 := pmul_len q v
        have h8 := trim_le (pmul q v)
        rw [poly_Add_eq u _ (by omega) (by simp only; omega), Option.bind_some]
        exact .inl ⟨_, rfl, h6, hba⟩
      · rw [if_neg (by omega)]
        exact .inr ⟨_, rfl, b, v, rfl, a, u, hG, by omega⟩)
    (van xs, N, [], [1]) ⟨van_trim xs, t1, rfl, trim_one, by simp only [List.length_cons, List.length_nil]; omega, by simp only; omega, by simp, by simp only; omega, fun i hi => by
      rw [(van_root xs (co xs i)).2 (co_mem hi)]; exact (zero_mul _).symm, fun i hi => by rw [v1 i hi, ev_const, one_mul]⟩
  have hba := hG.ba
  have hsum := hG.sum
  have huv := hG.uv
  have hbig := hG.big
  have tv := tlen hG.tv
  have tb := tlen hG.tb
  have hv0 : trim v ≠ [] := fun e => by rw [hG.tv] at e; rw [e] at huv; simp at huv
  obtain ⟨q, r, e4, tq, tr, hlt, hs, hql⟩ := poly_DivMod_eq b v (by omega) (by omega) hv0
  rw [hG.tv] at hlt
  have tq' := tlen tq
  have tr' := tlen tr
  have hgood : ∀ P, dg P ≤ t → 2 * wr xs ys P xs.length ≤ xs.length - t → q = trim P ∧ r = [] := fun P hP hw => by
    have k1 := gao_key (b := b) (v := v) hn (t := t) hG.hb hP (by omega) (by omega)
    obtain ⟨k2, k3⟩ := div_uniq (r := r) (q := q) hs (by omega) k1
    exact ⟨by rw [← tq]; exact trim_ext _ _ k2, by rw [← tr]; exact trim_zero r k3⟩
  rw [e2, Option.bind_some]
  simp only [Sum.elim_inl]
  rw [e4, Option.bind_some]
  simp only
  rw [if_pos trivial]
  by_cases hr0 : r = []
  · rw [if_pos (by rw [hr0]; rfl), poly_Degree_eq q (by omega), tq, Option.bind_some]
    refine ⟨q, _, rfl, by omega, fun h => ⟨?_, tq⟩, fun P hP hw => ?_⟩
    · have := of_decide_eq_true h; omega
    · have := (hgood P hP hw).1
      refine ⟨this, decide_eq_true ?_⟩
      have h9 : dg q = dg P := by rw [this]; exact dg_sim (trim_sim P)
      omega
  · have hp := List.length_pos_iff.2 hr0
    rw [if_neg (by omega)]
    exact ⟨q, false, rfl, by omega, fun h => Bool.noConfusion h, fun P hP hw => absurd (hgood P hP hw).2 hr0⟩
theorem wrong_eq (p xs ys : List UInt8) (hl : xs.length = ys.length) (h : xs.length ≤ most) (hp : p.length ≤ most) : mend_wrong true p xs ys = some ((wr xs ys p xs.length : Nat) : Int) := by
  unfold mend_wrong
  have hm := most_lt'
  refine bind_of ?_ rfl
  refine iterC_count (fun i => (((wr xs ys p i : Nat) : Int), (i : Int))) xs.length _ rfl ?_ ?_
  · intro i hi
    have hle := wr_le xs ys p i
    simp only
    rw [if_pos (by omega), idx_co hi, Option.bind_some, idx_co (by omega), Option.bind_some, poly_Eval_eq _ _ hp, Option.bind_some, wI_succ i (by omega)]
    by_cases he : evp p (co xs i) = co ys i
    · rw [if_pos he, wr, if_pos he]; rfl
    · rw [if_neg he, wI_succ _ (by omega)]
      conv => rhs; rw [wr, if_neg he]
  · simp
theorem Radius_eq (n t : Nat) (h : t ≤ n) (hn : n ≤ 1000) : mend_Radius (n : Int) (t : Int) = some (((n - t) / 2 : Nat) : Int) := by
  unfold mend_Radius
  rw [if_neg (by omega), wI_sub _ _ h (by omega)]
  have := divI_nat (n - t) 2 (by decide) (by omega)
  rw [show ((2 : Nat) : Int) = 2 from rfl] at this
  rw [this, Option.bind_some]
/-- A polynomial that tells the column, but at few places. -/
def Good (t e : Nat) (xs ys P : List UInt8) : Prop := dg P ≤ t ∧ wr xs ys P xs.length ≤ e ∧ 2 * wr xs ys P xs.length ≤ xs.length - t
theorem Good.uniq {t e : Nat} {xs ys P Q : List UInt8} (hn : xs.Nodup) (ht : t ≤ xs.length) (h : Good t e xs ys P) (k : Good t e xs ys Q) : Sim P Q :=
  two_one (ys := ys) hn h.1 k.1 (by have := h.2.2; have := k.2.2; omega)
theorem column_spec (xs ys : List UInt8) (t : Nat) (e : Nat) (hl : xs.length = ys.length) (h1 : 1 ≤ t) (ht : t ≤ xs.length) (h255 : xs.length ≤ 255) (hn : xs.Nodup) :
    (∀ P, Good t e xs ys P → mend_column true (t : Int) xs ys (e : Int) = some (trim P, 0)) ∧ ((∀ P, ¬ Good t e xs ys P) → mend_column true (t : Int) xs ys (e : Int) = some ([], 11)) := by
  obtain ⟨q, ok, e1, hql, hok, hP⟩ := gao_spec xs ys t hl h1 ht h255 hn
  have hm := most_lt'
  have h1000 : 10000 ≤ most := by decide
  unfold mend_column
  rw [e1, Option.bind_some]
  simp only
  have hmin : (if (((xs.length - t) / 2 : Nat) : Int) < (e : Int) then (((xs.length - t) / 2 : Nat) : Int) else (e : Int)) = ((min e ((xs.length - t) / 2) : Nat) : Int) := minI _ _
  constructor
  · rintro P ⟨p1, p2, p3⟩
    obtain ⟨rfl, rfl⟩ := hP P p1 p3
    rw [if_neg (by decide), wrong_eq _ _ _ hl (by omega) (by omega), Option.bind_some, Radius_eq _ _ ht (by omega), Option.bind_some, hmin, wr_sim (trim_sim P), if_neg (by omega)]
  · intro hno
    cases ok with
    | false => rw [if_pos (by decide)]
    | true =>
      obtain ⟨k1, k2⟩ := hok rfl
      have := hno q
      rw [if_neg (by decide), wrong_eq _ _ _ hl (by omega) (by omega), Option.bind_some, Radius_eq _ _ ht (by omega), Option.bind_some, hmin, if_pos ?_]
      have h3 : ¬ (wr xs ys q xs.length ≤ e ∧ 2 * wr xs ys q xs.length ≤ xs.length - t) := fun h => this ⟨k1, h.1, h.2⟩
      omega
/-- May a column be mended? -/
def mcode (t : Int) (xs : List UInt8) (n e : Int) : Int := if (xs.length : Int) = n then (if t < 1 ∨ 255 < t ∨ e < 0 then 2 else if (xs.length : Int) < t then 5 else if xs.length = 0 then 5 else if 255 < xs.length then 4 else if xs.Nodup then 0 else 6) else 1
theorem mend_check_eq (t : Int) (xs : List UInt8) (n e : Int) (h : xs.length ≤ most) : mend_check true t xs n e = some (mcode t xs n e) := by
  unfold mend_check mcode
  rw [if_neg (by simp)]
  by_cases h1 : (xs.length : Int) = n
  · rw [if_pos h1, if_pos h1]
    by_cases h2 : t < 1
    · rw [if_pos h2, if_pos (.inl h2)]
    · rw [if_neg h2]
      by_cases h3 : 255 < t
      · rw [if_pos h3, if_pos (.inr (.inl h3))]
      · rw [if_neg h3]
        by_cases h4 : e < 0
        · rw [if_pos h4, if_pos (.inr (.inr h4))]
        · rw [if_neg h4, if_neg (show ¬ (t < 1 ∨ 255 < t ∨ e < 0) from not_or.2 ⟨h2, not_or.2 ⟨h3, h4⟩⟩)]
          by_cases h5 : (xs.length : Int) < t
          · rw [if_pos h5, if_pos h5]
          · rw [if_neg h5, if_neg h5]
            have hck := poly_check_eq xs h
            by_cases hok : xs.length ≠ 0 ∧ xs.length ≤ 255 ∧ xs.Nodup
            · obtain ⟨k0, k1, k2⟩ := hok
              rw [poly_Weights_eq xs 0 k0 k1 k2, Option.bind_some, if_neg k0, if_neg (by omega), if_pos k2]
            · rw [poly_Weights_bad xs 0 _ hck ?_, Option.bind_some]
              by_cases k0 : xs.length = 0
              · rw [if_pos k0]; decide
              · rw [if_neg k0]
                by_cases k1 : 255 < xs.length
                · rw [if_pos k1]; decide
                · rw [if_neg k1, if_neg (fun k2 => hok ⟨k0, by omega, k2⟩)]; decide
  · rw [if_neg h1, if_neg h1]
theorem mcode_ok {t : Int} {xs : List UInt8} {n e : Int} (hc : mcode t xs n e = 0) : (xs.length : Int) = n ∧ 1 ≤ t ∧ t ≤ (xs.length : Int) ∧ 0 ≤ e ∧ xs.length ≤ 255 ∧ xs.Nodup := by
  unfold mcode at hc
  split at hc
  · split at hc
    · cases hc
    · rename_i h1 h2
      split at hc
      · cases hc
      · split at hc
        · cases hc
        · split at hc
          · cases hc
          · split at hc
            · rename_i h3 h4 h5 h6
              refine ⟨h1, Int.not_lt.1 fun h => h2 (.inl h), by omega, Int.not_lt.1 fun h => h2 (.inr (.inr h)), by omega, h6⟩
            · cases hc
  · cases hc
theorem Column_bad (t : Int) (xs ys : List UInt8) (e : Int) (h : xs.length ≤ most) (hc : mcode t xs (ys.length : Int) e ≠ 0) : mend_Column true t xs ys e = some ([], mcode t xs (ys.length : Int) e) := by
  unfold mend_Column
  rw [mend_check_eq _ _ _ _ h, Option.bind_some, if_neg hc]
theorem Column_spec (t : Nat) (xs ys : List UInt8) (e : Nat) (hc : mcode (t : Int) xs (ys.length : Int) (e : Int) = 0) :
    (∀ P, Good t e xs ys P → mend_Column true (t : Int) xs ys (e : Int) = some (trim P, 0)) ∧ ((∀ P, ¬ Good t e xs ys P) → mend_Column true (t : Int) xs ys (e : Int) = some ([], 11)) := by
  obtain ⟨hl, h1, h2, _, h3, h4⟩ := mcode_ok hc
  have hh := h257
  have := column_spec xs ys t e (by omega) (by omega) (by omega) h3 h4
  unfold mend_Column
  rw [mend_check_eq _ _ _ _ (by omega), hc, Option.bind_some, if_pos rfl]
  refine ⟨fun P hP => by rw [this.1 P hP, Option.bind_some], fun hP => by rw [this.2 hP, Option.bind_some]⟩
end Gk

/- Chapter 8: unlike places, sums of shares, what shares of a dealing tell. No condition but lengths. -/


set_option linter.unusedSimpArgs false
set_option linter.unusedVariables false
namespace Gk
open Gf
/-- Bytes, cut or filled up with noughts. -/
def mad (b : List UInt8) (n : Nat) : List UInt8 := copyL (List.replicate n 0) 0 b
theorem mad_len (b : List UInt8) (n : Nat) : (mad b n).length = n := by
  have := copyL_len (List.replicate n (0 : UInt8)) 0 b (Nat.zero_le _)
  simpa [mad] using this
theorem Made_eq (b : List UInt8) (n : Nat) (h : n ≤ most) : law08_Made b (n : Int) = some (mad b n) := by
  unfold law08_Made
  rw [makeL_nat _ _ h]; rfl

/-! ### Unlike places -/
theorem nodup_sub_len {α : Type} [DecidableEq α] : ∀ l m : List α, l.Nodup → (∀ a ∈ l, a ∈ m) → l.length ≤ m.length
  | [], m, _, _ => Nat.zero_le _
  | a :: l, m, hn, hs => by
    rw [List.nodup_cons] at hn
    have ha : a ∈ m := hs a (by simp)
    have := nodup_sub_len l (m.erase a) hn.2 (fun b hb => by
      have hne : b ≠ a := fun e => hn.1 (e ▸ hb)
      exact (List.mem_erase_of_ne hne).2 (hs b (by simp [hb])))
    rw [List.length_erase_of_mem ha] at this
    have hpos := List.length_pos_of_mem ha
    simp only [List.length_cons]; omega
theorem mget_mput (m : List (UInt8 × Bool)) (k a : UInt8) : mget (mput m k true) a = (decide (a = k) || mget m a) := by
  unfold mput
  split
  · rename_i hk
    unfold mget
    rw [List.find?_map]
    have hf : ((fun p : UInt8 × Bool => p.1 == a) ∘ fun p => if p.1 = k then (p.1, true) else p) = (fun p => p.1 == a) := by
      funext p; simp only [Function.comp]; split <;> rfl
    rw [hf]
    cases hm : m.find? (fun p => p.1 == a) with
    | none =>
      by_cases hak : a = k
      · subst hak
        obtain ⟨p, hp, e⟩ := List.mem_map.1 hk
        have := List.find?_eq_none.1 hm p hp
        simp [e] at this
      · simp [hak]
    | some p =>
      have hp : p.1 = a := by simpa using List.find?_some hm
      by_cases hak : a = k
      · subst hak; simp [hp]
      · have : p.1 ≠ k := fun e => hak (hp.symm.trans e)
        simp [hak, this]
  · rename_i hk
    unfold mget
    rw [List.find?_append]
    cases hm : m.find? (fun p => p.1 == a) with
    | none =>
      by_cases hak : a = k
      · subst hak; simp
      · simp [hak, Ne.symm hak]
    | some p =>
      have hp : p.1 = a := by simpa using List.find?_some hm
      have : a ≠ k := fun e => hk (List.mem_map.2 ⟨p, List.mem_of_find?_eq_some hm, hp.trans e⟩)
      simp [this]
theorem in_eq (out : List UInt8) (x : UInt8) (h : out.length ≤ most) : iterC (fun s30 : Bool × Int => (if s30.2 < (out.length : Int) then ((idx out s30.2).bind fun c33 => (if s30.1 = true then some (.inl (true, (wI (s30.2 + 1)))) else some (.inl ((decide (x = c33)), (wI (s30.2 + 1)))))) else some (.inr s30.1))) (false, 0) = some (decide (x ∈ out)) := by
  have hm := most_lt'
  refine iterC_count (fun i => (decide (x ∈ out.take i), (i : Int))) out.length _ (by simp) ?_ ?_
  · intro i hi
    simp only
    rw [if_pos (by omega), idx_co hi, Option.bind_some, wI_succ i (by omega), take_snoc hi]
    by_cases hin : x ∈ out.take i
    · rw [if_pos (by simpa using hin)]; simp [hin]
    · rw [if_neg (by simpa using hin)]; simp [hin]
  · simp
theorem Unlike_eq (b : List UInt8) (n : Nat) (hn : n ≤ 200) (hb : b.length ≤ 9223372036854775807) : ∃ r, law08_Unlike b (n : Int) = some r ∧ r.length = n ∧ r.Nodup ∧ (0 : UInt8) ∉ r := by
  unfold law08_Unlike
  have hmo := most_lt'
  have h1000 : 1000 ≤ most := by decide
  obtain ⟨out, e1, o1, o2, o3⟩ := iterC_inv (body := fun s6 : (List (UInt8 × Bool)) × List UInt8 × Int => (if s6.2.2 < (b.length : Int) then ((idx b s6.2.2).bind fun c9 => (if (!((mget s6.1 c9))) = true then (if (s6.2.1.length : Int) < (n : Int) then ((appL s6.2.1 (([c9] : List UInt8))).bind fun c14 =>
      some (.inl ((mput s6.1 c9 true), c14, (wI (s6.2.2 + 1))))) else some (.inl ((mput s6.1 c9 true), s6.2.1, (wI (s6.2.2 + 1))))) else some (.inl ((mput s6.1 c9 true), s6.2.1, (wI (s6.2.2 + 1)))))) else some (.inr s6.2.1)))
    (fun s => ∃ i : Nat, i ≤ b.length ∧ s.2.2 = (i : Int) ∧ (∀ a, a = 0 ∨ a ∈ s.2.1 → mget s.1 a = true) ∧ s.2.1.Nodup ∧ (0 : UInt8) ∉ s.2.1 ∧ s.2.1.length ≤ n) (fun s => b.length - s.2.2.toNat)
    (fun out : List UInt8 => out.Nodup ∧ (0 : UInt8) ∉ out ∧ out.length ≤ n)
    (by
      rintro ⟨m, out, _⟩ ⟨i, hi, rfl, h1, h2, h3, h4⟩
      simp only at h1 h2 h3 h4 ⊢
      by_cases hlt : i < b.length
      · have keep : ∀ a, a = 0 ∨ a ∈ out → mget (mput m (co b i) true) a = true := fun a ha => by rw [mget_mput, h1 a ha, Bool.or_true]
        rw [if_pos (by omega), idx_co hlt, Option.bind_some, wI_succ i (by omega)]
        by_cases hg : mget m (co b i) = true
        · rw [if_neg (by simp [hg])]
          exact .inl ⟨_, rfl, ⟨i + 1, hlt, rfl, keep, h2, h3, h4⟩, by simp only [Int.toNat_natCast]; omega⟩
        · rw [if_pos (by simp [hg])]
          by_cases hln : (out.length : Int) < (n : Int)
          · have hni : co b i ∉ out := fun h => hg (h1 _ (.inr h))
            have hn0 : co b i ≠ 0 := fun e => hg (h1 _ (.inl e))
            unfold appL
            rw [if_pos hln, if_pos (by simp; omega), Option.bind_some]
            refine .inl ⟨_, rfl, ⟨i + 1, hlt, rfl, fun a ha => ?_, ?_, ?_, ?_⟩, by simp only [Int.toNat_natCast]; omega⟩
            · rw [mget_mput]
              rcases ha with ha | ha
              · rw [h1 a (.inl ha), Bool.or_true]
              · rcases List.mem_append.1 ha with ha | ha
                · rw [h1 a (.inr ha), Bool.or_true]
                · rw [List.mem_singleton.1 ha]; simp
            · rw [List.nodup_append]
              refine ⟨h2, by simp, ?_⟩
              intro a ha c hc e
              rw [List.mem_singleton] at hc
              subst hc; subst e; exact hni ha
            · simp only [List.mem_append, List.mem_singleton, not_or]
              exact ⟨h3, Ne.symm hn0⟩
            · simp; omega
          · rw [if_neg hln]
            exact .inl ⟨_, rfl, ⟨i + 1, hlt, rfl, keep, h2, h3, h4⟩, by simp only [Int.toNat_natCast]; omega⟩
      · obtain rfl : i = b.length := by omega
        rw [if_neg (by omega)]
        exact .inr ⟨_, rfl, h2, h3, h4⟩) (mput [] 0 true, [], 0) ⟨0, Nat.zero_le _, rfl, fun a ha => by
      rcases ha with rfl | ha
      · rfl
      · simp at ha, by simp, by simp, by simp⟩
  rw [e1, Option.bind_some]
  obtain ⟨r, e2, r1, r2, r3⟩ := iterC_inv (body := fun s26 : List UInt8 × UInt8 => (if (s26.1.length : Int) < (n : Int) then (if (0 : UInt8) < s26.2 then ((iterC (fun s30 : Bool × Int => (if s30.2 < (s26.1.length : Int) then ((idx s26.1 s30.2).bind fun c33 => (if s30.1 = true then some (.inl (true, (wI (s30.2 + 1)))) else some (.inl ((decide (s26.2 = c33)), (wI (s30.2 + 1)))))) else some (.inr s30.1))) (false, 0)).bind fun x30 =>
      (if (!x30) = true then ((appL s26.1 (([s26.2] : List UInt8))).bind fun c40 => some (.inl (c40, (s26.2 + (1 : UInt8))))) else some (.inl (s26.1, (s26.2 + (1 : UInt8)))))) else some (.inr s26.1)) else some (.inr s26.1)))
    (fun s => s.1.Nodup ∧ (0 : UInt8) ∉ s.1 ∧ s.1.length ≤ n ∧ ∃ k : Nat, 1 ≤ k ∧ k ≤ 256 ∧ s.2 = UInt8.ofNat k ∧ ∀ y : UInt8, 1 ≤ y.toNat → y.toNat < k → y ∈ s.1) (fun s => if s.2 = 0 then 0 else 256 - s.2.toNat)
    (fun r : List UInt8 => r.length = n ∧ r.Nodup ∧ (0 : UInt8) ∉ r)
    (by
      rintro ⟨out, x⟩ ⟨h1, h2, h3, k, k1, k2, hk, hall⟩
      simp only at h1 h2 h3 hk hall ⊢
      by_cases hln : (out.length : Int) < (n : Int)
      · rw [if_pos hln]
        by_cases hx : (0 : UInt8) < x
        · have hk256 : k < 256 := by
            rcases Nat.lt_or_ge k 256 with h | h
            · exact h
            · obtain rfl : k = 256 := by omega
              rw [hk] at hx; exact absurd hx (by decide)
          have hxk : x.toNat = k := by rw [hk, UInt8.toNat_ofNat']; omega
          have hx0 : x ≠ 0 := fun e => by rw [e] at hxk; simp at hxk; omega
          have hx1 : x + 1 = UInt8.ofNat (k + 1) := by rw [hk]; apply UInt8.toNat_inj.1; simp
          have hmeas : (if x + 1 = 0 then 0 else 256 - (x + 1).toNat) < (if x = 0 then 0 else 256 - x.toNat) := by
            rw [if_neg hx0, hxk]
            split
            · omega
            · rename_i h9
              have : (x + 1).toNat = k + 1 := by
                rw [hx1, UInt8.toNat_ofNat']
                have : k + 1 ≠ 256 := fun e => h9 (by rw [hx1, e]; rfl)
                omega
              omega
          rw [if_pos hx, in_eq out x (by omega), Option.bind_some]
          by_cases hin : x ∈ out
          · rw [if_neg (by simp [hin])]
            refine .inl ⟨_, rfl, ⟨h1, h2, h3, k + 1, by omega, by omega, hx1, fun y hy1 hy2 => ?_⟩, hmeas⟩
            by_cases hyk : y.toNat = k
            · rw [UInt8.toNat_inj.1 (hyk.trans hxk.symm)]; exact hin
            · exact hall y hy1 (by omega)
          · unfold appL
            rw [if_pos (by simp [hin]), if_pos (by simp; omega), Option.bind_some]
            refine .inl ⟨_, rfl, ⟨?_, ?_, by simp; omega, k + 1, by omega, by omega, hx1, fun y hy1 hy2 => ?_⟩, hmeas⟩
            · rw [List.nodup_append]
              refine ⟨h1, by simp, ?_⟩
              intro a ha c hc e
              rw [List.mem_singleton] at hc
              subst hc; subst e; exact hin ha
            · simp only [List.mem_append, List.mem_singleton, not_or]
              exact ⟨h2, Ne.symm hx0⟩
            · by_cases hyk : y.toNat = k
              · rw [UInt8.toNat_inj.1 (hyk.trans hxk.symm)]; simp
              · exact List.mem_append_left _ (hall y hy1 (by omega))
        · rw [if_neg hx]
          exfalso
          have hx0 : x = 0 := by
            apply UInt8.toNat_inj.1
            have : ¬ (0 : UInt8).toNat < x.toNat := fun h => hx (UInt8.lt_iff_toNat_lt.2 h)
            simp at this ⊢; exact this
          have hk256 : k = 256 := by
            have : (UInt8.ofNat k).toNat = 0 := by rw [← hk, hx0]; rfl
            rw [UInt8.toNat_ofNat'] at this
            omega
          have := nodup_sub_len E out E_nodup (fun a ha => hall a (by
            have : a ≠ 0 := fun e => E_ne (e ▸ ha)
            have h0 : a.toNat ≠ 0 := fun e => this (UInt8.toNat_inj.1 e)
            omega) (by rw [hk256]; exact a.toNat_lt))
          rw [E_len] at this
          omega
      · rw [if_neg hln]
        exact .inr ⟨_, rfl, by omega, h1, h2⟩) (out, 1) ⟨o1, o2, o3, 1, Nat.le_refl _, by decide, rfl, fun y h1 h2 => by omega⟩
  rw [e2, Option.bind_some]
  exact ⟨r, rfl, r1, r2, r3⟩

/-! ### Sums -/
theorem co_pplus_eq {p q : List UInt8} (h : p.length = q.length) : (pplus p q).length = p.length := by rw [pplus_len]; omega
/-- A loop that adds q to what lies there, number by number. -/
theorem xorLoop (p q : List UInt8) (h : p.length = q.length) {body : List UInt8 × Int → Option ((List UInt8 × Int) ⊕ List UInt8)} (n : Nat) (hn : n = p.length)
    (hb1 : ∀ (s : List UInt8) (i : Nat), i < n → s.length = p.length → body (s, (i : Int)) = some (.inl (s.set i (co s i ^^^ co q i), ((i + 1 : Nat) : Int))))
    (hb2 : ∀ s : List UInt8, body (s, (n : Int)) = some (.inr s)) : iterC body (p, 0) = some (pplus p q) := by
  subst hn
  obtain ⟨x, e1, e2⟩ := iterC_up (s0 := p) (fun i s => s.length = p.length ∧ ∀ j, co s j = co p j ^^^ (if j < i then co q j else 0)) p.length (fun x : List UInt8 => x = pplus p q)
    (body := body) ⟨rfl, fun j => by rw [if_neg (by omega), xor_zero]⟩
    (fun i s hi hI => by
      obtain ⟨hl, hs⟩ := hI
      refine ⟨_, hb1 s i hi hl, by simpa using hl, fun j => ?_⟩
      rw [co_set (by omega)]
      by_cases hj : j = i
      · subst hj; rw [if_pos rfl, hs j, if_neg (by omega), if_pos (by omega), xor_zero]
      · rw [if_neg hj, hs j]
        have : j < i + 1 ↔ j < i := by omega
        simp only [this])
    (fun s hI => ⟨s, hb2 s, eq_of_co (by rw [hI.1, co_pplus_eq h]) (fun j => by
      rw [hI.2 j, co_pplus]
      split
      · rfl
      · rw [co_ge (show q.length ≤ j by omega)])⟩)
  rw [e1, e2]
theorem Xor_eq (p q : List UInt8) (h : p.length = q.length) (hp : p.length ≤ most) : word_Xor p q = some (pplus p q) := by
  unfold word_Xor
  have hm := most_lt'
  have hmin : (if (q.length : Int) < (p.length : Int) then (q.length : Int) else (p.length : Int)) = (p.length : Int) := by split <;> omega
  rw [hmin, makeL_nat _ _ hp, Option.bind_some]
  obtain ⟨x, e1, e2⟩ := iterC_up (s0 := List.replicate p.length (0 : UInt8)) (fun i s => s.length = p.length ∧ ∀ j, co s j = if j < i then co p j ^^^ co q j else 0) p.length (fun x : List UInt8 => x = pplus p q)
    (body := fun s4 : List UInt8 × Int => (if s4.2 < ((List.replicate p.length (0 : UInt8)).length : Int) then ((idx p s4.2).bind fun c9 => ((idx q s4.2).bind fun c10 => ((idx s4.1 s4.2).bind fun c11 => some (.inl ((s4.1.set (s4.2 : Int).toNat ((c9 ^^^ c10))), (wI (s4.2 + 1))))))) else some (.inr s4.1)))
    ⟨by simp, fun j => by rw [co_rep, if_neg (by omega)]⟩
    (fun i s hi hI => by
      obtain ⟨hl, hs⟩ := hI
      refine ⟨s.set i (co p i ^^^ co q i), ?_, by simpa using hl, fun j => ?_⟩
      · simp only
        rw [if_pos (by rw [List.length_replicate]; omega), idx_co hi, Option.bind_some, idx_co (by omega), Option.bind_some, idx_co (by omega), Option.bind_some, wI_succ i (by omega), Int.toNat_natCast]
      · rw [co_set (by omega)]
        by_cases hj : j = i
        · subst hj; rw [if_pos rfl, if_pos (by omega)]
        · rw [if_neg hj, hs j]
          have : j < i + 1 ↔ j < i := by omega
          simp only [this])
    (fun s hI => ⟨s, by simp, eq_of_co (by rw [hI.1, co_pplus_eq h]) (fun j => by
      rw [hI.2 j, co_pplus]
      split
      · rfl
      · rw [co_ge (show p.length ≤ j by omega), co_ge (show q.length ≤ j by omega), xor_zero])⟩)
  rw [e1, Option.bind_some, e2]
theorem pplus_comm_eq {p q : List UInt8} (h : p.length = q.length) : pplus p q = pplus q p := eq_of_co (by rw [co_pplus_eq h, co_pplus_eq h.symm, h]) (fun i => by rw [co_pplus, co_pplus, xor_comm])
/-- Shares of sums are sums of shares. -/
theorem shr_add (s s' m m' : List UInt8) (q : Nat) (x : UInt8) (h : s.length = s'.length) : pplus (shr s m q x) (shr s' m' q x) = shr (pplus s s') (pplus m m') q x := by
  have hl := co_pplus_eq h
  refine eq_of_co (by rw [co_pplus_eq (by rw [shr_len, shr_len, h]), shr_len, shr_len, hl]) fun i => ?_
  rw [co_pplus]
  by_cases hi : i < s.length
  · rw [co_shr _ _ _ _ _ hi, co_shr _ _ _ _ _ (by omega), co_shr _ _ _ _ _ (by omega), ← ev_pplus]
    refine ev_sim _ _ x fun j => ?_
    rw [co_pplus]
    cases j with
    | zero => simp only [colp, co_zero, co_pplus]
    | succ j =>
      simp only [colp, co_succ]
      by_cases hj : j < q
      · rw [co_rowsp _ _ _ _ _ hj, co_rowsp _ _ _ _ _ hj, co_rowsp _ _ _ _ _ hj, co_pplus, hl, ← h]
      · rw [co_ge (by rw [rowsp_len]; omega), co_ge (by rw [rowsp_len]; omega), co_ge (by rw [rowsp_len]; omega), xor_zero]
  · rw [co_ge (by rw [shr_len]; omega), co_ge (by rw [shr_len]; omega), co_ge (by rw [shr_len]; omega), xor_zero]
/-- Enough shares tell any place. -/
theorem atv_shr (s m : List UInt8) (q : Nat) (F : List UInt8) (x : UInt8) (hn : F.Nodup) (hq : q + 1 ≤ F.length) : atv F (F.map (shr s m q)) s.length x = shr s m q x := by
  refine eq_of_co (by simp [atv, shr_len]) fun i => ?_
  unfold atv
  rw [co_tab]
  by_cases hi : i < s.length
  · rw [if_pos hi, co_shr _ _ _ _ _ hi, lagrange hn (p := colp s m q i) (Nat.le_trans (dg_len _) (by rw [colp_len]; exact hq)) x]
    refine sm_congr _ fun k hk => ?_
    have : (F.map (shr s m q)).getD k [] = shr s m q (co F k) := by
      rw [List.getD_eq_getElem?_getD, List.getElem?_map, co_get hk]; rfl
    rw [this, co_shr _ _ _ _ _ hi]
  · rw [if_neg hi, co_ge (by rw [shr_len]; omega)]
/-- At 0 lies the secret. -/
theorem shr_zero (s m : List UInt8) (q : Nat) : shr s m q 0 = s := by
  refine eq_of_co (shr_len _ _ _ _) fun i => ?_
  by_cases hi : i < s.length
  · rw [co_shr _ _ _ _ _ hi]
    show co s i ^^^ mul _ 0 = co s i
    rw [mul_zero, xor_zero]
  · rw [co_ge (by rw [shr_len]; omega), co_ge (by omega)]
end Gk

/- Syndromes and the errors behind them. No condition but lengths. -/



set_option linter.unusedSimpArgs false
set_option linter.unusedVariables false
namespace Gk
open Gf

/-- The places, by number, where the values aren't the polynomial's. -/
def wix (xs ys P : List UInt8) (n : Nat) : List Nat := (List.range n).filter fun i => decide (evp P (co xs i) ≠ co ys i)
/-- The places themselves. -/
def wxs (xs ys P : List UInt8) : List UInt8 := (wix xs ys P xs.length).map (co xs)
theorem mem_wix {xs ys P : List UInt8} {n i : Nat} : i ∈ wix xs ys P n ↔ i < n ∧ evp P (co xs i) ≠ co ys i := by simp [wix]
theorem wix_succ (xs ys P : List UInt8) (n : Nat) : wix xs ys P (n + 1) = if evp P (co xs n) = co ys n then wix xs ys P n else wix xs ys P n ++ [n] := by
  unfold wix
  rw [List.range_succ, List.filter_append]
  by_cases h : evp P (co xs n) = co ys n
  · rw [if_pos h]; simp [h]
  · rw [if_neg h]; simp [h]
theorem wix_len (xs ys P : List UInt8) : ∀ n, (wix xs ys P n).length = wr xs ys P n
  | 0 => rfl
  | n + 1 => by
    rw [wix_succ, wr]
    split
    · rw [wix_len xs ys P n, Nat.add_zero]
    · rw [List.length_append, wix_len xs ys P n]; rfl
theorem mem_wxs {xs ys P : List UInt8} (hn : xs.Nodup) {i : Nat} (hi : i < xs.length) : co xs i ∈ wxs xs ys P ↔ evp P (co xs i) ≠ co ys i := by
  unfold wxs
  rw [List.mem_map]
  constructor
  · rintro ⟨j, hj, e⟩
    obtain ⟨h1, h2⟩ := mem_wix.1 hj
    rw [co_inj hn h1 hi e] at h2
    exact h2
  · intro h; exact ⟨i, mem_wix.2 ⟨hi, h⟩, rfl⟩
theorem wxs_nodup {xs ys P : List UInt8} (hn : xs.Nodup) : (wxs xs ys P).Nodup := by
  unfold wxs
  refine List.pairwise_map.2 ?_
  have h1 : (wix xs ys P xs.length).Nodup := List.Nodup.sublist List.filter_sublist List.nodup_range
  refine h1.imp_of_mem fun ha hb hne e => hne (co_inj hn (mem_wix.1 ha).1 (mem_wix.1 hb).1 e)
theorem wxs_mem {xs ys P : List UInt8} {a : UInt8} (h : a ∈ wxs xs ys P) : a ∈ xs := by
  unfold wxs at h
  obtain ⟨j, hj, rfl⟩ := List.mem_map.1 h
  exact co_mem (mem_wix.1 hj).1
theorem wxs_len (xs ys P : List UInt8) : (wxs xs ys P).length = wr xs ys P xs.length := by unfold wxs; rw [List.length_map, wix_len]
/-- What an error counts in the syndromes. -/
def ew (xs ys P : List UInt8) (i : Nat) : UInt8 := mul (wgt xs i) (co ys i ^^^ evp P (co xs i))
theorem syk_errors {xs ys P : List UInt8} {t : Nat} (hn : xs.Nodup) (hP : dg P ≤ t) (ht : t ≤ xs.length) (k : Nat) (hk : k < xs.length - t) : syk xs ys k = psum (co xs) (ew xs ys P) xs.length k := by
  have h1 : syk xs ((List.range xs.length).map fun i => evp P (co xs i)) k = 0 :=
    (syk_zero hn _ P t (fun i hi => by rw [co_tab, if_pos hi]) (Nat.le_trans hP ht) ht).2 hP k hk
  have h2 : syk xs ys k = psum (co xs) (ew xs ys P) xs.length k ^^^ syk xs ((List.range xs.length).map fun i => evp P (co xs i)) k := by
    unfold syk psum
    rw [← sm_add]
    refine sm_congr _ fun i hi => ?_
    rw [co_tab, if_pos hi, ← add_mul]
    unfold ew
    rw [← mul_add, xor_assoc, xor_self, xor_zero]
  rw [h2, h1, xor_zero]
/-- The syndromes' locator is that of the errors, where they are few enough. -/
theorem loc_errors {xs ys P C : List UInt8} {t L : Nat} (hn : xs.Nodup) (h0 : (0 : UInt8) ∉ xs) (hP : dg P ≤ t) (ht : t ≤ xs.length) (hw : 2 * wr xs ys P xs.length ≤ xs.length - t) (hC : Loc (synd xs ys (xs.length - t)) C L) :
    Sim C (lol (wxs xs ys P)) := by
  have hX : ∀ j, j < xs.length → co xs j ≠ 0 := fun j hj e => h0 (e ▸ co_mem hj)
  have hs : ∀ k, k < xs.length - t → co (synd xs ys (xs.length - t)) k = psum (co xs) (ew xs ys P) xs.length k := fun k hk => by
    unfold synd
    rw [co_tab, if_pos hk]
    exact syk_errors hn hP ht k hk
  have hz : ∀ j, j < xs.length → co xs j ∉ wxs xs ys P → ew xs ys P j = 0 := fun j hj hm => by
    have : evp P (co xs j) = co ys j := Classical.not_not.1 fun h => hm ((mem_wxs hn hj).2 h)
    unfold ew
    rw [this, xor_self, mul_zero]
  have hlen := wxs_len xs ys P
  have hL : L ≤ (wxs xs ys P).length := hC.least (lol (wxs xs ys P)) _ (dg_lol _) (lol_one _) (fun k h1 h2 => lol_makes hX hs hz k h1 (by rw [synd_len] at h2; exact h2))
  refine loc_found hX (fun i j hi hj e => co_inj hn hi hj e) hs (wxs_nodup hn) (fun a ha => ?_) hz (by omega) hL hC.dgn hC.one (fun k h1 h2 => hC.mks k h1 (by rw [synd_len]; exact h2))
  unfold wxs at ha
  obtain ⟨j, hj, rfl⟩ := List.mem_map.1 ha
  obtain ⟨h1, h2⟩ := mem_wix.1 hj
  refine ⟨j, h1, rfl, mul_ne (inv_ne (pe_ne hn h1 _ (Nat.le_refl _))) (fun e => h2 (xor_eq_zero e).symm)⟩
theorem dg_lol_eq : ∀ E : List UInt8, (0 : UInt8) ∉ E → dg (lol E) = E.length + 1
  | [], _ => by
    show dg [1] = 1
    unfold dg
    rw [trim_id (fun _ => by show (1 : UInt8) ≠ 0; decide)]; rfl
  | a :: E, h => by
    have ih := dg_lol_eq E (fun h' => h (by simp [h']))
    have ha : a ≠ 0 := fun e => h (by simp [e])
    have h2 : dg [1, a] = 2 := by
      unfold dg
      rw [trim_id (fun _ => by show a ≠ 0; exact ha)]; rfl
    show dg (pmul (lol E) [1, a]) = _
    rw [dg_pmul_eq (by omega) (by omega), ih, h2, List.length_cons]; omega
section
variable {xs ys P C : List UInt8} {t L : Nat} (hn : xs.Nodup) (h0 : (0 : UInt8) ∉ xs) (hP : dg P ≤ t) (ht : t ≤ xs.length) (hw : 2 * wr xs ys P xs.length ≤ xs.length - t) (hC : Loc (synd xs ys (xs.length - t)) C L)
include hn h0 hP ht hw hC
/-- It locates just the errors. -/
theorem lcs_errors : lcs C xs xs.length = wix xs ys P xs.length := by
  have h1 := loc_errors hn h0 hP ht hw hC
  unfold lcs wix
  refine List.filter_congr fun i hi => ?_
  have hi' := List.mem_range.1 hi
  have hne : co xs i ≠ 0 := fun e => h0 (e ▸ co_mem hi')
  refine decide_eq_decide.2 ⟨fun ⟨_, h⟩ => ?_, fun h => ⟨hne, ?_⟩⟩
  · rw [ev_sim _ _ _ h1] at h
    exact (mem_wxs hn hi').1 ((ev_lol hne _).1 h)
  · rw [ev_sim _ _ _ h1]
    exact (ev_lol hne _).2 ((mem_wxs hn hi').2 h)
theorem dg_errors : dg C = wr xs ys P xs.length + 1 := by
  rw [dg_sim (loc_errors hn h0 hP ht hw hC), dg_lol_eq _ (fun h => h0 (wxs_mem h)), wxs_len]
/-- It tells by how much. -/
theorem vlu_errors {i : Nat} (hi : i ∈ wix xs ys P xs.length) : dwn C xs i ≠ 0 ∧ vlu (synd xs ys (xs.length - t)) C xs i = co ys i ^^^ evp P (co xs i) := by
  have h1 := loc_errors hn h0 hP ht hw hC
  obtain ⟨hi1, hi2⟩ := mem_wix.1 hi
  have hX : ∀ j, j < xs.length → co xs j ≠ 0 := fun j hj e => h0 (e ▸ co_mem hj)
  have hs : ∀ k, k < xs.length - t → co (synd xs ys (xs.length - t)) k = psum (co xs) (ew xs ys P) xs.length k := fun k hk => by
    unfold synd
    rw [co_tab, if_pos hk]
    exact syk_errors hn hP ht k hk
  have hz : ∀ j, j < xs.length → co xs j ∉ wxs xs ys P → ew xs ys P j = 0 := fun j hj hm => by
    have : evp P (co xs j) = co ys j := Classical.not_not.1 fun h => hm ((mem_wxs hn hj).2 h)
    unfold ew
    rw [this, xor_self, mul_zero]
  have hE0 : (0 : UInt8) ∉ wxs xs ys P := fun h => h0 (wxs_mem h)
  have hm := (mem_wxs (ys := ys) (P := P) hn hi1).2 hi2
  have hom : ∀ k, co (om (synd xs ys (xs.length - t)) C) k = if k < xs.length - t then co (pmul (lol (wxs xs ys P)) (synd xs ys (xs.length - t))) k else 0 := fun k => by
    unfold om
    rw [co_take, synd_len, co_trim]
    split
    · rw [← pmul_simL _ _ _ h1 k]
      have e1 := pmul_left_comm (synd xs ys (xs.length - t)) C [1]
      have one : ∀ p : List UInt8, Sim (pmul p [1]) p := fun p => by
        induction p with
        | nil => exact Sim.refl _
        | cons c p ih =>
          intro i
          cases i with
          | zero => rw [co_pmul_zero, co_zero, co_zero, mul_one]
          | succ i => rw [co_pmul_succ, co_succ, co_nil, mul_zero, zero_xor, ih i, co_succ]
      rw [← pmul_simR (synd xs ys (xs.length - t)) _ _ (one C) k, e1 k, pmul_simR C _ _ (one _) k]
    · rfl
  have hat := omega_at (om := om (synd xs ys (xs.length - t)) C) hX (fun i j hi hj e => co_inj hn hi hj e) hs (wxs_nodup hn) hE0 hz (by rw [wxs_len]; omega) hom hi1 hm
  have hg : wgt xs i ≠ 0 := inv_ne (pe_ne hn hi1 _ (Nat.le_refl _))
  have hf := forney (wxs_nodup hn) hE0 hm hg (show ew xs ys P i = mul (wgt xs i) (co ys i ^^^ evp P (co xs i)) from rfl) hat
  have hd : dwn C xs i = mul (evp (der (lol (wxs xs ys P))) (inv (co xs i))) (wgt xs i) := by
    unfold dwn
    rw [ev_sim _ _ _ (der_sim h1)]
  exact ⟨by rw [hd]; exact hf.1, by unfold vlu; rw [hd]; exact hf.2⟩
end

/-! ### Put right -/
/-- The polynomial through all places. -/
def thr (xs ys : List UInt8) : List UInt8 := lag xs (fun i => mul (co ys i) (inv (pe xs i (co xs i) xs.length))) xs.length
theorem dg_thr (xs ys : List UInt8) : dg (thr xs ys) ≤ xs.length := dg_lag _ _ _ (Nat.le_refl _)
theorem ev_thr {xs : List UInt8} (ys : List UInt8) (hn : xs.Nodup) {i : Nat} (hi : i < xs.length) : evp (thr xs ys) (co xs i) = co ys i := lag_at hn (co ys) hi
theorem synd_zero {xs : List UInt8} (ys : List UInt8) {t : Nat} (hn : xs.Nodup) (ht : t ≤ xs.length) : (∀ x ∈ synd xs ys (xs.length - t), x = 0) ↔ dg (thr xs ys) ≤ t := by
  rw [← syk_zero hn ys (thr xs ys) t (fun i hi => ev_thr ys hn hi) (dg_thr xs ys) ht]
  unfold synd
  constructor
  · intro h k hk; exact h _ (List.mem_map.2 ⟨k, List.mem_range.2 hk, rfl⟩)
  · intro h x hx
    obtain ⟨k, hk, rfl⟩ := List.mem_map.1 hx
    exact h k (List.mem_range.1 hk)
/-- How the values are put right at these places. -/
theorem fix_loop (ys by' : List UInt8) (l : List Nat) (hnd : l.Nodup) (hl : ∀ i ∈ l, i < ys.length) (hb : by'.length = l.length) (hll : l.length ≤ 1000) :
    ∃ out, iterC (fun s23 : List UInt8 × Int => (if s23.2 < ((ints l).length : Int) then ((idx (ints l) s23.2).bind fun c26 => ((idx s23.1 c26).bind fun c29 => ((idx by' s23.2).bind fun c30 => ((field_Add c29 c30).bind fun r31 => some (.inl ((s23.1.set (c26 : Int).toNat r31), (wI (s23.2 + 1)))))))) else some (.inr s23.1))) (ys, 0) = some out ∧
      out.length = ys.length ∧ (∀ j, j ∉ l → co out j = co ys j) ∧ ∀ k (h : k < l.length), co out l[k] = co ys l[k] ^^^ co by' k := by
  obtain ⟨out, e, h1, h2, h3⟩ := iterC_up (s0 := ys) (fun i (s : List UInt8) => s.length = ys.length ∧ (∀ j, j ∉ l.take i → co s j = co ys j) ∧ ∀ k (h : k < l.length), k < i → co s l[k] = co ys l[k] ^^^ co by' k) l.length (fun s : List UInt8 => s.length = ys.length ∧ (∀ j, j ∉ l → co s j = co ys j) ∧ ∀ k (h : k < l.length), co s l[k] = co ys l[k] ^^^ co by' k)
    (body := fun s23 : List UInt8 × Int => (if s23.2 < ((ints l).length : Int) then ((idx (ints l) s23.2).bind fun c26 => ((idx s23.1 c26).bind fun c29 => ((idx by' s23.2).bind fun c30 => ((field_Add c29 c30).bind fun r31 => some (.inl ((s23.1.set (c26 : Int).toNat r31), (wI (s23.2 + 1)))))))) else some (.inr s23.1)))
    ⟨rfl, fun _ _ => rfl, fun k _ h => absurd h (Nat.not_lt_zero _)⟩
    (fun i s hi hI => by
      obtain ⟨sl, s1, s2⟩ := hI
      have hlt := hl l[i] (List.getElem_mem hi)
      have hni : l[i] ∉ l.take i := fun h => by
        obtain ⟨j, hj, e⟩ := List.getElem_of_mem h
        rw [List.getElem_take] at e
        have hji : j < i := by simp at hj; omega
        exact (List.pairwise_iff_getElem.1 hnd j i (by omega) hi hji) e
      refine ⟨s.set l[i] (co s l[i] ^^^ co by' i), ?_, by simpa using sl, fun j hj => ?_, fun k hk hki => ?_⟩
      · simp only
        rw [if_pos (by rw [ints_len]; omega), idx_ints hi, Option.bind_some, idx_co (by omega), Option.bind_some, idx_co (by omega), Option.bind_some, Add_eq, Option.bind_some, Int.toNat_natCast, wI_succ i (by omega)]
      · rw [List.take_succ_eq_append_getElem hi, List.mem_append, not_or, List.mem_singleton] at hj
        rw [co_set (by omega), if_neg hj.2]
        exact s1 j hj.1
      · rw [co_set (by omega)]
        by_cases hkk : k = i
        · subst hkk; rw [if_pos rfl, s1 _ hni]
        · have hne : l[k] ≠ l[i] := (List.pairwise_iff_getElem.1 hnd k i hk hi (by omega))
          rw [if_neg hne]
          exact s2 k hk (by omega))
    (fun s hI => ⟨s, by simp only; rw [if_neg (by rw [ints_len]; omega)], hI.1, fun j hj => hI.2.1 j (by rw [List.take_of_length_le (Nat.le_refl _)]; exact hj), fun k h => hI.2.2 k h h⟩)
  exact ⟨out, e, h1, h2, h3⟩
theorem wix_nodup (xs ys P : List UInt8) (n : Nat) : (wix xs ys P n).Nodup := List.Nodup.sublist List.filter_sublist List.nodup_range
theorem lcs_nodup (C xs : List UInt8) (n : Nat) : (lcs C xs n).Nodup := List.Nodup.sublist List.filter_sublist List.nodup_range
theorem wr_few {xs ys out P : List UInt8} {l : List Nat} (hl : l.Nodup) (ho : ∀ j, j < xs.length → j ∉ l → co out j = co ys j) (hP : ∀ i, i < xs.length → evp P (co xs i) = co out i) : wr xs ys P xs.length ≤ l.length := by
  rw [← wix_len]
  refine nodup_sub_len _ _ (wix_nodup _ _ _ _) fun i hi => ?_
  obtain ⟨h1, h2⟩ := mem_wix.1 hi
  refine Classical.not_not.1 fun h => h2 ?_
  rw [hP i h1, ho i h1 h]
/-- What Correct comes to. -/
theorem Correct_spec (t : Nat) (xs ys : List UInt8) (h100 : xs.length ≤ 100) (hc : scode (t : Int) xs (ys.length : Int) = 0) :
    (∀ P, dg P ≤ t → 2 * wr xs ys P xs.length ≤ xs.length - t → syndrome_Correct true (t : Int) xs ys = some ((List.range xs.length).map (fun i => evp P (co xs i)), ints (wix xs ys P xs.length), 0)) ∧
    ((∀ P, dg P ≤ t → ¬ 2 * wr xs ys P xs.length ≤ xs.length - t) → syndrome_Correct true (t : Int) xs ys = some ([], [], 11)) := by
  obtain ⟨hl, h1, h2, h0, h255, hn⟩ := scode_ok hc
  have hm := most_lt'
  have h1000 : 10000 ≤ most := by decide
  have hyl : ys.length = xs.length := by omega
  have ht : t ≤ xs.length := by omega
  have hsl := synd_len xs ys (xs.length - t)
  unfold syndrome_Correct
  rw [Syndromes_ok t xs ys hc, Option.bind_some, if_pos rfl]
  unfold slices_Clone_sbytebyte
  rw [appL_nil ys (by omega), Option.bind_some, word_Zero_eq _ (by simp only; omega), Option.bind_some]
  by_cases hz : ∀ x ∈ synd xs ys (xs.length - t), x = 0
  · rw [if_pos (decide_eq_true hz)]
    have hd := (synd_zero ys hn ht).1 hz
    have hthr : wr xs ys (thr xs ys) xs.length = 0 := by
      have := wr_few (xs := xs) (ys := ys) (out := ys) (P := thr xs ys) (l := []) List.nodup_nil (fun j _ _ => rfl) (fun i hi => ev_thr ys hn hi)
      simpa using this
    refine ⟨fun P hP hw => ?_, fun hno => absurd (by omega) (hno (thr xs ys) hd)⟩
    have hs : Sim P (thr xs ys) := two_one (ys := ys) hn hP hd (by omega)
    have hall : ∀ i, i < xs.length → evp P (co xs i) = co ys i := fun i hi => by rw [ev_sim _ _ _ hs, ev_thr ys hn hi]
    have e1 : ys = (List.range xs.length).map (fun i => evp P (co xs i)) := eq_of_co (by simp [hyl]) fun i => by
      rw [co_tab]
      split
      · rename_i hi; exact (hall i hi).symm
      · exact co_ge (by omega)
    have e2 : wix xs ys P xs.length = [] := List.eq_nil_of_length_eq_zero (by rw [wix_len, wr_sim hs, hthr])
    rw [← e1, e2]; rfl
  · obtain ⟨C, L, eC, hC⟩ := Locator_eq (synd xs ys (xs.length - t)) (by omega)
    have hCl : C.length ≤ L + 1 := by rw [trim_len_dg hC.trm]; exact hC.dgn
    have hLl := hC.len
    have hll := lcs_le C xs xs.length
    rw [if_neg (by simpa using hz), eC, Option.bind_some, Located_eq _ _ (by simp only; omega) (by omega), Option.bind_some, poly_Degree_eq _ (by simp only; omega), Option.bind_some]
    simp only
    rw [hC.trm, ints_len]
    have e2 : wI (2 * ((lcs C xs xs.length).length : Int)) = ((2 * (lcs C xs xs.length).length : Nat) : Int) := by rw [wI_of (by omega) (by omega)]; omega
    rw [e2]
    have hV := Values_eq (synd xs ys (xs.length - t)) C xs (lcs C xs xs.length) (fun i hi => by
      unfold lcs at hi
      obtain ⟨k1, k2⟩ := List.mem_filter.1 hi
      exact ⟨List.mem_range.1 k1, (of_decide_eq_true k2).1⟩) (by omega) (by omega) h255 hn (by omega) (by omega) (by have := trim_le (synd xs ys (xs.length - t)); rw [hC.trm]; omega)
    constructor
    · intro P hP hw
      have k1 := lcs_errors hn h0 hP ht hw hC
      have k2 := dg_errors hn h0 hP ht hw hC
      have k3 := fun i (hi : i ∈ wix xs ys P xs.length) => vlu_errors hn h0 hP ht hw hC hi
      have k4 := wix_len xs ys P xs.length
      rw [k1] at hV ⊢
      have hCl2 := trim_len_dg hC.trm
      rw [if_pos (by omega), if_neg (by omega), hV.1 (fun i hi => (k3 i hi).1), Option.bind_some, if_pos rfl]
      have hmap : (wix xs ys P xs.length).map (vlu (synd xs ys (xs.length - t)) C xs) = (wix xs ys P xs.length).map (fun i => co ys i ^^^ evp P (co xs i)) := List.map_congr_left fun i hi => (k3 i hi).2
      rw [hmap]
      obtain ⟨out, f1, f2, f3, f4⟩ := fix_loop ys ((wix xs ys P xs.length).map (fun i => co ys i ^^^ evp P (co xs i))) (wix xs ys P xs.length) (wix_nodup _ _ _ _) (fun i hi => by rw [hyl]; exact (mem_wix.1 hi).1) (by simp) (by omega)
      have hout : out = (List.range xs.length).map (fun i => evp P (co xs i)) := eq_of_co (by simp [f2, hyl]) fun i => by
        rw [co_tab]
        split
        · rename_i hi
          by_cases hw2 : i ∈ wix xs ys P xs.length
          · obtain ⟨k, hk, e⟩ := List.getElem_of_mem hw2
            have := f4 k hk
            rw [e] at this
            rw [this, co_lt (p := (wix xs ys P xs.length).map (fun i => co ys i ^^^ evp P (co xs i))) (i := k) (by simpa using hk)]
            simp only [List.getElem_map, e]
            rw [← xor_assoc, xor_self, zero_xor]
          · rw [f3 i hw2]
            exact (Classical.not_not.1 fun h => hw2 (mem_wix.2 ⟨hi, h⟩)).symm
        · exact co_ge (by omega)
      rw [ints_len] at f1
      rw [f1, Option.bind_some, hout]
      have hc2 : scode (t : Int) xs (((List.range xs.length).map (fun i => evp P (co xs i))).length : Int) = 0 := by simpa [hl] using hc
      have hz2 : ∀ x ∈ synd xs ((List.range xs.length).map (fun i => evp P (co xs i))) (xs.length - t), x = 0 := fun x hx => by
        unfold synd at hx
        obtain ⟨k, hk, rfl⟩ := List.mem_map.1 hx
        exact (syk_zero hn _ P t (fun i hi => by rw [co_tab, if_pos hi]) (Nat.le_trans hP ht) ht).2 hP k (List.mem_range.1 hk)
      have hb0 : (0 : UInt8) ∉ (wix xs ys P xs.length).map (fun i => co ys i ^^^ evp P (co xs i)) := fun h => by
        obtain ⟨i, hi, e⟩ := List.mem_map.1 h
        exact (mem_wix.1 hi).2 (xor_eq_zero e).symm
      rw [Syndromes_ok t xs _ hc2, Option.bind_some, if_pos rfl, word_Zero_eq _ (by rw [synd_len]; omega), Option.bind_some, decide_eq_true hz2, if_neg (by decide), Contains_eq _ _ (by simp; omega), Option.bind_some, decide_eq_false hb0, if_neg (by decide)]
    · intro hno
      by_cases g1 : ((lcs C xs xs.length).length : Int) = (C.length : Int) - 1
      · rw [if_pos g1]
        by_cases g2 : ((synd xs ys (xs.length - t)).length : Int) < ((2 * (lcs C xs xs.length).length : Nat) : Int)
        · rw [if_pos g2]
        · rw [if_neg g2]
          by_cases g3 : ∃ i ∈ lcs C xs xs.length, dwn C xs i = 0
          · rw [hV.2 g3, Option.bind_some, if_neg (by decide)]
          · rw [hV.1 (fun i hi h => g3 ⟨i, hi, h⟩), Option.bind_some, if_pos rfl]
            obtain ⟨out, f1, f2, f3, f4⟩ := fix_loop ys ((lcs C xs xs.length).map (vlu (synd xs ys (xs.length - t)) C xs)) (lcs C xs xs.length) (lcs_nodup _ _ _) (fun i hi => by
              rw [hyl]; unfold lcs at hi; exact List.mem_range.1 (List.mem_filter.1 hi).1) (by simp) (by omega)
            rw [ints_len] at f1
            have hc2 : scode (t : Int) xs (out.length : Int) = 0 := by rw [f2]; exact hc
            rw [f1, Option.bind_some, Syndromes_ok t xs out hc2, Option.bind_some, if_pos rfl, word_Zero_eq _ (by rw [synd_len]; omega), Option.bind_some]
            by_cases g4 : ∀ x ∈ synd xs out (xs.length - t), x = 0
            · exfalso
              have hd := (synd_zero out hn ht).1 g4
              refine hno (thr xs out) hd ?_
              have := wr_few (xs := xs) (ys := ys) (out := out) (P := thr xs out) (lcs_nodup C xs xs.length) (fun j _ hj => f3 j hj) (fun i hi => ev_thr out hn hi)
              omega
            · rw [decide_eq_false g4, if_pos (by decide)]
      · rw [if_neg g1]
theorem Correct_bad (t : Int) (xs ys : List UInt8) (h : xs.length ≤ most) (hc : scode t xs (ys.length : Int) ≠ 0) : syndrome_Correct true t xs ys = some ([], [], scode t xs (ys.length : Int)) := by
  unfold syndrome_Correct
  rw [Syndromes_bad t xs ys h hc, Option.bind_some, if_neg hc]
end Gk

/- Chapter 30: the laws SyndromeAdds and SyndromeTells. No condition. -/



set_option linter.unusedSimpArgs false
set_option linter.unusedVariables false
namespace Gk
open Gf
theorem lives30 : law30_lives = some true := by
  unfold law30_lives
  simp only [field_New, Option.bind_some]
  have e1 := (Correct_spec 1 [1, 2, 3] [5, 5, 9] (by decide) (by decide +kernel)).1 [5] (dg_len _) (by decide +kernel)
  have e2 : (List.range [(1 : UInt8), 2, 3].length).map (fun i => evp [5] (co [1, 2, 3] i)) = [5, 5, 5] := by decide +kernel
  have e3 : ints (wix [1, 2, 3] [5, 5, 9] [5] [(1 : UInt8), 2, 3].length) = [2] := by decide +kernel
  rw [e2, e3] at e1
  simp only [show ((1 : Nat) : Int) = 1 from rfl] at e1
  rw [e1, Option.bind_some]
  decide +kernel
theorem law30_SyndromeAdds_true (t : Int) (xs ys zs : List UInt8) (lo : -9223372036854775808 ≤ t) (hi : t ≤ 9223372036854775807) : law30_SyndromeAdds t xs ys zs = some true := by
  unfold law30_SyndromeAdds
  rw [lives30, Option.bind_some, if_neg (by decide)]
  by_cases hx : 16 < (xs.length : Int)
  · rw [if_pos hx]; rfl
  rw [if_neg hx]
  by_cases hy : 16 < (ys.length : Int)
  · rw [if_pos hy]; rfl
  rw [if_neg hy]
  by_cases hz : 100 < (zs.length : Int)
  · rw [if_pos hz]; rfl
  rw [if_neg hz]
  have hm := most_lt'
  have h1000 : 10000 ≤ most := by decide
  simp only [field_New, Option.bind_some]
  by_cases hc : scode t xs (ys.length : Int) = 0
  · obtain ⟨hl, h1, h2, h0, h255, hn⟩ := scode_ok hc
    obtain ⟨t, rfl⟩ : ∃ k : Nat, t = (k : Int) := ⟨t.toNat, by omega⟩
    have hml := mad_len zs ys.length
    have hpl : (pplus ys (mad zs ys.length)).length = ys.length := by rw [pplus_len]; omega
    have hs1 := synd_len xs ys (xs.length - t)
    have hs2 := synd_len xs (mad zs ys.length) (xs.length - t)
    rw [Syndromes_ok t xs ys hc, Option.bind_some, if_pos rfl, Made_eq _ _ (by omega), Option.bind_some, Syndromes_ok t xs _ (by rw [hml]; exact hc), Option.bind_some, Xor_eq _ _ hml.symm (by omega), Option.bind_some,
      Syndromes_ok t xs _ (by rw [hpl]; exact hc), Option.bind_some, if_pos rfl, if_pos rfl, Xor_eq _ _ (by simp only; omega) (by simp only; omega), Option.bind_some, if_pos ?_, wI_sub _ _ (by omega) (by omega)]
    · simp only [hs1, decide_true]
    · refine eq_of_co (by rw [synd_len, pplus_len]; simp only; omega) fun i => ?_
      rw [co_pplus]
      unfold synd
      rw [co_tab, co_tab, co_tab]
      split
      · exact syk_add xs ys _ i
      · rw [xor_zero]
  · rw [Syndromes_bad t xs ys (by omega) hc, Option.bind_some, if_neg hc]; rfl
theorem zero_loop (xs : List UInt8) (h : xs.length ≤ most) : iterC (fun s16 : Bool × Int => (if s16.2 < (xs.length : Int) then ((idx xs s16.2).bind fun c19 => (if s16.1 = true then some (.inl (true, (wI (s16.2 + 1)))) else some (.inl ((decide (c19 = (0 : UInt8))), (wI (s16.2 + 1)))))) else some (.inr s16.1))) (false, 0) = some (decide ((0 : UInt8) ∈ xs)) := by
  have hm := most_lt'
  refine iterC_count (fun i => (decide ((0 : UInt8) ∈ xs.take i), (i : Int))) xs.length _ (by simp) ?_ ?_
  · intro i hi
    simp only
    rw [if_pos (by omega), idx_co hi, Option.bind_some, wI_succ i (by omega), take_snoc hi]
    by_cases hin : (0 : UInt8) ∈ xs.take i
    · rw [if_pos (by simpa using hin)]; simp [hin]
    · rw [if_neg (by simpa using hin)]; simp [hin, eq_comm]
  · simp
theorem ref30_Weight_eq (xs : List UInt8) (i : Nat) (hi : i < xs.length) (h : xs.length ≤ most) : ref30_Weight xs (i : Int) = some (wgt xs i) := by
  unfold ref30_Weight
  have hm := most_lt'
  refine bind_of (x := pe xs i (co xs i) xs.length) ?_ ?_
  · refine iterC_count (fun k => (pe xs i (co xs i) k, (k : Int))) xs.length _ rfl ?_ ?_
    · intro k hk
      simp only
      rw [if_pos (by omega)]
      by_cases hki : k = i
      · subst hki
        rw [if_pos rfl, wI_succ k (by omega)]
        simp [pe]
      · rw [if_neg (by omega), idx_co hi, Option.bind_some, idx_co hk, Option.bind_some, refMul_eq, Option.bind_some, wI_succ k (by omega)]
        simp [pe, hki]
    · simp
  · rw [refInv_eq, Option.bind_some]; rfl
theorem ref30_Syndromes_eq (r : Nat) (xs ys : List UInt8) (hl : xs.length = ys.length) (hr : r ≤ most) (h : xs.length ≤ most) : ref30_Syndromes (r : Int) xs ys = some (synd xs ys r) := by
  unfold ref30_Syndromes
  have hm := most_lt'
  refine bind_of ?_ rfl
  refine iterC_count (fun k => ((List.range k).map (syk xs ys), (k : Int))) r _ rfl ?_ ?_
  · intro k hk
    simp only
    have inner : iterC (fun s7 : UInt8 × Int => (if s7.2 < (xs.length : Int) then ((idx ys s7.2).bind fun c12 => ((idx xs s7.2).bind fun c13 => ((ref30_Weight xs s7.2).bind fun r14 => ((ref02_Pow c13 (k : Int)).bind fun r16 => ((ref02_Mul c12 r16).bind fun r18 => ((ref02_Mul r14 r18).bind fun r20 =>
        some (.inl ((s7.1 ^^^ r20), (wI (s7.2 + 1)))))))))) else some (.inr s7.1))) ((0 : UInt8), 0) = some (syk xs ys k) := by
      refine iterC_count (fun i => (sm (fun i => mul (mul (wgt xs i) (co ys i)) (pow (co xs i) k)) i, (i : Int))) xs.length _ rfl ?_ ?_
      · intro i hi
        simp only
        rw [if_pos (by omega), idx_co (by omega), Option.bind_some, idx_co hi, Option.bind_some, ref30_Weight_eq xs i hi h, Option.bind_some, refPow_eq, Option.bind_some, refMul_eq, Option.bind_some, refMul_eq, Option.bind_some, wI_succ i (by omega), powZ_nat, ← mul_assoc]
        rfl
      · simp only
        rw [if_neg (by omega)]; rfl
    rw [if_pos (by omega), inner, Option.bind_some, appL_ok _ _ (by simp; omega) rfl, Option.bind_some, wI_succ k (by omega), List.range_succ, List.map_append]
    rfl
  · simp only
    rw [if_neg (by omega)]; rfl
theorem law30_SyndromeTells_true (t : Int) (xs ys : List UInt8) (lo : -9223372036854775808 ≤ t) (hi : t ≤ 9223372036854775807) : law30_SyndromeTells t xs ys = some true := by
  unfold law30_SyndromeTells
  rw [lives30, Option.bind_some, if_neg (by decide)]
  by_cases hx : 12 < (xs.length : Int)
  · rw [if_pos hx]; rfl
  rw [if_neg hx]
  by_cases hy : 12 < (ys.length : Int)
  · rw [if_pos hy]; rfl
  rw [if_neg hy]
  have hm := most_lt'
  have h1000 : 10000 ≤ most := by decide
  simp only [field_New, Option.bind_some]
  rw [zero_loop xs (by omega)]
  have hw : (if (xs.length : Int) = (ys.length : Int) then (if t < 1 then some 2 else (if 255 < t then some 2 else (if decide ((0 : UInt8) ∈ xs) = true then some 2 else (if (xs.length : Int) < t then some 5 else ((ref03_Places xs).bind fun r29 => some r29))))) else some 1) = some (scode t xs (ys.length : Int)) := by
    unfold scode
    by_cases h1 : (xs.length : Int) = (ys.length : Int)
    · rw [if_pos h1, if_pos h1]
      by_cases h2 : t < 1
      · rw [if_pos h2, if_pos (.inl h2)]
      · rw [if_neg h2]
        by_cases h3 : 255 < t
        · rw [if_pos h3, if_pos (.inr (.inl h3))]
        · rw [if_neg h3]
          by_cases h4 : (0 : UInt8) ∈ xs
          · rw [if_pos (by simpa using h4), if_pos (.inr (.inr h4))]
          · rw [if_neg (by simpa using h4), if_neg (show ¬ (t < 1 ∨ 255 < t ∨ (0 : UInt8) ∈ xs) from not_or.2 ⟨h2, not_or.2 ⟨h3, h4⟩⟩)]
            by_cases h5 : (xs.length : Int) < t
            · rw [if_pos h5, if_pos h5]
            · rw [if_neg h5, if_neg h5, ref03_Places_eq xs (by omega)]; rfl
    · rw [if_neg h1, if_neg h1]
  by_cases hc : scode t xs (ys.length : Int) = 0
  · obtain ⟨hl, h1, h2, h0, h255, hn⟩ := scode_ok hc
    obtain ⟨t, rfl⟩ : ∃ k : Nat, t = (k : Int) := ⟨t.toNat, by omega⟩
    have hsl := synd_len xs ys (xs.length - t)
    obtain ⟨out, o1, o2, o3⟩ := ref03_Through_eq xs ys (by omega) (by omega)
    rw [Syndromes_ok t xs ys hc, Option.bind_some, Option.bind_some, hw, hc, Option.bind_some, Syndromes_nil, Option.bind_some, if_pos rfl, if_pos rfl, if_pos rfl, o1, Option.bind_some, wI_sub _ _ (by omega) (by omega), ref30_Syndromes_eq _ xs ys (by omega) (by omega) (by omega), Option.bind_some, if_pos rfl,
      word_Zero_eq _ (by simp only; omega), Option.bind_some]
    have hs : Sim out (thr xs ys) := agree hn o2 (dg_thr xs ys) (fun a ha => by
      obtain ⟨j, hj, rfl⟩ := mem_co ha
      rw [o3, ev_thr ys hn hj]
      have := lagrange hn (dg_thr xs ys) (co xs j)
      rw [ev_thr ys hn hj] at this
      rw [this]
      exact sm_congr _ fun i hi => by rw [ev_thr ys hn hi, mul_comm])
    have hd : (trim out).length = dg (thr xs ys) := dg_sim hs
    have hz := synd_zero ys hn (show t ≤ xs.length by omega)
    rw [hd]
    by_cases h9 : dg (thr xs ys) ≤ t
    · rw [decide_eq_true (hz.2 h9), decide_eq_true (show ((dg (thr xs ys) : Nat) : Int) ≤ (t : Int) by omega)]; rfl
    · rw [decide_eq_false (fun h => h9 (hz.1 h)), decide_eq_false (show ¬ ((dg (thr xs ys) : Nat) : Int) ≤ (t : Int) by omega)]; rfl
  · rw [Syndromes_bad t xs ys (by omega) hc, Option.bind_some, Option.bind_some, hw, Option.bind_some, Syndromes_nil, Option.bind_some, if_pos rfl, if_pos rfl, if_neg hc, if_pos rfl, if_pos rfl]
    rfl
end Gk

/- Parts L7, Pp, one behind the other. What is proved: said at the head of each part. No condition beside those said there. -/
import Derived.Test.YtakkkllpmpjdmaaRows
import Derived.Orders
import Derived.Deep.Draws
import Derived.Laws.World
import Derived.KernelRfl
import Derived.OrdersIn
import Derived.TacticsIn
import Derived.RangeFuncCalls
import Derived.Deep.LoopGhost
import Derived.Tactics
import Derived.Sort.LoopGhostIn
import Derived.RangeFuncLeaves
import Derived.RangeFuncNested
import Derived.RangeFuncRecord
import Derived.Laws.Sem
import Derived.OwnWalk
import Derived.RangeFuncWrites
import Derived.Laws.IdiomCopy
import Derived.WalkKit
import Derived.ProofKit
import Derived.OpenShut
import Derived.ChangeOld
import Derived.Below
import Derived.Test.YtakkkllpmpjdmaaProg
import Derived.MapKept
import Derived.Lib.AppendZerosOnto
import Derived.Laws.CopyRow
import Derived.Laws.Cells
import Derived.Lib.SlBytesConst
import Derived.Test.YtakkkllpmpjdmaaZPHashSums1
import Derived.Test.YtakkkllpmpjdmaaZPHashSums2
import Derived.Test.YtakkkllpmpjdmaaZPHashSums3
import Derived.Test.YtakkkllpmpjdmaaZPHashSums4
import Derived.Test.YtakkkllpmpjdmaaZPHashSums5
/- Printed by gen.py: for each Go function a pure function, and that the Go code comes to it. No condition beside the equation that says what the pure function gives. -/



set_option linter.unusedVariables false
set_option linter.unusedSimpArgs false
namespace Gk
open Go Go.Proofs

/-! largesse/largesselaw07.lives -/
noncomputable def law07_lives  : Option Bool :=
((hash_Sum ([([(97 : UInt8), (98 : UInt8), (99 : UInt8)] : List UInt8)] : List (List UInt8))).bind fun r9 =>
(if (r9.length : Int) = 32 then
((idx r9 0).bind fun c12 =>
(if c12 = (186 : UInt8) then
((idx r9 1).bind fun c14 => some (decide (c14 = (120 : UInt8))))
else some false))
else some false))
set_option maxRecDepth 100000 in
set_option maxHeartbeats 8000000 in
theorem law07_lives_calls  (r : Bool) (w0 : World) (H : law07_lives = some r) :
    Calls Try.prog 11 [].toArray w0 (fun e w' => e = .returned (.bool r) ∧ Ext w0 w') := by
  have hE : Ext w0 w0 := Ext.refl w0
  unfold law07_lives at H
  refine calls_W (n := 21) Try.func11 rfl rfl rfl ?_
  refine W_seq ?_
  refine W_reg (by kernel_rfl) ?_
  refine wla rfl rfl (q_assign (v := (.bool false)) rfl rfl) ?_
  refine wl_nil ?_
  refine W_th ?_
  refine W_seq ?_
  refine W_reg (by kernel_rfl) ?_
  refine wls rfl rfl (stp_lit (L := []) (R := (Sc u8)) [(u8 97), (u8 98), (u8 99)] ([(97 : UInt8), (98 : UInt8), (99 : UInt8)] : List UInt8) rfl T22 rfl (by exact ⟨rfl, (cst8 (97 : UInt8) rfl), rfl, (cst8 (98 : UInt8) rfl), rfl, (cst8 (99 : UInt8) rfl), trivial⟩) rfl (litC u8 (oneC_u8) (us := [(u8 97), (u8 98), (u8 99)]) (l := ([(97 : UInt8), (98 : UInt8), (99 : UInt8)] : List UInt8)) rfl) rfl (litS u8 (us := [(u8 97), (u8 98), (u8 99)]) (l := ([(97 : UInt8), (98 : UInt8), (99 : UInt8)] : List UInt8)) rfl) ?_)
  intro v1 w1 o1 n1 g1 l1
  have x1 := grown_ext g1
  have n3 := Nw.ext hE n1
  have e2 := hE.trans x1
  refine wls rfl rfl (stp_mark [] [] rfl Try.underlying22 Try.underlying5 rfl o1 (by simp) ?_)
  intro w4 hM4 g4 l4
  have e5 := e2.grown g4 n3
  have i6 : By w4 [] v1 (([(97 : UInt8), (98 : UInt8), (99 : UInt8)] : List UInt8)) := hM4 [] (fun k hk => trivial)
  refine wls rfl rfl (stp_lit (L := []) (R := By) [v1] ([([(97 : UInt8), (98 : UInt8), (99 : UInt8)] : List UInt8)] : List (List UInt8)) rfl T27 rfl (by exact ⟨rfl, rfl, trivial⟩) rfl (LitR.cells (R := By) (w := w4) (L := []) (l := ([([(97 : UInt8), (98 : UInt8), (99 : UInt8)] : List UInt8)] : List (List UInt8))) (LitR.cons i6 LitR.nil) (fun u x h => cells_sl u x h)) rfl (LitR.all (R := By) (w := w4) (L := []) (l := ([([(97 : UInt8), (98 : UInt8), (99 : UInt8)] : List UInt8)] : List (List UInt8))) (SlK.stab (Sc.stab _)) (LitR.cons i6 LitR.nil)) ?_)
  intro v7 w7 o7 n7 g7 l7
  have x7 := grown_ext g7
  have i7 : Rw w7 [] v7 (([([(97 : UInt8), (98 : UInt8), (99 : UInt8)] : List UInt8)] : List (List UInt8))) := OwK.slk (SlK.stab (Sc.stab _)) _ o7 (fun k hk => (Old.nil _) k (n7 k hk)) (fun _ h => h.2)
  replace i6 := i6.lift (Lift.ext x7 _)
  have e8 := e5.trans x7
  obtain ⟨r9, hr9, H⟩ := Option.bind_eq_some_iff.1 H
  refine wls rfl rfl (stp_call (vs := [v7]) Try.func12 rfl rfl rfl (ar1 rfl) (hash_Sum_calls ([([(97 : UInt8), (98 : UInt8), (99 : UInt8)] : List UInt8)] : List (List UInt8)) v7 r9 _ (i7.lift (Lift.sub (fun _ _ => trivial))) hr9) ?_)
  rintro _ w9 ⟨v9, rfl, x9, n9_0, o9_0⟩
  refine ⟨_, rfl, ?_⟩
  have i9_0 : By w9 [] v9 r9 := OwK.slk (Sc.stab _) _ (OwK.scal o9_0 (v9 :: [])) (fun k hk => (Old.nil _) k (n9_0 k hk)) (fun _ h => h.2)
  replace i6 := i6.lift (Lift.ext x9 _)
  replace i7 := i7.lift (Lift.ext x9 _)
  have e10 := e8.trans x9
  refine wla rfl rfl (q_assign (v := v9) rfl rfl) ?_
  refine wl_nil ?_
  refine W_th ?_
  refine W_seq ?_
  refine W_reg (by kernel_rfl) ?_
  refine wla rfl rfl (q_move (v := v9) rfl rfl) ?_
  refine wla rfl rfl (q_len rfl T22.sl rfl i9_0) ?_
  refine wla rfl rfl (q_eqI rfl rfl rfl) ?_
  refine wlb rfl rfl (q_move (v := (.bool ((decide ((r9.length : Int) = 32))))) rfl rfl) (fun hb11 => ?_) (fun hb11 => ?_)
  · replace H := (if_pos (of_decide_eq_true hb11)).symm.trans H
    refine wla rfl rfl (q_move (v := v9) rfl rfl) ?_
    obtain ⟨c12, hc12, H⟩ := Option.bind_eq_some_iff.1 H
    refine wla rfl rfl (q_adr rfl T22 rfl rfl i9_0 hc12) ?_
    refine wlq rfl rfl (q_loadS rfl T22 rfl i9_0 hc12) ?_
    refine wla rfl rfl (q_eq8 rfl rfl (cst8 (186 : UInt8) rfl)) ?_
    refine wla rfl rfl (q_pick_t (v := (.bool ((decide (c12 = (186 : UInt8)))))) rfl rfl rfl) ?_
    refine wlb rfl rfl (q_move (v := (.bool ((decide (c12 = (186 : UInt8)))))) rfl rfl) (fun hb13 => ?_) (fun hb13 => ?_)
    · replace H := (if_pos (of_decide_eq_true hb13)).symm.trans H
      refine wla rfl rfl (q_move (v := v9) rfl rfl) ?_
      obtain ⟨c14, hc14, H⟩ := Option.bind_eq_some_iff.1 H
      refine wla rfl rfl (q_adr rfl T22 rfl rfl i9_0 hc14) ?_
      refine wlq rfl rfl (q_loadS rfl T22 rfl i9_0 hc14) ?_
      refine wla rfl rfl (q_eq8 rfl rfl (cst8 (120 : UInt8) rfl)) ?_
      refine wla rfl rfl (q_pick_t (v := (.bool ((decide (c14 = (120 : UInt8)))))) rfl rfl rfl) ?_
      refine wla rfl rfl (q_assign (v := (.bool ((decide (c14 = (120 : UInt8)))))) rfl rfl) ?_
      refine wl_nil ?_
      refine W_th ?_
      refine W_ret ?_
      obtain rfl := Option.some.inj H
      refine rt1 (.bool ((decide (c14 = (120 : UInt8))))) rfl rfl rfl rfl ?_
      exact ⟨rfl, e10⟩
    · replace H := (if_neg (of_decide_eq_false hb13)).symm.trans H
      refine wlk rfl rfl ?_
      refine wlk rfl rfl ?_
      refine wlk rfl rfl ?_
      refine wlk rfl rfl ?_
      refine wla rfl rfl (q_pick_f (v := (.bool false)) rfl rfl rfl) ?_
      refine wla rfl rfl (q_assign (v := (.bool false)) rfl rfl) ?_
      refine wl_nil ?_
      refine W_th ?_
      refine W_ret ?_
      obtain rfl := Option.some.inj H
      refine rt1 (.bool false) rfl rfl rfl rfl ?_
      exact ⟨rfl, e10⟩
  · replace H := (if_neg (of_decide_eq_false hb11)).symm.trans H
    refine wlk rfl rfl ?_
    refine wlk rfl rfl ?_
    refine wlk rfl rfl ?_
    refine wlk rfl rfl ?_
    refine wla rfl rfl (q_pick_f (v := (.bool false)) rfl rfl rfl) ?_
    refine wla rfl rfl (q_move (v := (.bool false)) rfl rfl) ?_
    refine wlk rfl rfl ?_
    refine wlk rfl rfl ?_
    refine wlk rfl rfl ?_
    refine wlk rfl rfl ?_
    refine wla rfl rfl (q_pick_f (v := (.bool false)) rfl rfl rfl) ?_
    refine wla rfl rfl (q_assign (v := (.bool false)) rfl rfl) ?_
    refine wl_nil ?_
    refine W_th ?_
    refine W_ret ?_
    obtain rfl := Option.some.inj H
    refine rt1 (.bool false) rfl rfl rfl rfl ?_
    exact ⟨rfl, e10⟩

/-! largesse/largesselaw07.HashSums -/
noncomputable def law07_HashSums (a0b : List UInt8) : Option Bool :=
((law07_lives ).bind fun r1 =>
(if (!r1) = true then
((law07_lives ).bind fun r4 => some r4)
else
(if 300 < (a0b.length : Int) then
((law07_lives ).bind fun r7 => some r7)
else
((appL (([] : List UInt8)) a0b).bind fun c12 =>
((hash_Sum ([c12] : List (List UInt8))).bind fun r20 =>
((ref07_Sum a0b).bind fun r22 =>
(if r20 = r22 then some (decide (c12 = a0b))
else some false)))))))
set_option maxRecDepth 100000 in
set_option maxHeartbeats 8000000 in
theorem law07_HashSums_calls (a0b : List UInt8) (p0 : Value) (r : Bool) (w0 : World) (hp0 : By w0 [] p0 a0b) (H : law07_HashSums a0b = some r) :
    Calls Try.prog 3 [p0].toArray w0 (fun e w' => e = .returned (.bool r) ∧ Ext w0 w') := by
  have hE : Ext w0 w0 := Ext.refl w0
  unfold law07_HashSums at H
  refine calls_W (n := 30) Try.func3 rfl rfl rfl ?_
  refine W_seq ?_
  refine W_reg (by kernel_rfl) ?_
  refine wla rfl rfl (q_assign (v := (.bool false)) rfl rfl) ?_
  refine wl_nil ?_
  refine W_th ?_
  refine W_seq ?_
  refine W_seq ?_
  refine W_reg (by kernel_rfl) ?_
  obtain ⟨r1, hr1, H⟩ := Option.bind_eq_some_iff.1 H
  refine wls rfl rfl (stp_call (vs := []) Try.func11 rfl rfl rfl (ar0 ) (law07_lives_calls   r1 _  hr1) ?_)
  rintro _ w1 ⟨rfl, x1⟩
  refine ⟨_, rfl, ?_⟩
  have e2 := hE.trans x1
  refine wla rfl rfl (q_not rfl rfl) ?_
  refine wlb rfl rfl (q_move (v := (.bool ((!r1)))) rfl rfl) (fun hb3 => ?_) (fun hb3 => ?_)
  · replace H := (if_pos hb3).symm.trans H
    refine wlk rfl rfl ?_
    refine wlk rfl rfl ?_
    refine wlk rfl rfl ?_
    refine wla rfl rfl (q_pick_t (v := (.bool true)) rfl rfl rfl) ?_
    refine wl_nil ?_
    refine W_th ?_
    refine W_cond true rfl rfl (fun _ => ?_) (fun hb => by cases hb)
    refine W_seq ?_
    refine W_reg (by kernel_rfl) ?_
    obtain ⟨r4, hr4, H⟩ := Option.bind_eq_some_iff.1 H
    refine wls rfl rfl (stp_call (vs := []) Try.func11 rfl rfl rfl (ar0 ) (law07_lives_calls   r4 _  hr4) ?_)
    rintro _ w4 ⟨rfl, x4⟩
    refine ⟨_, rfl, ?_⟩
    have e5 := e2.trans x4
    refine wla rfl rfl (q_assign (v := (.bool r4)) rfl rfl) ?_
    refine wl_nil ?_
    refine W_th ?_
    refine W_ret ?_
    refine th_r ?_
    obtain rfl := Option.some.inj H
    refine rt1 (.bool r4) rfl rfl rfl rfl ?_
    exact ⟨rfl, e5⟩
  · replace H := (if_neg (ne_true_of_eq_false hb3)).symm.trans H
    refine wla rfl rfl (q_move (v := p0) rfl rfl) ?_
    refine wla rfl rfl (q_len rfl T22.sl rfl (hp0.lift (Lift.ext e2 _))) ?_
    refine wla rfl rfl (q_gtI rfl rfl rfl) ?_
    refine wla rfl rfl (q_pick_f (v := (.bool ((decide (300 < (a0b.length : Int)))))) rfl rfl rfl) ?_
    refine wl_nil ?_
    refine W_th ?_
    refine W_cond _ rfl rfl (fun hb6 => ?_) (fun hb6 => ?_)
    · replace H := (if_pos (of_decide_eq_true hb6)).symm.trans H
      refine W_seq ?_
      refine W_reg (by kernel_rfl) ?_
      obtain ⟨r7, hr7, H⟩ := Option.bind_eq_some_iff.1 H
      refine wls rfl rfl (stp_call (vs := []) Try.func11 rfl rfl rfl (ar0 ) (law07_lives_calls   r7 _  hr7) ?_)
      rintro _ w7 ⟨rfl, x7⟩
      refine ⟨_, rfl, ?_⟩
      have e8 := e2.trans x7
      refine wla rfl rfl (q_assign (v := (.bool r7)) rfl rfl) ?_
      refine wl_nil ?_
      refine W_th ?_
      refine W_ret ?_
      refine th_r ?_
      obtain rfl := Option.some.inj H
      refine rt1 (.bool r7) rfl rfl rfl rfl ?_
      exact ⟨rfl, e8⟩
    · replace H := (if_neg (of_decide_eq_false hb6)).symm.trans H
      refine W_skip ?_
      refine W_th ?_
      refine W_seq ?_
      refine W_reg (by kernel_rfl) ?_
      refine wls rfl rfl (stp_lit (L := []) (R := (Sc u8)) [] ([] : List UInt8) rfl T22 rfl (by exact trivial) rfl (litC u8 (oneC_u8) (us := []) (l := ([] : List UInt8)) rfl) rfl (litS u8 (us := []) (l := ([] : List UInt8)) rfl) ?_)
      intro v9 w9 o9 n9 g9 l9
      have x9 := grown_ext g9
      have n11 := Nw.ext e2 n9
      have e10 := e2.trans x9
      refine wla rfl rfl (q_move (v := p0) rfl rfl) ?_
      obtain ⟨c12, hc12, H⟩ := Option.bind_eq_some_iff.1 H
      refine wls rfl rfl (stp_append (R := (Sc u8)) (v := v9) (u := p0) (Sc.stab _) [] [] rfl T22 rfl rfl o9 (hp0.lift (Lift.ext e10 _)) (fun _ _ h => h) hc12 oc_u8 ?_)
      intro v12 w12 o12 g12 nx12 l12
      have e13 := e10.grown g12 n11
      have n14 := Nw.nxt e10 n11 nx12
      refine wla rfl rfl (q_assign (v := v12) rfl rfl) ?_
      refine wl_nil ?_
      refine W_th ?_
      refine W_seq ?_
      refine W_draw [3, 6, 10, 12] [(0, 0), (4, 0), (1, 2), (2, 2), (3, 1), (5, 2), (6, 1), (7, 0), (8, 0), (9, 0), (10, 1), (11, 0), (12, 1), (13, 0), (14, 0), (15, 0)] mixed (by kernel_rfl) (by kernel_rfl) (by kernel_rfl) (by kernel_rfl) ?_
      have x15 := Ext.drew w12
      replace o12 := o12.extL (Sc.stab _) x15 (Lift.ext x15 _)
      have e16 := e13.trans x15
      refine wsa rfl rfl rfl (q_move (v := v12) rfl rfl) ?_
      refine wsa rfl rfl rfl (q_move (v := p0) rfl rfl) ?_
      have i18 : By (World.drew w12) [] v12 c12 := OwK.slk (Sc.stab _) [] o12 (fun k hk => trivial) (show ∀ k, Av [v12] k → Av [] k from fun _ h => trivial)
      refine wsc rfl (by kernel_rfl) rfl rfl (stp_lit (L := []) (R := By) [v12] ([c12] : List (List UInt8)) rfl T27 rfl (by exact ⟨rfl, rfl, trivial⟩) rfl (LitR.cells (R := By) (w := (World.drew w12)) (L := []) (l := ([c12] : List (List UInt8))) (LitR.cons i18 LitR.nil) (fun u x h => cells_sl u x h)) rfl (LitR.all (R := By) (w := (World.drew w12)) (L := []) (l := ([c12] : List (List UInt8))) (SlK.stab (Sc.stab _)) (LitR.cons i18 LitR.nil)) ?_)
      intro v17 w17 o17 n17 g17 l17
      have x17 := grown_ext g17
      have i17 : Rw w17 [] v17 (([c12] : List (List UInt8))) := OwK.slk (SlK.stab (Sc.stab _)) _ o17 (fun k hk => (Old.nil _) k (n17 k hk)) (fun _ h => h.2)
      replace i18 := i18.lift (Lift.ext x17 _)
      have e19 := e16.trans x17
      obtain ⟨r20, hr20, H⟩ := Option.bind_eq_some_iff.1 H
      refine wsc rfl (by kernel_rfl) rfl rfl (stp_call (vs := [v17]) Try.func12 rfl rfl rfl (ar1 rfl) (hash_Sum_calls ([c12] : List (List UInt8)) v17 r20 _ (i17.lift (Lift.sub (fun _ _ => trivial))) hr20) ?_)
      rintro _ w20 ⟨v20, rfl, x20, n20_0, o20_0⟩
      refine ⟨_, rfl, ?_⟩
      have i20_0 : By w20 [] v20 r20 := OwK.slk (Sc.stab _) _ (OwK.scal o20_0 (v20 :: [])) (fun k hk => (Old.nil _) k (n20_0 k hk)) (fun _ h => h.2)
      replace i18 := i18.lift (Lift.ext x20 _)
      replace i17 := i17.lift (Lift.ext x20 _)
      have e21 := e19.trans x20
      refine wsq rfl rfl rfl (q_str rfl T22 rfl rfl rfl i20_0) ?_
      obtain ⟨r22, hr22, H⟩ := Option.bind_eq_some_iff.1 H
      refine wss rfl rfl rfl (stp_call (vs := [p0]) Try.func13 rfl rfl rfl (ar1 rfl) (ref07_Sum_calls a0b p0 r22 _ (hp0.lift (Lift.ext e21 _)) hr22) ?_)
      rintro _ w22 ⟨v22, rfl, x22, n22_0, o22_0⟩
      refine ⟨_, rfl, x22, ?_⟩
      have i22_0 : By w22 [] v22 r22 := OwK.slk (Sc.stab _) _ (OwK.scal o22_0 (v22 :: [])) (fun k hk => (Old.nil _) k (n22_0 k hk)) (fun _ h => h.2)
      replace i18 := i18.lift (Lift.ext x22 _)
      replace i17 := i17.lift (Lift.ext x22 _)
      replace i20_0 := i20_0.lift (Lift.ext x22 _)
      have e23 := e21.trans x22
      refine wsq rfl rfl rfl (q_str rfl T22 rfl rfl rfl i22_0) ?_
      refine wsa rfl rfl rfl (q_eqS rfl rfl rfl) ?_
      refine wsb rfl rfl rfl (q_move (v := (.bool ((decide (r20 = r22))))) rfl rfl) (fun hb24 => ?_) (fun hb24 => ?_)
      · replace H := (if_pos (of_decide_eq_true hb24)).symm.trans H
        refine wsa rfl rfl rfl (q_move (v := v12) rfl rfl) ?_
        refine wsq rfl rfl rfl (q_str rfl T22 rfl rfl rfl i18) ?_
        refine wsa rfl rfl rfl (q_move (v := p0) rfl rfl) ?_
        refine wsq rfl rfl rfl (q_str rfl T22 rfl rfl rfl (hp0.lift (Lift.ext e23 _))) ?_
        refine wsa rfl rfl rfl (q_eqS rfl rfl rfl) ?_
        refine wsa rfl rfl rfl (q_pick_t (v := (.bool ((decide (c12 = a0b))))) rfl rfl rfl) ?_
        refine wsa rfl rfl rfl (q_assign (v := (.bool ((decide (c12 = a0b))))) rfl rfl) ?_
        refine ws_nil ?_
        refine W_th ?_
        refine W_ret ?_
        obtain rfl := Option.some.inj H
        refine rt1 (.bool ((decide (c12 = a0b)))) rfl rfl rfl rfl ?_
        exact ⟨rfl, e23⟩
      · replace H := (if_neg (of_decide_eq_false hb24)).symm.trans H
        refine wsk rfl rfl rfl ?_
        refine wsk rfl rfl rfl ?_
        refine wsk rfl rfl rfl ?_
        refine wsk rfl rfl rfl ?_
        refine wsk rfl rfl rfl ?_
        refine wsa rfl rfl rfl (q_pick_f (v := (.bool false)) rfl rfl rfl) ?_
        refine wsa rfl rfl rfl (q_assign (v := (.bool false)) rfl rfl) ?_
        refine ws_nil ?_
        refine W_th ?_
        refine W_ret ?_
        obtain rfl := Option.some.inj H
        refine rt1 (.bool false) rfl rfl rfl rfl ?_
        exact ⟨rfl, e23⟩

/-! largesse/largesselaw07.HashParts -/
noncomputable def law07_HashParts (a0parts : List (List UInt8)) : Option Bool :=
((law07_lives ).bind fun r1 =>
(if (!r1) = true then
((law07_lives ).bind fun r4 => some r4)
else
(if 20 < (a0parts.length : Int) then
((law07_lives ).bind fun r7 => some r7)
else
((iterC (fun s9 : List UInt8 × Int =>
(if s9.2 < (a0parts.length : Int) then
((idx a0parts s9.2).bind fun c12 =>
(if 100 < (c12.length : Int) then some (.inr (.inr true))
else
((appL s9.1 c12).bind fun c15 => some (.inl (c15, (wI (s9.2 + 1)))))))
else some (.inr (.inl s9.1)))) (([] : List UInt8), 0)).bind (Sum.elim (fun y9 =>
((((hash_Sum a0parts).bind fun r23 =>
((hash_Sum ([y9] : List (List UInt8))).bind fun r28 =>
(if r23 = r28 then
((hash_Sum ([y9] : List (List UInt8))).bind fun r33 => some (decide ((r33.length : Int) = 32)))
else some false)))).bind fun x20 => some x20)) (fun q9 => some q9))))))
set_option maxRecDepth 100000 in
set_option maxHeartbeats 8000000 in
theorem law07_HashParts_calls (a0parts : List (List UInt8)) (p0 : Value) (r : Bool) (w0 : World) (hp0 : Rw w0 [] p0 a0parts) (H : law07_HashParts a0parts = some r) :
    Calls Try.prog 4 [p0].toArray w0 (fun e w' => e = .returned (.bool r) ∧ Ext w0 w') := by
  have hE : Ext w0 w0 := Ext.refl w0
  unfold law07_HashParts at H
  refine calls_W (n := 42) Try.func4 rfl rfl rfl ?_
  refine W_seq ?_
  refine W_reg (by kernel_rfl) ?_
  refine wla rfl rfl (q_assign (v := (.bool false)) rfl rfl) ?_
  refine wl_nil ?_
  refine W_th ?_
  refine W_seq ?_
  refine W_seq ?_
  refine W_reg (by kernel_rfl) ?_
  obtain ⟨r1, hr1, H⟩ := Option.bind_eq_some_iff.1 H
  refine wls rfl rfl (stp_call (vs := []) Try.func11 rfl rfl rfl (ar0 ) (law07_lives_calls   r1 _  hr1) ?_)
  rintro _ w1 ⟨rfl, x1⟩
  refine ⟨_, rfl, ?_⟩
  have e2 := hE.trans x1
  refine wla rfl rfl (q_not rfl rfl) ?_
  refine wlb rfl rfl (q_move (v := (.bool ((!r1)))) rfl rfl) (fun hb3 => ?_) (fun hb3 => ?_)
  · replace H := (if_pos hb3).symm.trans H
    refine wlk rfl rfl ?_
    refine wlk rfl rfl ?_
    refine wlk rfl rfl ?_
    refine wla rfl rfl (q_pick_t (v := (.bool true)) rfl rfl rfl) ?_
    refine wl_nil ?_
    refine W_th ?_
    refine W_cond true rfl rfl (fun _ => ?_) (fun hb => by cases hb)
    refine W_seq ?_
    refine W_reg (by kernel_rfl) ?_
    obtain ⟨r4, hr4, H⟩ := Option.bind_eq_some_iff.1 H
    refine wls rfl rfl (stp_call (vs := []) Try.func11 rfl rfl rfl (ar0 ) (law07_lives_calls   r4 _  hr4) ?_)
    rintro _ w4 ⟨rfl, x4⟩
    refine ⟨_, rfl, ?_⟩
    have e5 := e2.trans x4
    refine wla rfl rfl (q_assign (v := (.bool r4)) rfl rfl) ?_
    refine wl_nil ?_
    refine W_th ?_
    refine W_ret ?_
    refine th_r ?_
    obtain rfl := Option.some.inj H
    refine rt1 (.bool r4) rfl rfl rfl rfl ?_
    exact ⟨rfl, e5⟩
  · replace H := (if_neg (ne_true_of_eq_false hb3)).symm.trans H
    refine wla rfl rfl (q_move (v := p0) rfl rfl) ?_
    refine wla rfl rfl (q_len rfl T27.sl rfl (hp0.lift (Lift.ext e2 _))) ?_
    refine wla rfl rfl (q_gtI rfl rfl rfl) ?_
    refine wla rfl rfl (q_pick_f (v := (.bool ((decide (20 < (a0parts.length : Int)))))) rfl rfl rfl) ?_
    refine wl_nil ?_
    refine W_th ?_
    refine W_cond _ rfl rfl (fun hb6 => ?_) (fun hb6 => ?_)
    · replace H := (if_pos (of_decide_eq_true hb6)).symm.trans H
      refine W_seq ?_
      refine W_reg (by kernel_rfl) ?_
      obtain ⟨r7, hr7, H⟩ := Option.bind_eq_some_iff.1 H
      refine wls rfl rfl (stp_call (vs := []) Try.func11 rfl rfl rfl (ar0 ) (law07_lives_calls   r7 _  hr7) ?_)
      rintro _ w7 ⟨rfl, x7⟩
      refine ⟨_, rfl, ?_⟩
      have e8 := e2.trans x7
      refine wla rfl rfl (q_assign (v := (.bool r7)) rfl rfl) ?_
      refine wl_nil ?_
      refine W_th ?_
      refine W_ret ?_
      refine th_r ?_
      obtain rfl := Option.some.inj H
      refine rt1 (.bool r7) rfl rfl rfl rfl ?_
      exact ⟨rfl, e8⟩
    · replace H := (if_neg (of_decide_eq_false hb6)).symm.trans H
      refine W_skip ?_
      refine W_th ?_
      refine W_seq ?_
      refine W_reg (by kernel_rfl) ?_
      refine wla rfl rfl (q_assign (v := (.slice none 0 0)) rfl rfl) ?_
      refine wl_nil ?_
      refine W_th ?_
      refine W_seq ?_
      refine W_seq ?_
      refine W_reg (by kernel_rfl) ?_
      refine wla rfl rfl (q_move (v := p0) rfl rfl) ?_
      refine wla rfl rfl (q_len rfl T27.sl rfl (hp0.lift (Lift.ext e2 _))) ?_
      refine wla rfl rfl (q_move (v := (i64 0)) rfl rfl) ?_
      refine wl_nil ?_
      refine W_th ?_
      obtain ⟨x9, G9, H⟩ := Option.bind_eq_some_iff.1 H
      refine W_mid (fun f w => ∃ y9, x9 = .inl y9 ∧ ∃ v3_37 : Value, f 0 = p0 ∧ f 3 = v3_37 ∧ f 42 = undef ∧ Ext w0 w ∧ OwK (Sc u8) w [v3_37] 5 v3_37 y9 ∧ Nw w0 v3_37) ?_ ?_
      · refine W_block ?_
        refine W_loop (fun s9 f w => ∃ v3_18 : Value, f 0 = p0 ∧ f 3 = v3_18 ∧ f 14 = p0 ∧ f 15 = (i64 ((a0parts.length : Int))) ∧ f 16 = (i64 s9.2) ∧ f 42 = undef ∧ Ext w0 w ∧ OwK (Sc u8) w [v3_18] 5 v3_18 s9.1 ∧ Nw w0 v3_18) G9 ?_ ?_
        · exact ⟨(.slice none 0 0), rfl, rfl, rfl, rfl, rfl, rfl, e2, (OwK.nil _ _ _ _), (Nw.nil _)⟩
        · rintro s9 _ _ w10 ⟨v3_10, s0_10, s3_10, s14_10, s15_10, s16_10, s42_10, hE10, o0_10, n0_10⟩ H9 hr9
          refine W_seq ?_
          refine W_reg (by kernel_rfl) ?_
          refine wla rfl rfl (q_ltI rfl s16_10 s15_10) ?_
          refine wl_nil ?_
          refine W_th ?_
          refine W_seq ?_
          refine W_cond _ rfl rfl (fun hb11 => ?_) (fun hb11 => ?_)
          · replace H9 := (if_pos (of_decide_eq_true hb11)).symm.trans H9
            refine W_skip ?_
            refine W_th ?_
            refine W_seq ?_
            refine W_block ?_
            refine W_seq ?_
            refine W_reg (by kernel_rfl) ?_
            obtain ⟨c12, hc12, H9⟩ := Option.bind_eq_some_iff.1 H9
            refine wla rfl rfl (q_adr rfl T27 s14_10 s16_10 (hp0.lift (Lift.ext hE10 _)) hc12) ?_
            refine wlq_load rfl rfl rfl T27 rfl hp0 hc12 hE10 (fun v13 ha13 => ?_)
            refine wla rfl rfl (q_assign (v := v13) rfl rfl) ?_
            refine wl_nil ?_
            refine W_th ?_
            refine W_seq ?_
            refine W_seq ?_
            refine W_reg (by kernel_rfl) ?_
            refine wla rfl rfl (q_move (v := v13) rfl rfl) ?_
            refine wla rfl rfl (q_len rfl T22.sl rfl (ha13.lift (Lift.ext hE10 _))) ?_
            refine wla rfl rfl (q_gtI rfl rfl rfl) ?_
            refine wl_nil ?_
            refine W_th ?_
            refine W_cond _ rfl rfl (fun hb14 => ?_) (fun hb14 => ?_)
            · replace H9 := (if_pos (of_decide_eq_true hb14)).symm.trans H9
              refine W_seq ?_
              refine W_reg (by kernel_rfl) ?_
              refine wla rfl rfl (q_assign (v := (.bool true)) rfl rfl) ?_
              refine wl_nil ?_
              refine W_th ?_
              refine W_ret ?_
              refine th_r ?_
              refine bk_r ?_
              refine th_r ?_
              obtain rfl := Option.some.inj H9
              obtain rfl := hr9 _ rfl
              simp only [Sum.elim_inr] at H
              refine th_r ?_
              refine bk_r ?_
              refine th_r ?_
              refine th_r ?_
              obtain rfl := Option.some.inj H
              refine rt1 (.bool true) rfl rfl rfl s42_10 ?_
              exact ⟨rfl, hE10⟩
            · replace H9 := (if_neg (of_decide_eq_false hb14)).symm.trans H9
              refine W_skip ?_
              refine W_th ?_
              refine W_reg (by kernel_rfl) ?_
              refine wla rfl rfl (q_move (v := v3_10) rfl s3_10) ?_
              refine wla rfl rfl (q_move (v := v13) rfl rfl) ?_
              obtain ⟨c15, hc15, H9⟩ := Option.bind_eq_some_iff.1 H9
              refine wls rfl rfl (stp_append (R := (Sc u8)) (v := v3_10) (u := v13) (Sc.stab _) [] [] rfl T22 rfl rfl o0_10 (ha13.lift (Lift.ext hE10 _)) (fun _ _ h => h) hc15 oc_u8 ?_)
              intro v15 w15 o15 g15 nx15 l15
              have e16 := hE10.grown g15 n0_10
              have n17 := Nw.nxt hE10 n0_10 nx15
              refine wla rfl rfl (q_assign (v := v15) rfl rfl) ?_
              refine wl_nil ?_
              refine bk_n ?_
              refine W_th ?_
              refine W_reg (by kernel_rfl) ?_
              refine wla rfl rfl (q_addI rfl s16_10 rfl) ?_
              refine wla rfl rfl (q_move (v := (i64 ((wI (s9.2 + 1))))) rfl rfl) ?_
              refine wl_nil ?_
              obtain rfl := Option.some.inj H9
              exact ⟨_, rfl, v15, s0_10, rfl, s14_10, s15_10, rfl, s42_10, e16, o15, n17⟩
          · replace H9 := (if_neg (of_decide_eq_false hb11)).symm.trans H9
            refine W_exit ?_
            refine th_x ?_
            obtain rfl := Option.some.inj H9
            obtain rfl := hr9 _ rfl
            refine th_x ?_
            refine bk_x ?_
            exact ⟨_, rfl, v3_10, s0_10, s3_10, s42_10, hE10, o0_10, n0_10⟩
      · rintro _ w19 ⟨y9, rfl, v3_19, s0_19, s3_19, s42_19, hE19, o0_19, n0_19⟩
        simp only [Sum.elim_inl] at H
        refine W_th ?_
        refine W_seq ?_
        obtain ⟨x20, H20, H⟩ := Option.bind_eq_some_iff.1 H
        refine W_mid (fun f w => f 2 = (.bool x20) ∧ f 42 = undef ∧ Ext w0 w) ?_ ?_
        · refine W_draw2 [2, 6] [(0, 0), (3, 0)] 1 4 [(2, 1), (4, 2), (5, 2), (6, 1), (7, 0), (8, 0), (9, 0), (10, 2), (11, 2), (12, 0), (13, 0), (14, 0), (15, 0)] [(1, 2), (2, 1), (5, 2), (6, 1), (7, 0), (8, 0), (9, 0), (10, 2), (11, 2), (12, 0), (13, 0), (14, 0), (15, 0)] mixed (by kernel_rfl) (by kernel_rfl) (by kernel_rfl) (by kernel_rfl) ?_
          have x21 := Ext.drew w19
          replace o0_19 := o0_19.extL (Sc.stab _) x21 (Lift.ext x21 _)
          have e22 := hE19.trans x21
          refine wsa rfl rfl rfl (q_move (v := p0) rfl s0_19) ?_
          refine wsa rfl rfl rfl (q_move (v := v3_19) rfl s3_19) ?_
          refine ws_nil ⟨?_, ?_⟩
          · obtain ⟨r23, hr23, H20⟩ := Option.bind_eq_some_iff.1 H20
            refine wsc rfl (by kernel_rfl) rfl rfl (stp_call (vs := [p0]) Try.func12 rfl rfl rfl (ar1 rfl) (hash_Sum_calls a0parts p0 r23 _ (hp0.lift (Lift.ext e22 _)) hr23) ?_)
            rintro _ w23 ⟨v23, rfl, x23, n23_0, o23_0⟩
            refine ⟨_, rfl, ?_⟩
            have i23_0 : By w23 [v3_19] v23 r23 := OwK.slk (Sc.stab _) _ (OwK.scal o23_0 (v23 :: [v3_19])) (fun k hk => (Old.cons (Old.nil _) o0_19.lt) k (n23_0 k hk)) (fun _ h => h.2)
            replace o0_19 := o0_19.extL (Sc.stab _) x23 (Lift.ext x23 _)
            have e24 := e22.trans x23
            refine wsq rfl rfl rfl (q_str rfl T22 rfl rfl rfl i23_0) ?_
            have i26 : By w23 [] v3_19 y9 := OwK.slk (Sc.stab _) [] o0_19 (fun k hk => trivial) (show ∀ k, Av [v3_19] k → Av [] k from fun _ h => trivial)
            replace i23_0 := i23_0.lift (Lift.sub (show ∀ k, Av [v3_19] k → Av [] k from fun _ h => trivial))
            refine wss rfl rfl rfl (stp_lit (L := []) (R := By) [v3_19] ([y9] : List (List UInt8)) rfl T27 rfl (by exact ⟨rfl, rfl, trivial⟩) rfl (LitR.cells (R := By) (w := w23) (L := []) (l := ([y9] : List (List UInt8))) (LitR.cons i26 LitR.nil) (fun u x h => cells_sl u x h)) rfl (LitR.all (R := By) (w := w23) (L := []) (l := ([y9] : List (List UInt8))) (SlK.stab (Sc.stab _)) (LitR.cons i26 LitR.nil)) ?_)
            intro v25 w25 o25 n25 g25 l25
            refine ⟨grown_ext g25, ?_⟩
            have x25 := grown_ext g25
            have i25 : Rw w25 [] v25 (([y9] : List (List UInt8))) := OwK.slk (SlK.stab (Sc.stab _)) _ o25 (fun k hk => (Old.nil _) k (n25 k hk)) (fun _ h => h.2)
            replace i23_0 := i23_0.lift (Lift.ext x25 _)
            replace i26 := i26.lift (Lift.ext x25 _)
            have e27 := e24.trans x25
            obtain ⟨r28, hr28, H20⟩ := Option.bind_eq_some_iff.1 H20
            refine wss rfl rfl rfl (stp_call (vs := [v25]) Try.func12 rfl rfl rfl (ar1 rfl) (hash_Sum_calls ([y9] : List (List UInt8)) v25 r28 _ (i25.lift (Lift.sub (fun _ _ => trivial))) hr28) ?_)
            rintro _ w28 ⟨v28, rfl, x28, n28_0, o28_0⟩
            refine ⟨_, rfl, x28, ?_⟩
            have i28_0 : By w28 [] v28 r28 := OwK.slk (Sc.stab _) _ (OwK.scal o28_0 (v28 :: [])) (fun k hk => (Old.nil _) k (n28_0 k hk)) (fun _ h => h.2)
            replace i23_0 := i23_0.lift (Lift.ext x28 _)
            replace i26 := i26.lift (Lift.ext x28 _)
            replace i25 := i25.lift (Lift.ext x28 _)
            have e29 := e27.trans x28
            refine wsq rfl rfl rfl (q_str rfl T22 rfl rfl rfl i28_0) ?_
            refine wsa rfl rfl rfl (q_eqS rfl rfl rfl) ?_
            refine wsb rfl rfl rfl (q_move (v := (.bool ((decide (r23 = r28))))) rfl rfl) (fun hb30 => ?_) (fun hb30 => ?_)
            · replace H20 := (if_pos (of_decide_eq_true hb30)).symm.trans H20
              refine wsa rfl rfl rfl (q_move (v := v3_19) rfl s3_19) ?_
              refine wsc rfl (by kernel_rfl) rfl rfl (stp_lit (L := []) (R := By) [v3_19] ([y9] : List (List UInt8)) rfl T27 rfl (by exact ⟨rfl, rfl, trivial⟩) rfl (LitR.cells (R := By) (w := w28) (L := []) (l := ([y9] : List (List UInt8))) (LitR.cons i26 LitR.nil) (fun u x h => cells_sl u x h)) rfl (LitR.all (R := By) (w := w28) (L := []) (l := ([y9] : List (List UInt8))) (SlK.stab (Sc.stab _)) (LitR.cons i26 LitR.nil)) ?_)
              intro v31 w31 o31 n31 g31 l31
              have x31 := grown_ext g31
              have i31 : Rw w31 [] v31 (([y9] : List (List UInt8))) := OwK.slk (SlK.stab (Sc.stab _)) _ o31 (fun k hk => (Old.nil _) k (n31 k hk)) (fun _ h => h.2)
              replace i23_0 := i23_0.lift (Lift.ext x31 _)
              replace i26 := i26.lift (Lift.ext x31 _)
              replace i25 := i25.lift (Lift.ext x31 _)
              replace i28_0 := i28_0.lift (Lift.ext x31 _)
              have e32 := e29.trans x31
              obtain ⟨r33, hr33, H20⟩ := Option.bind_eq_some_iff.1 H20
              refine wsc rfl (by kernel_rfl) rfl rfl (stp_call (vs := [v31]) Try.func12 rfl rfl rfl (ar1 rfl) (hash_Sum_calls ([y9] : List (List UInt8)) v31 r33 _ (i31.lift (Lift.sub (fun _ _ => trivial))) hr33) ?_)
              rintro _ w33 ⟨v33, rfl, x33, n33_0, o33_0⟩
              refine ⟨_, rfl, ?_⟩
              have i33_0 : By w33 [] v33 r33 := OwK.slk (Sc.stab _) _ (OwK.scal o33_0 (v33 :: [])) (fun k hk => (Old.nil _) k (n33_0 k hk)) (fun _ h => h.2)
              replace i23_0 := i23_0.lift (Lift.ext x33 _)
              replace i26 := i26.lift (Lift.ext x33 _)
              replace i25 := i25.lift (Lift.ext x33 _)
              replace i28_0 := i28_0.lift (Lift.ext x33 _)
              replace i31 := i31.lift (Lift.ext x33 _)
              have e34 := e32.trans x33
              refine wsa rfl rfl rfl (q_len rfl T22.sl rfl i33_0) ?_
              refine wsa rfl rfl rfl (q_eqI rfl rfl rfl) ?_
              refine wsa rfl rfl rfl (q_pick_t (v := (.bool ((decide ((r33.length : Int) = 32))))) rfl rfl rfl) ?_
              refine wsa rfl rfl rfl (q_assign (v := (.bool ((decide ((r33.length : Int) = 32))))) rfl rfl) ?_
              refine ws_nil ?_
              obtain rfl := Option.some.inj H20
              exact ⟨rfl, s42_19, e34⟩
            · replace H20 := (if_neg (of_decide_eq_false hb30)).symm.trans H20
              refine wsk rfl rfl rfl ?_
              refine wsk rfl rfl rfl ?_
              refine wsk rfl rfl rfl ?_
              refine wsk rfl rfl rfl ?_
              refine wsk rfl rfl rfl ?_
              refine wsa rfl rfl rfl (q_pick_f (v := (.bool false)) rfl rfl rfl) ?_
              refine wsa rfl rfl rfl (q_assign (v := (.bool false)) rfl rfl) ?_
              refine ws_nil ?_
              obtain rfl := Option.some.inj H20
              exact ⟨rfl, s42_19, e29⟩
          · have i24 : By (World.drew w19) [] v3_19 y9 := OwK.slk (Sc.stab _) [] o0_19 (fun k hk => trivial) (show ∀ k, Av [v3_19] k → Av [] k from fun _ h => trivial)
            refine wss rfl rfl rfl (stp_lit (L := []) (R := By) [v3_19] ([y9] : List (List UInt8)) rfl T27 rfl (by exact ⟨rfl, rfl, trivial⟩) rfl (LitR.cells (R := By) (w := (World.drew w19)) (L := []) (l := ([y9] : List (List UInt8))) (LitR.cons i24 LitR.nil) (fun u x h => cells_sl u x h)) rfl (LitR.all (R := By) (w := (World.drew w19)) (L := []) (l := ([y9] : List (List UInt8))) (SlK.stab (Sc.stab _)) (LitR.cons i24 LitR.nil)) ?_)
            intro v23 w23 o23 n23 g23 l23
            refine ⟨grown_ext g23, ?_⟩
            have x23 := grown_ext g23
            have i23 : Rw w23 [] v23 (([y9] : List (List UInt8))) := OwK.slk (SlK.stab (Sc.stab _)) _ o23 (fun k hk => (Old.nil _) k (n23 k hk)) (fun _ h => h.2)
            replace i24 := i24.lift (Lift.ext x23 _)
            have e25 := e22.trans x23
            obtain ⟨r26, hr26, H20⟩ := Option.bind_eq_some_iff.1 H20
            refine wsc rfl (by kernel_rfl) rfl rfl (stp_call (vs := [p0]) Try.func12 rfl rfl rfl (ar1 rfl) (hash_Sum_calls a0parts p0 r26 _ (hp0.lift (Lift.ext e25 _)) hr26) ?_)
            rintro _ w26 ⟨v26, rfl, x26, n26_0, o26_0⟩
            refine ⟨_, rfl, ?_⟩
            have i26_0 : By w26 [] v26 r26 := OwK.slk (Sc.stab _) _ (OwK.scal o26_0 (v26 :: [])) (fun k hk => (Old.nil _) k (n26_0 k hk)) (fun _ h => h.2)
            replace i24 := i24.lift (Lift.ext x26 _)
            replace i23 := i23.lift (Lift.ext x26 _)
            have e27 := e25.trans x26
            refine wsq rfl rfl rfl (q_str rfl T22 rfl rfl rfl i26_0) ?_
            obtain ⟨r28, hr28, H20⟩ := Option.bind_eq_some_iff.1 H20
            refine wss rfl rfl rfl (stp_call (vs := [v23]) Try.func12 rfl rfl rfl (ar1 rfl) (hash_Sum_calls ([y9] : List (List UInt8)) v23 r28 _ (i23.lift (Lift.sub (fun _ _ => trivial))) hr28) ?_)
            rintro _ w28 ⟨v28, rfl, x28, n28_0, o28_0⟩
            refine ⟨_, rfl, x28, ?_⟩
            have i28_0 : By w28 [] v28 r28 := OwK.slk (Sc.stab _) _ (OwK.scal o28_0 (v28 :: [])) (fun k hk => (Old.nil _) k (n28_0 k hk)) (fun _ h => h.2)
            replace i24 := i24.lift (Lift.ext x28 _)
            replace i23 := i23.lift (Lift.ext x28 _)
            replace i26_0 := i26_0.lift (Lift.ext x28 _)
            have e29 := e27.trans x28
            refine wsq rfl rfl rfl (q_str rfl T22 rfl rfl rfl i28_0) ?_
            refine wsa rfl rfl rfl (q_eqS rfl rfl rfl) ?_
            refine wsb rfl rfl rfl (q_move (v := (.bool ((decide (r26 = r28))))) rfl rfl) (fun hb30 => ?_) (fun hb30 => ?_)
            · replace H20 := (if_pos (of_decide_eq_true hb30)).symm.trans H20
              refine wsa rfl rfl rfl (q_move (v := v3_19) rfl s3_19) ?_
              refine wsc rfl (by kernel_rfl) rfl rfl (stp_lit (L := []) (R := By) [v3_19] ([y9] : List (List UInt8)) rfl T27 rfl (by exact ⟨rfl, rfl, trivial⟩) rfl (LitR.cells (R := By) (w := w28) (L := []) (l := ([y9] : List (List UInt8))) (LitR.cons i24 LitR.nil) (fun u x h => cells_sl u x h)) rfl (LitR.all (R := By) (w := w28) (L := []) (l := ([y9] : List (List UInt8))) (SlK.stab (Sc.stab _)) (LitR.cons i24 LitR.nil)) ?_)
              intro v31 w31 o31 n31 g31 l31
              have x31 := grown_ext g31
              have i31 : Rw w31 [] v31 (([y9] : List (List UInt8))) := OwK.slk (SlK.stab (Sc.stab _)) _ o31 (fun k hk => (Old.nil _) k (n31 k hk)) (fun _ h => h.2)
              replace i24 := i24.lift (Lift.ext x31 _)
              replace i23 := i23.lift (Lift.ext x31 _)
              replace i26_0 := i26_0.lift (Lift.ext x31 _)
              replace i28_0 := i28_0.lift (Lift.ext x31 _)
              have e32 := e29.trans x31
              obtain ⟨r33, hr33, H20⟩ := Option.bind_eq_some_iff.1 H20
              refine wsc rfl (by kernel_rfl) rfl rfl (stp_call (vs := [v31]) Try.func12 rfl rfl rfl (ar1 rfl) (hash_Sum_calls ([y9] : List (List UInt8)) v31 r33 _ (i31.lift (Lift.sub (fun _ _ => trivial))) hr33) ?_)
              rintro _ w33 ⟨v33, rfl, x33, n33_0, o33_0⟩
              refine ⟨_, rfl, ?_⟩
              have i33_0 : By w33 [] v33 r33 := OwK.slk (Sc.stab _) _ (OwK.scal o33_0 (v33 :: [])) (fun k hk => (Old.nil _) k (n33_0 k hk)) (fun _ h => h.2)
              replace i24 := i24.lift (Lift.ext x33 _)
              replace i23 := i23.lift (Lift.ext x33 _)
              replace i26_0 := i26_0.lift (Lift.ext x33 _)
              replace i28_0 := i28_0.lift (Lift.ext x33 _)
              replace i31 := i31.lift (Lift.ext x33 _)
              have e34 := e32.trans x33
              refine wsa rfl rfl rfl (q_len rfl T22.sl rfl i33_0) ?_
              refine wsa rfl rfl rfl (q_eqI rfl rfl rfl) ?_
              refine wsa rfl rfl rfl (q_pick_t (v := (.bool ((decide ((r33.length : Int) = 32))))) rfl rfl rfl) ?_
              refine wsa rfl rfl rfl (q_assign (v := (.bool ((decide ((r33.length : Int) = 32))))) rfl rfl) ?_
              refine ws_nil ?_
              obtain rfl := Option.some.inj H20
              exact ⟨rfl, s42_19, e34⟩
            · replace H20 := (if_neg (of_decide_eq_false hb30)).symm.trans H20
              refine wsk rfl rfl rfl ?_
              refine wsk rfl rfl rfl ?_
              refine wsk rfl rfl rfl ?_
              refine wsk rfl rfl rfl ?_
              refine wsk rfl rfl rfl ?_
              refine wsa rfl rfl rfl (q_pick_f (v := (.bool false)) rfl rfl rfl) ?_
              refine wsa rfl rfl rfl (q_assign (v := (.bool false)) rfl rfl) ?_
              refine ws_nil ?_
              obtain rfl := Option.some.inj H20
              exact ⟨rfl, s42_19, e29⟩
        · rintro _ w35 ⟨s2_35, s42_35, hE35⟩
          refine W_th ?_
          refine W_ret ?_
          obtain rfl := Option.some.inj H
          refine rt1 (.bool x20) rfl rfl s2_35 s42_35 ?_
          exact ⟨rfl, hE35⟩

end Gk

/- Chapter 7's laws, in plain Lean. No condition. -/


set_option linter.unusedSimpArgs false
set_option linter.unusedVariables false
namespace Gk
open Gf

theorem abc : sha [97, 98, 99] = [186, 120, 22, 191, 143, 1, 207, 234, 65, 65, 64, 222, 93, 174, 34, 35, 176, 3, 97, 163, 150, 23, 122, 156, 180, 16, 255, 97, 242, 0, 21, 173] := by decide +kernel
theorem lives07 : law07_lives = some true := by
  unfold law07_lives
  rw [hash_Sum_eq _ (by decide) (by decide), show ([[97, 98, 99]] : List (List UInt8)).flatten = [97, 98, 99] by rfl, abc]
  decide
theorem law07_HashSums_true (b : List UInt8) : law07_HashSums b = some true := by
  have hm : (1000000 : Nat) + 200 ≤ most := by decide
  unfold law07_HashSums
  rw [lives07, Option.bind_some, if_neg (by decide)]
  by_cases h : 300 < (b.length : Int)
  · rw [if_pos h]; rfl
  · rw [if_neg h, appL_nil b (by omega), Option.bind_some, hash_Sum_eq _ (by simp; omega) (by simp), Option.bind_some, ref_Sum_eq b (by omega), Option.bind_some, if_pos (by simp)]; simp
theorem flat_take_succ {parts : List (List UInt8)} {i : Nat} (h : i < parts.length) : (parts.take (i + 1)).flatten = (parts.take i).flatten ++ parts.getD i [] := by
  rw [rows_snoc h, List.flatten_append]; simp
theorem law07_HashParts_true (parts : List (List UInt8)) : law07_HashParts parts = some true := by
  have hm : (1000000 : Nat) + 200 ≤ most := by decide
  unfold law07_HashParts
  rw [lives07, Option.bind_some, if_neg (by decide)]
  by_cases h : 20 < (parts.length : Int)
  · rw [if_pos h]; rfl
  · rw [if_neg h]
    have hp : parts.length ≤ 20 := by omega
    obtain ⟨x, hx, hpost⟩ := iterC_inv (body := fun s9 : List UInt8 × Int =>
      (if s9.2 < (parts.length : Int) then
      ((idx parts s9.2).bind fun c12 =>
      (if 100 < (c12.length : Int) then
      some (.inr (.inr true))
      else
      ((appL s9.1 c12).bind fun c15 =>
      some (.inl (c15, (wI (s9.2 + 1)))))))
      else
      some (.inr (.inl s9.1)))) (fun s => ∃ i : Nat, i ≤ parts.length ∧ s.2 = (i : Int) ∧ s.1 = (parts.take i).flatten ∧ s.1.length ≤ 100 * i) (fun s => parts.length - s.2.toNat)
      (fun o : List UInt8 ⊕ Bool => o = .inr true ∨ (o = .inl parts.flatten ∧ parts.flatten.length ≤ 100 * parts.length)) (by
        rintro ⟨l, _⟩ ⟨i, hi, rfl, hl, hle⟩
        simp only at hl hle ⊢
        by_cases hlt : i < parts.length
        · rw [if_pos (by omega), idx_getD hlt, Option.bind_some]
          by_cases hc : 100 < ((parts.getD i []).length : Int)
          · right; rw [if_pos hc]; exact ⟨_, rfl, .inl rfl⟩
          · left
            rw [if_neg hc]
            unfold appL
            rw [if_pos (by omega), Option.bind_some, wI_succ _ (by omega)]
            refine ⟨_, rfl, ⟨i + 1, by omega, rfl, ?_, ?_⟩, ?_⟩
            · simp only []; rw [flat_take_succ hlt, ← hl]
            · simp only [List.length_append]; omega
            · simp only [Int.toNat_natCast]; omega
        · obtain rfl : i = parts.length := by omega
          right
          rw [if_neg (by omega)]
          rw [List.take_length] at hl
          exact ⟨_, rfl, .inr ⟨by rw [hl], by rw [← hl]; exact hle⟩⟩) ([], 0) ⟨0, by omega, rfl, by simp, by simp⟩
    refine bind_of hx ?_
    rcases hpost with rfl | ⟨rfl, hf⟩
    · rfl
    · simp only [Sum.elim_inl]
      rw [hash_Sum_eq parts (by omega) (by omega), Option.bind_some, hash_Sum_eq [parts.flatten] (by rw [List.flatten_cons, List.flatten_nil, List.append_nil]; omega) (by simp), Option.bind_some, if_pos (by rw [List.flatten_cons, List.flatten_nil, List.append_nil]), Option.bind_some, sha_len]; rfl
end Gk
